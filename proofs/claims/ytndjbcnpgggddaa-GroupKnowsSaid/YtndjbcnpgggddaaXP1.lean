import Derived.Test.YtndjbcnpgggddaaXFn
import Derived.Test.YtndjbcnpgggddaaXS
import Derived.Test.YtndjbcnpgggddaaAmK0
import Derived.Test.YtndjbcnpgggddaaXP0
namespace Go.Proofs.Ytndjbcnpgggddaa
open Go.AM Go.AX
set_option linter.unusedVariables false
set_option maxRecDepth 20000
theorem bc_group_tape:BodyC cx 69 72 [.c 6 54,.t 7] k69:=⟨Enters.of Try.func69 (by kernel_rfl) (by kernel_rfl),_,_,Try.func69,rfl,by kernel_rfl,rfl,rfl⟩
theorem ok_group_tape (t1:Tape_api) (s2:Seal_api) (rows3:(List (List UInt8))) (r:(Tape_api×Int)) (hX:X.group_tape t1 s2 rows3=some r):Fun Try.prog 69 [Enc.v (t1:Tape_api),Enc.v (s2:Seal_api),Enc.v (rows3:(List (List UInt8)))] (·= .tup 2 (ofL [Enc.v r.1,Enc.v r.2])):=by
 refine Fun.ofC (C:=cx) bc_group_tape (Nat.le_of_ble_eq_true rfl) (allVal.mem ⟨(by exact (v_val _)),(by exact (v_val _)),(by exact (v_val _)),trivial⟩) ?_
 unfold k69
 have nd:Nd []:=Nd_nil
 unfold X.group_tape at hX
 refine SR fun K4 hK4=>?_
 refine TLc.boxV (lu:=[Enc.v t1.Label,Enc.v t1.Cap,Enc.v t1.Blocks,Enc.v t1.Lost]) nd rfl (Cells_v (t1:Tape_api)) rfl ?_
 refine TLc.boxV (lu:=[Enc.v s2.Number,Enc.v s2.Index,Enc.v s2.Data,Enc.v s2.Parity,Enc.v s2.Labels]) nd rfl (Cells_v (s2:Seal_api)) rfl ?_
 refine TLc.alO (l:=[Enc.v ((0:Int):Int),Enc.v ((0:Int):Int),.nils,Enc.v false]) nd ty54 ti54_z rfl rfl fun b5 nd=>?_
 refine M rfl rfl (TL.nil (hK4 _ _ ?_))
 refine TK.ownC (α:=(List UInt8)) nd (j:=0) rfl 2 25 (.inl rfl) fun b6 nd=>?_
 refine SR fun K7 hK7=>?_
 refine TLc.litO nd ([(80:UInt8)]:List UInt8) kd25 ty5 rfl ⟨⟨rfl,rfl⟩,trivial⟩ rfl rfl rfl fun b8 nd=>?_
 refine TLc.cvtF (xs:=([(80:UInt8)]:List UInt8)) nd kd25 kd5 rfl (j:=0) rfl (by simp) rfl fun nd=>?_
 refine P1 (p_bld (l:=Enc.cl ((Unit_api.mk (1:Int) (0:Int) (0:Int) ([(80:UInt8)]:List UInt8)):Unit_api)) ty68 rfl all68 rfl (fun _=>⟨⟨rfl,trivial,rfl⟩,⟨rfl,trivial,rfl⟩,trivial⟩)) rfl rfl ?_
 refine TLc.litO nd ([(Unit_api.mk (1:Int) (0:Int) (0:Int) ([(80:UInt8)]:List UInt8))]:List Unit_api) kd151 ty68 rfl ⟨⟨rfl,rfl⟩,trivial⟩ rfl rfl rfl fun b9 nd=>?_
 refine M rfl rfl (TL.nil (hK7 _ _ ?_))
 refine TK.seq_k fun K10 hK10=>?_
 refine SR fun K11 hK11=>M rfl rfl (P1 (p_lenL (xs:=rows3) kd22 rfl) rfl rfl (M rfl rfl (TL.nil (hK11 _ _ ?_))))
 refine TK.block ?_
 obtain ⟨o12,hO12,hA12⟩:=bind_some hX
 have E12:∀(l21:List Unit_api) (env:Env) (h:Hp),(∃b19 b18 b20,keepE [3,4,6,8] env=[(3,true,.vref (ofL [Enc.v t1.Label,Enc.v t1.Cap,Enc.v t1.Blocks,Enc.v t1.Lost]) 4 0),(4,true,.vref (ofL [Enc.v s2.Number,Enc.v s2.Index,Enc.v s2.Data,Enc.v s2.Parity,Enc.v s2.Labels]) 5 0),(6,true,.ref b18 0 4),(8,true,OL b20 l21)]∧Nd [(b19,RL (α:=(List UInt8)) 25 ([]:List (List UInt8))),(b18,RV 54 [Enc.v ((0:Int):Int),Enc.v ((0:Int):Int),OL (α:=(List UInt8)) b19 ([]:List (List UInt8)),Enc.v false]),(b20,RL (α:=Unit_api) 68 l21)]∧HSub [(b19,RL (α:=(List UInt8)) 25 ([]:List (List UInt8))),(b18,RV 54 [Enc.v ((0:Int):Int),Enc.v ((0:Int):Int),OL (α:=(List UInt8)) b19 ([]:List (List UInt8)),Enc.v false]),(b20,RL (α:=Unit_api) 68 l21)] h)→X.group_tape_e12 s2 t1 l21=some r→K10 env h:=by
  intro l21 env h hE hX
  obtain ⟨b19,b18,b20,henv,nd,hs⟩:=hE
  unfold X.group_tape_e12 at hX
  refine hK10 _ _ (TK.keep [3,4,6,8] ?_)
  rw[henv]
  refine TK.subH hs ?_
  refine SR fun K22 hK22=>M rfl rfl (P1 (p_ldRa (l':=Enc.cl (s2:Seal_api)) ty50 rfl rfl rfl rfl rfl (Nat.le_of_ble_eq_true rfl)) rfl rfl ?_)
  obtain ⟨r23,hr23,hX⟩:=bind_some hX
  refine TL.cvX rfl rfl rfl (fun _=>⟨rfl,⟨rfl,trivial⟩⟩) (fun e=>ok_record_SealBytes s2 _ hr23) ?_
  refine P1 (p_bld (l:=Enc.cl ((Unit_api.mk (5:Int) (0:Int) (0:Int) r23):Unit_api)) ty68 rfl all68 rfl (fun _=>⟨⟨rfl,trivial,rfl⟩,⟨rfl,trivial,rfl⟩,trivial⟩)) rfl rfl ?_
  refine TLc.lit ([(Unit_api.mk (5:Int) (0:Int) (0:Int) r23)]:List Unit_api) kd151 ty68 rfl ⟨⟨rfl,rfl⟩,trivial⟩ rfl rfl rfl ?_
  obtain ⟨u24,hu24,hX⟩:=bind_some hX
  refine TLc.appO nd kd151 bo151 ty68 rfl rfl (j:=2) rfl rfl (Src_L _) Dc (need_t hu24) rfl fun nd=>?_
  refine M rfl rfl (TL.nil (hK22 _ _ (SR fun K25 hK25=>P1 (p_faR fs54_0 Dc rfl) rfl rfl (P1 (p_ldR (v:=Enc.v t1.Label) ty3 rfl rfl rfl rfl rfl rfl) rfl rfl (P1 (p_faR fs54_1 Dc rfl) rfl rfl (P1 (p_ldR (v:=Enc.v t1.Cap) ty3 rfl rfl rfl rfl rfl rfl) rfl rfl ?_))))))
  refine P1 (p_bld (l:=[Enc.v t1.Label,Enc.v t1.Cap,.nils,Enc.v false]) ty54 rfl all54 rfl (fun _=>⟨⟨rfl,trivial,rfl⟩,⟨rfl,trivial,rfl⟩,trivial⟩)) rfl rfl ?_
  refine TLc.alO (l:=[Enc.v ((0:Int):Int),Enc.v ((0:Int):Int),.nils,Enc.v false]) nd ty54 ti54_z rfl rfl fun b26 nd=>?_
  refine TLc.stV (lu:=[Enc.v t1.Label,Enc.v t1.Cap,.nils,Enc.v false]) nd ty54 rfl (j:=0) rfl rfl rfl (Cells_agg rfl (allA.mem ⟨trivial,trivial,trivial,trivial,trivial⟩)) rfl rfl [Enc.v t1.Label,Enc.v t1.Cap,.nils,Enc.v false] rfl fun nd=>?_
  refine TL.nil (hK25 _ _ ?_)
  refine TK.ownC (α:=(List UInt8)) nd (j:=0) rfl 2 25 (.inl rfl) fun b27 nd=>?_
  refine TK.seq_k fun K28 hK28=>?_
  refine SR fun K29 hK29=>M rfl rfl (P1 (p_lenR kd151 rfl (fun _=>refOK_of nd (j:=4) rfl rfl)) rfl rfl (M rfl rfl (TL.nil (hK29 _ _ ?_))))
  refine TK.block ?_
  obtain ⟨o30,hO30,hA30⟩:=bind_some hX
  have E30:∀(c44:Int) (c45:Int) (l47:List (List UInt8)) (c48:Bool) (env:Env) (h:Hp),(∃b42 b41 b46 b43,keepE [6,11] env=[(6,true,.ref b41 0 4),(11,true,.ref b43 0 4)]∧Nd [(b42,RL (α:=(List UInt8)) 25 ([]:List (List UInt8))),(b41,RV 54 [Enc.v ((0:Int):Int),Enc.v ((0:Int):Int),OL (α:=(List UInt8)) b42 ([]:List (List UInt8)),Enc.v false]),(b46,RL (α:=(List UInt8)) 25 l47),(b43,RV 54 [Enc.v c44,Enc.v c45,OL b46 l47,Enc.v c48])]∧HSub [(b42,RL (α:=(List UInt8)) 25 ([]:List (List UInt8))),(b41,RV 54 [Enc.v ((0:Int):Int),Enc.v ((0:Int):Int),OL (α:=(List UInt8)) b42 ([]:List (List UInt8)),Enc.v false]),(b46,RL (α:=(List UInt8)) 25 l47),(b43,RV 54 [Enc.v c44,Enc.v c45,OL b46 l47,Enc.v c48])] h)→X.group_tape_e30 c44 c45 l47 c48=some r→K28 env h:=by
   intro c44 c45 l47 c48 env h hE hX
   obtain ⟨b42,b41,b46,b43,henv,nd,hs⟩:=hE
   unfold X.group_tape_e30 at hX
   refine hK28 _ _ (TK.keep [6,11] ?_)
   rw[henv]
   refine TK.subH hs ?_
   refine SR fun K49 hK49=>?_
   refine TL.layR (l2':=[Enc.v c44,Enc.v c45,Enc.v l47,Enc.v c48]) [] nd (j:=2) rfl 3 rfl rfl ⟨fix_id _,fix_id _,fix_OL nd (j:=2) rfl,fix_id _,trivial⟩ trivial fun nd=>?_
   refine P1 (p_ldVa (l':=Enc.cl ((Tape_api.mk c44 c45 l47 c48):Tape_api)) ty54 rfl rfl nd (j:=2) rfl rfl rfl rfl (Nat.le_of_ble_eq_true rfl)) rfl rfl ?_
   refine TLc.stV (lu:=Enc.cl ((Tape_api.mk c44 c45 l47 c48):Tape_api)) nd ty54 rfl (j:=1) rfl rfl rfl (Cells_v ((Tape_api.mk c44 c45 l47 c48):Tape_api)) rfl rfl [Enc.v ((Tape_api.mk c44 c45 l47 c48).Label:Int),Enc.v ((Tape_api.mk c44 c45 l47 c48).Cap:Int),Enc.v ((Tape_api.mk c44 c45 l47 c48).Blocks:(List (List UInt8))),Enc.v ((Tape_api.mk c44 c45 l47 c48).Lost:Bool)] rfl fun nd=>?_
   refine M rfl rfl (TL.nil (hK49 _ _ ?_))
   refine TK.ret ?_
   try dsimp only[thenQ]
   exact retC [Enc.v ((Tape_api.mk c44 c45 l47 c48):Tape_api),Enc.v ((0:Int):Int)] ⟨p_ldVa (l':=Enc.cl ((Tape_api.mk c44 c45 l47 c48):Tape_api)) ty54 rfl rfl nd (j:=1) rfl rfl rfl rfl (Nat.le_of_ble_eq_true rfl),p_mv rfl,trivial⟩ (by obtain rfl:=some_in hX;rfl) (tup_val (allVal.mem ⟨v_val _,v_val _,trivial⟩))
  refine TK.iter [3,6,11,43,44,45] (fun s env h=>match s with|(c34,c35,l37,c38,x40)=>∃b32 b31 b36 b33 b39,env=[(3,true,.vref (ofL [Enc.v t1.Label,Enc.v t1.Cap,Enc.v t1.Blocks,Enc.v t1.Lost]) 4 0),(6,true,.ref b31 0 4),(11,true,.ref b33 0 4),(43,true,OL (α:=Unit_api) b39 (l21++([(Unit_api.mk (5:Int) (0:Int) (0:Int) r23)]:List Unit_api))),(44,true,Enc.v (((l21++([(Unit_api.mk (5:Int) (0:Int) (0:Int) r23)]:List Unit_api)).length:Int):Int)),(45,true,Enc.v x40)]∧Nd [(b32,RL (α:=(List UInt8)) 25 ([]:List (List UInt8))),(b31,RV 54 [Enc.v ((0:Int):Int),Enc.v ((0:Int):Int),OL (α:=(List UInt8)) b32 ([]:List (List UInt8)),Enc.v false]),(b36,RL (α:=(List UInt8)) 25 l37),(b33,RV 54 [Enc.v c34,Enc.v c35,OL b36 l37,Enc.v c38]),(b39,RL (α:=Unit_api) 68 (l21++([(Unit_api.mk (5:Int) (0:Int) (0:Int) r23)]:List Unit_api)))]∧HSub [(b32,RL (α:=(List UInt8)) 25 ([]:List (List UInt8))),(b31,RV 54 [Enc.v ((0:Int):Int),Enc.v ((0:Int):Int),OL (α:=(List UInt8)) b32 ([]:List (List UInt8)),Enc.v false]),(b36,RL (α:=(List UInt8)) 25 l37),(b33,RV 54 [Enc.v c34,Enc.v c35,OL b36 l37,Enc.v c38]),(b39,RL (α:=Unit_api) 68 (l21++([(Unit_api.mk (5:Int) (0:Int) (0:Int) r23)]:List Unit_api)))] h) hO30 ⟨b19,b18,b27,b26,b20,rfl,(Nd.pick nd (is:=[2,3,0,1,4]) Dc),(HSub.pick nd (is:=[2,3,0,1,4]) Dc)⟩ ?_
  rintro ⟨c34,c35,l37,c38,x40⟩ env h x30x ⟨b32,b31,b36,b33,b39,rfl,nd,hs⟩ hX hR30
  refine TK.subH hs ?_
  unfold X.group_tape_s30 at hX
  try dsimp only at hX
  refine SR fun K50 hK50=>P1 (p_lss rfl rfl) rfl rfl (TL.nil (hK50 _ _ ?_))
  refine TK.seq_k fun K51 hK51=>?_
  refine TK.cond (b:=(decide (x40<((l21++([(Unit_api.mk (5:Int) (0:Int) (0:Int) r23)]:List Unit_api)).length:Int)))) rfl (fun hc=>?_) (fun hc=>?_)
  ·have hX:=ite_t hc hX
   refine TK.skip ?_
   refine hK51 _ _ ?_
   refine TK.seq_k fun K52 hK52=>?_
   refine TK.block ?_
   refine SR fun K53 hK53=>M rfl rfl ?_
   obtain ⟨e54,he54,hX⟩:=bind_some hX
   refine P1 (p_iaO (xs:=(l21++([(Unit_api.mk (5:Int) (0:Int) (0:Int) r23)]:List Unit_api))) kd151 ty68 rfl rfl rfl nd (j:=4) rfl (fun _=>he54)) rfl rfl (P1 (p_ldO (xs:=(l21++([(Unit_api.mk (5:Int) (0:Int) (0:Int) r23)]:List Unit_api))) (a:=e54) (e54:Unit_api) ty68 rfl rfl nd (j:=4) rfl (fun _=>he54) rfl rfl rfl) rfl rfl ?_)
   refine TLc.alO (l:=[Enc.v ((0:Int):Int),Enc.v ((0:Int):Int),Enc.v ((0:Int):Int),.nils]) nd ty68 ti68_z rfl rfl fun b55 nd=>?_
   refine M rfl rfl ?_
   refine TLc.stV (lu:=Enc.cl (e54:Unit_api)) nd ty68 rfl (j:=0) rfl rfl rfl (Cells_v (e54:Unit_api)) rfl rfl [Enc.v e54.Kind,Enc.v e54.Label,Enc.v e54.Number,Enc.v e54.Load] rfl fun nd=>?_
   refine TL.nil (hK53 _ _ (SR fun K56 hK56=>P1 (p_faR fs54_0 Dc rfl) rfl rfl (P1 (p_ldR (v:=Enc.v t1.Label) ty3 rfl rfl rfl rfl rfl rfl) rfl rfl (M rfl rfl (P1 (p_faV fs68_1 Dc rfl nd (j:=0) rfl rfl) rfl rfl ?_)))))
   refine TLc.stV (lu:=Enc.cl (t1.Label:Int)) nd ty3 rfl (j:=0) rfl rfl rfl (Cells_v (t1.Label:Int)) rfl rfl [Enc.v e54.Kind,Enc.v t1.Label,Enc.v e54.Number,Enc.v e54.Load] rfl fun nd=>?_
   refine P1 (p_faV fs68_2 Dc rfl nd (j:=0) rfl rfl) rfl rfl ?_
   refine TLc.stV (lu:=Enc.cl (x40:Int)) nd ty3 rfl (j:=0) rfl rfl rfl (Cells_v (x40:Int)) rfl rfl [Enc.v e54.Kind,Enc.v t1.Label,Enc.v x40,Enc.v e54.Load] rfl fun nd=>?_
   refine TL.nil (hK56 _ _ (SR fun K57 hK57=>P1 (p_ldVa (l':=Enc.cl ((Unit_api.mk e54.Kind t1.Label x40 e54.Load):Unit_api)) ty68 rfl rfl nd (j:=0) rfl rfl rfl rfl (Nat.le_of_ble_eq_true rfl)) rfl rfl ?_))
   obtain ⟨r58,hr58,hX⟩:=bind_some hX
   refine TL.cvX rfl rfl rfl (fun _=>⟨rfl,⟨rfl,trivial⟩⟩) (fun e=>ok_frame_Put (Unit_api.mk e54.Kind t1.Label x40 e54.Load) _ hr58) ?_
   refine M rfl rfl (P1 (p_ex rfl rfl Dc) rfl rfl (P1 (p_ex rfl rfl Dc) rfl rfl (M rfl rfl (M rfl rfl (TL.nil (hK57 _ _ ?_))))))
   refine TK.seq_k fun K59 hK59=>?_
   refine SR fun K60 hK60=>M rfl rfl (P1 (p_neq rfl rfl) rfl rfl (TL.nil (hK60 _ _ ?_)))
   refine TK.cond (b:=(r58.2 !=(0:Int))) rfl (fun hc=>?_) (fun hc=>?_)
   ·have hX:=ite_t hc hX
    refine SR fun K61 hK61=>P1 (p_bld (l:=[Enc.v ((0:Int):Int),Enc.v ((0:Int):Int),.nils,Enc.v false]) ty54 rfl all54 rfl (fun _=>trivial)) rfl rfl (M rfl rfl ?_)
    refine TLc.stV (lu:=[Enc.v ((0:Int):Int),Enc.v ((0:Int):Int),.nils,Enc.v false]) nd ty54 rfl (j:=2) rfl rfl rfl (Cells_agg rfl (allA.mem ⟨trivial,trivial,trivial,trivial,trivial⟩)) rfl rfl [Enc.v ((0:Int):Int),Enc.v ((0:Int):Int),.nils,Enc.v false] rfl fun nd=>?_
    refine M rfl rfl (TL.nil (hK61 _ _ ?_))
    refine TK.ownC (α:=(List UInt8)) nd (j:=2) rfl 2 25 (.inl rfl) fun b62 nd=>?_
    refine TK.layR (l2':=[Enc.v ((0:Int):Int),Enc.v ((0:Int):Int),Enc.v (([]:List (List UInt8)):(List (List UInt8))),Enc.v false]) [] nd (j:=0) rfl 3 rfl rfl ⟨fix_id _,fix_id _,fix_OL nd (j:=0) rfl,fix_id _,trivial⟩ trivial fun nd=>?_
    refine TK.ret ?_
    obtain rfl:=hR30 _ (some_in hX).symm
    replace hX:=hA30
    try dsimp only[thenQ]
    exact retC [Enc.v ((Tape_api.mk (0:Int) (0:Int) ([]:List (List UInt8)) false):Tape_api),Enc.v r58.2] ⟨p_ldVa (l':=Enc.cl ((Tape_api.mk (0:Int) (0:Int) ([]:List (List UInt8)) false):Tape_api)) ty54 rfl rfl nd (j:=2) rfl rfl rfl rfl (Nat.le_of_ble_eq_true rfl),p_mv rfl,trivial⟩ (by obtain rfl:=some_in hX;rfl) (tup_val (allVal.mem ⟨v_val _,v_val _,trivial⟩))
   ·have hX:=ite_f hc hX
    refine TK.skip ?_
    refine hK59 _ _ ?_
    refine TK.reg ?_
    refine P1 (p_faV fs54_2 Dc rfl nd (j:=4) rfl rfl) rfl rfl (P1 (p_ldV (v:=OL b36 l37) ty22 rfl rfl nd (j:=4) rfl rfl rfl rfl rfl) rfl rfl (M rfl rfl ?_))
    refine TLc.lit ([r58.1]:List (List UInt8)) kd22 ty25 rfl ⟨⟨rfl,rfl⟩,trivial⟩ rfl rfl rfl ?_
    obtain ⟨u63,hu63,hX⟩:=bind_some hX
    refine TLc.appO nd kd22 bo22 ty25 rfl rfl (j:=3) rfl rfl (Src_L _) Dc (need_t hu63) rfl fun nd=>?_
    refine P1 (p_faV fs54_2 Dc rfl nd (j:=4) rfl rfl) rfl rfl ?_
    refine TLc.stV (lu:=[OL (α:=(List UInt8)) b36 (l37++([r58.1]:List (List UInt8)))]) nd ty22 rfl (j:=4) rfl rfl rfl (Cells_rs (refOK_of nd (j:=3) rfl rfl)) rfl rfl [Enc.v c34,Enc.v c35,OL (α:=(List UInt8)) b36 (l37++([r58.1]:List (List UInt8))),Enc.v c38] rfl fun nd=>?_
    refine TL.nil (hK52 _ _ ?_)
    refine TK.reg ?_
    refine P1 (p_add rfl rfl) rfl rfl (M rfl rfl (TL.nil ?_))
    exact ⟨_,(some_in hX).symm,b32,b31,b36,b33,b39,rfl,(Nd.pick nd (is:=[1,2,3,4,5]) Dc),(HSub.pick nd (is:=[1,2,3,4,5]) Dc)⟩
  ·have hX:=ite_f hc hX
   refine TK.exit ?_
   obtain rfl:=hR30 _ (some_in hX).symm
   exact E30 c34 c35 l37 c38 _ _ ⟨b32,b31,b36,b33,rfl,(Nd.pick nd (is:=[0,1,2,3]) Dc),(HSub.pick nd (is:=[0,1,2,3]) Dc)⟩ hA30
 refine TK.iter [3,4,6,8,20,21,22] (fun s env h=>match s with|(l16,x17)=>∃b14 b13 b15,env=[(3,true,.vref (ofL [Enc.v t1.Label,Enc.v t1.Cap,Enc.v t1.Blocks,Enc.v t1.Lost]) 4 0),(4,true,.vref (ofL [Enc.v s2.Number,Enc.v s2.Index,Enc.v s2.Data,Enc.v s2.Parity,Enc.v s2.Labels]) 5 0),(6,true,.ref b13 0 4),(8,true,OL b15 l16),(20,true,Enc.v rows3),(21,true,Enc.v ((rows3.length:Int):Int)),(22,true,Enc.v x17)]∧Nd [(b14,RL (α:=(List UInt8)) 25 ([]:List (List UInt8))),(b13,RV 54 [Enc.v ((0:Int):Int),Enc.v ((0:Int):Int),OL (α:=(List UInt8)) b14 ([]:List (List UInt8)),Enc.v false]),(b15,RL (α:=Unit_api) 68 l16)]∧HSub [(b14,RL (α:=(List UInt8)) 25 ([]:List (List UInt8))),(b13,RV 54 [Enc.v ((0:Int):Int),Enc.v ((0:Int):Int),OL (α:=(List UInt8)) b14 ([]:List (List UInt8)),Enc.v false]),(b15,RL (α:=Unit_api) 68 l16)] h) hO12 ⟨b6,b5,b9,rfl,(Nd.pick nd (is:=[1,2,0]) Dc),(HSub.pick nd (is:=[1,2,0]) Dc)⟩ ?_
 rintro ⟨l16,x17⟩ env h x12x ⟨b14,b13,b15,rfl,nd,hs⟩ hX hR12
 refine TK.subH hs ?_
 unfold X.group_tape_s12 at hX
 try dsimp only at hX
 refine SR fun K64 hK64=>P1 (p_lss rfl rfl) rfl rfl (TL.nil (hK64 _ _ ?_))
 refine TK.seq_k fun K65 hK65=>?_
 refine TK.cond (b:=(decide (x17<(rows3.length:Int)))) rfl (fun hc=>?_) (fun hc=>?_)
 ·have hX:=ite_t hc hX
  refine TK.skip ?_
  refine hK65 _ _ ?_
  refine TK.seq_k fun K66 hK66=>?_
  refine TK.block ?_
  refine SR fun K67 hK67=>?_
  obtain ⟨e68,he68,hX⟩:=bind_some hX
  refine P1 (p_iaL (xs:=rows3) kd22 ty25 rfl rfl rfl (fun _=>he68)) rfl rfl (P1 (p_ldE (xs:=rows3) (a:=e68) (e68:(List UInt8)) ty25 rfl rfl (fun _=>he68) rfl rfl rfl) rfl rfl (M rfl rfl (TL.nil (hK67 _ _ ?_))))
  refine TK.reg ?_
  refine M rfl rfl (M rfl rfl (P1 (p_bld (l:=Enc.cl ((Unit_api.mk (6:Int) (0:Int) (0:Int) e68):Unit_api)) ty68 rfl all68 rfl (fun _=>⟨⟨rfl,trivial,rfl⟩,⟨rfl,trivial,rfl⟩,trivial⟩)) rfl rfl ?_))
  refine TLc.lit ([(Unit_api.mk (6:Int) (0:Int) (0:Int) e68)]:List Unit_api) kd151 ty68 rfl ⟨⟨rfl,rfl⟩,trivial⟩ rfl rfl rfl ?_
  obtain ⟨u69,hu69,hX⟩:=bind_some hX
  refine TLc.appO nd kd151 bo151 ty68 rfl rfl (j:=2) rfl rfl (Src_L _) Dc (need_t hu69) rfl fun nd=>?_
  refine M rfl rfl (TL.nil (hK66 _ _ ?_))
  refine TK.reg ?_
  refine P1 (p_add rfl rfl) rfl rfl (M rfl rfl (TL.nil ?_))
  exact ⟨_,(some_in hX).symm,b14,b13,b15,rfl,(Nd.pick nd (is:=[0,1,2]) Dc),(HSub.pick nd (is:=[0,1,2]) Dc)⟩
 ·have hX:=ite_f hc hX
  refine TK.exit ?_
  obtain rfl:=hR12 _ (some_in hX).symm
  exact E12 l16 _ _ ⟨b14,b13,b15,rfl,(Nd.pick nd (is:=[0,1,2]) Dc),(HSub.pick nd (is:=[0,1,2]) Dc)⟩ hA12
theorem ok_group_Make (data1:(List Tape_api)) (blank2:(List Tape_api)) (number3:Int) (r:((List Tape_api)×Int)) (hX:X.group_Make data1 blank2 number3=some r):Fun Try.prog 38 [Enc.v (data1:(List Tape_api)),Enc.v (blank2:(List Tape_api)),Enc.v (number3:Int)] (·= .tup 2 (ofL [Enc.v r.1,Enc.v r.2])):=by
 refine Fun.of b38 (Nat.le_of_ble_eq_true rfl) (allVal.mem ⟨(by exact (v_val _)),(by exact (v_val _)),(by exact (v_val _)),trivial⟩) ?_
 unfold k38
 have nd:Nd []:=Nd_nil
 unfold X.group_Make at hX
 refine SR fun K4 hK4=>M rfl rfl (M rfl rfl (TL.nil (hK4 _ _ (SR fun K5 hK5=>M rfl rfl (M rfl rfl (P1 (p_lenL (xs:=data1) kd48 rfl) rfl rfl (M rfl rfl (P1 (p_lenL (xs:=blank2) kd48 rfl) rfl rfl (M rfl rfl (M rfl rfl ?_))))))))))
 refine TLc.lit ([data1,blank2]:List (List Tape_api)) kd147 ty48 rfl ⟨⟨rfl,rfl⟩,⟨rfl,rfl⟩,trivial⟩ rfl rfl rfl ?_
 obtain ⟨r6,hr6,hX⟩:=bind_some hX
 refine TL.cvX rfl rfl rfl (fun _=>⟨rfl,⟨rfl,trivial⟩⟩) (fun e=>ok_slices_Concat_Lapi_Tape_api_Tape ([data1,blank2]:List (List Tape_api)) _ hr6) ?_
 obtain ⟨r7,hr7,hX⟩:=bind_some hX
 refine TL.cvX rfl rfl rfl (fun _=>⟨rfl,⟨rfl,trivial⟩⟩) (fun e=>ok_group_labels r6 _ hr7) ?_
 refine P1 (p_bld (l:=Enc.cl ((Seal_api.mk number3 (0:Int) (data1.length:Int) (blank2.length:Int) r7):Seal_api)) ty50 rfl all50 rfl (fun _=>⟨⟨rfl,trivial,rfl⟩,⟨rfl,trivial,rfl⟩,⟨rfl,trivial,rfl⟩,⟨rfl,trivial,rfl⟩,trivial⟩)) rfl rfl ?_
 refine TLc.alO (l:=[Enc.v ((0:Int):Int),Enc.v ((0:Int):Int),Enc.v ((0:Int):Int),Enc.v ((0:Int):Int),.nils]) nd ty50 ti50_z rfl rfl fun b8 nd=>?_
 refine TLc.stV (lu:=Enc.cl ((Seal_api.mk number3 (0:Int) (data1.length:Int) (blank2.length:Int) r7):Seal_api)) nd ty50 rfl (j:=0) rfl rfl rfl (Cells_v ((Seal_api.mk number3 (0:Int) (data1.length:Int) (blank2.length:Int) r7):Seal_api)) rfl rfl [Enc.v ((Seal_api.mk number3 (0:Int) (data1.length:Int) (blank2.length:Int) r7).Number:Int),Enc.v ((Seal_api.mk number3 (0:Int) (data1.length:Int) (blank2.length:Int) r7).Index:Int),Enc.v ((Seal_api.mk number3 (0:Int) (data1.length:Int) (blank2.length:Int) r7).Data:Int),Enc.v ((Seal_api.mk number3 (0:Int) (data1.length:Int) (blank2.length:Int) r7).Parity:Int),Enc.v ((Seal_api.mk number3 (0:Int) (data1.length:Int) (blank2.length:Int) r7).Labels:(List Int))] rfl fun nd=>?_
 refine TL.nil (hK5 _ _ ?_)
 refine TK.seq_k fun K9 hK9=>?_
 refine SR fun K10 hK10=>M rfl rfl (M rfl rfl (P1 (p_ldVa (l':=Enc.cl ((Seal_api.mk number3 (0:Int) (data1.length:Int) (blank2.length:Int) r7):Seal_api)) ty50 rfl rfl nd (j:=0) rfl rfl rfl rfl (Nat.le_of_ble_eq_true rfl)) rfl rfl ?_))
 obtain ⟨r11,hr11,hX⟩:=bind_some hX
 refine TL.cvX rfl rfl rfl (fun _=>⟨rfl,⟨rfl,⟨rfl,⟨rfl,trivial⟩⟩⟩⟩) (fun e=>ok_group_check data1 blank2 (Seal_api.mk number3 (0:Int) (data1.length:Int) (blank2.length:Int) r7) _ hr11) ?_
 refine M rfl rfl (TL.nil (hK10 _ _ (SR fun K12 hK12=>M rfl rfl (P1 (p_neq rfl rfl) rfl rfl (TL.nil (hK12 _ _ ?_))))))
 refine TK.cond (b:=(r11 !=(0:Int))) rfl (fun hc=>?_) (fun hc=>?_)
 ·have hX:=ite_t hc hX
  refine SR fun K13 hK13=>M rfl rfl (M rfl rfl (M rfl rfl (TL.nil (hK13 _ _ ?_))))
  refine TK.wk 6 (L ([]:(List Tape_api))) rfl Wk_nil ?_
  refine TK.ret ?_
  try dsimp only[thenQ]
  exact retN (vs:=[Enc.v (([]:(List Tape_api)):(List Tape_api)),Enc.v r11]) ⟨rfl,rfl,trivial⟩ (by obtain rfl:=some_in hX;rfl) (allVal.mem ⟨v_val _,v_val _,trivial⟩)
 ·have hX:=ite_f hc hX
  refine TK.skip ?_
  refine hK9 _ _ (SR fun K14 hK14=>M rfl rfl (M rfl rfl (P1 (p_lenL (xs:=blank2) kd48 rfl) rfl rfl ?_)))
  obtain ⟨r15,hr15,hX⟩:=bind_some hX
  refine TL.cvX rfl rfl rfl (fun _=>⟨rfl,⟨rfl,⟨rfl,trivial⟩⟩⟩) (fun e=>ok_stripe_Parity data1 (blank2.length:Int) _ hr15) ?_
  refine M rfl rfl (P1 (p_ex rfl rfl Dc) rfl rfl (P1 (p_ex rfl rfl Dc) rfl rfl (M rfl rfl (M rfl rfl (TL.nil (hK14 _ _ ?_))))))
  refine TK.seq_k fun K16 hK16=>?_
  refine SR fun K17 hK17=>M rfl rfl (P1 (p_neq rfl rfl) rfl rfl (TL.nil (hK17 _ _ ?_)))
  refine TK.cond (b:=(r15.2 !=(0:Int))) rfl (fun hc=>?_) (fun hc=>?_)
  ·have hX:=ite_t hc hX
   refine SR fun K18 hK18=>M rfl rfl (M rfl rfl (M rfl rfl (TL.nil (hK18 _ _ ?_))))
   refine TK.wk 6 (L ([]:(List Tape_api))) rfl Wk_nil ?_
   refine TK.ret ?_
   try dsimp only[thenQ]
   exact retN (vs:=[Enc.v (([]:(List Tape_api)):(List Tape_api)),Enc.v r15.2]) ⟨rfl,rfl,trivial⟩ (by obtain rfl:=some_in hX;rfl) (allVal.mem ⟨v_val _,v_val _,trivial⟩)
  ·have hX:=ite_f hc hX
   refine TK.skip ?_
   refine hK16 _ _ (SR fun K19 hK19=>M rfl rfl (TL.nil (hK19 _ _ ?_)))
   refine TK.ownL (α:=Tape_api) 12 54 nd rfl (.inl rfl) fun b20 nd=>?_
   refine TK.seq_k fun K21 hK21=>?_
   refine SR fun K22 hK22=>M rfl rfl (P1 (p_lenL (xs:=blank2) kd48 rfl) rfl rfl (M rfl rfl (TL.nil (hK22 _ _ ?_))))
   refine TK.block ?_
   obtain ⟨o23,hO23,hA23⟩:=bind_some hX
   have E23:∀(l34:List Tape_api) (env:Env) (h:Hp),(∃b33,keepE [12] env=[(12,true,OL b33 l34)]∧Nd [(b33,RL (α:=Tape_api) 54 l34)]∧HSub [(b33,RL (α:=Tape_api) 54 l34)] h)→X.group_Make_e23 l34=some r→K21 env h:=by
    intro l34 env h hE hX
    obtain ⟨b33,henv,nd,hs⟩:=hE
    unfold X.group_Make_e23 at hX
    refine hK21 _ _ (TK.keep [12] ?_)
    rw[henv]
    refine TK.subH hs ?_
    refine SR fun K35 hK35=>M rfl rfl (M rfl rfl (M rfl rfl (TL.nil (hK35 _ _ ?_))))
    refine TK.lay [(6,L l34)] nd (j:=0) rfl ⟨⟨_,rfl,fix_OL nd (j:=0) rfl,rfl⟩,trivial⟩ fun nd=>?_
    refine TK.ret ?_
    try dsimp only[thenQ]
    exact retN (vs:=[Enc.v l34,Enc.v ((0:Int):Int)]) ⟨rfl,rfl,trivial⟩ (by obtain rfl:=some_in hX;rfl) (allVal.mem ⟨v_val _,v_val _,trivial⟩)
   refine TK.iter [0,8,10,12,45,46,47] (fun s env h=>match s with|(c25,c26,c27,c28,c29,out31,x32)=>∃b24 b30,env=[(0,true,Enc.v data1),(8,true,.ref b24 0 5),(10,true,Enc.v (r15.1:(List (List (List UInt8))))),(12,true,OL b30 out31),(45,true,Enc.v blank2),(46,true,Enc.v ((blank2.length:Int):Int)),(47,true,Enc.v x32)]∧Nd [(b24,RV 50 [Enc.v c25,Enc.v c26,Enc.v c27,Enc.v c28,Enc.v c29]),(b30,RL (α:=Tape_api) 54 out31)]∧HSub [(b24,RV 50 [Enc.v c25,Enc.v c26,Enc.v c27,Enc.v c28,Enc.v c29]),(b30,RL (α:=Tape_api) 54 out31)] h) hO23 ⟨b8,b20,rfl,(Nd.pick nd (is:=[1,0]) Dc),(HSub.pick nd (is:=[1,0]) Dc)⟩ ?_
   rintro ⟨c25,c26,c27,c28,c29,out31,x32⟩ env h x23x ⟨b24,b30,rfl,nd,hs⟩ hX hR23
   refine TK.subH hs ?_
   unfold X.group_Make_s23 at hX
   try dsimp only at hX
   refine SR fun K36 hK36=>P1 (p_lss rfl rfl) rfl rfl (TL.nil (hK36 _ _ ?_))
   refine TK.seq_k fun K37 hK37=>?_
   refine TK.cond (b:=(decide (x32<(blank2.length:Int)))) rfl (fun hc=>?_) (fun hc=>?_)
   ·have hX:=ite_t hc hX
    refine TK.skip ?_
    refine hK37 _ _ ?_
    refine TK.seq_k fun K38 hK38=>?_
    refine TK.block ?_
    refine SR fun K39 hK39=>M rfl rfl ?_
    obtain ⟨e40,he40,hX⟩:=bind_some hX
    refine P1 (p_iaL (xs:=blank2) kd48 ty54 rfl rfl rfl (fun _=>he40)) rfl rfl (P1 (p_ldE (xs:=blank2) (a:=e40) (e40:Tape_api) ty54 rfl rfl (fun _=>he40) rfl rfl rfl) rfl rfl ?_)
    refine TLc.alO (l:=[Enc.v ((0:Int):Int),Enc.v ((0:Int):Int),.nils,Enc.v false]) nd ty54 ti54_z rfl rfl fun b41 nd=>?_
    refine M rfl rfl ?_
    refine TLc.stV (lu:=Enc.cl (e40:Tape_api)) nd ty54 rfl (j:=0) rfl rfl rfl (Cells_v (e40:Tape_api)) rfl rfl [Enc.v e40.Label,Enc.v e40.Cap,Enc.v e40.Blocks,Enc.v e40.Lost] rfl fun nd=>?_
    refine TL.nil (hK39 _ _ (SR fun K42 hK42=>M rfl rfl (P1 (p_lenL (xs:=data1) kd48 rfl) rfl rfl (M rfl rfl (P1 (p_add rfl rfl) rfl rfl (P1 (p_faV fs50_1 Dc rfl nd (j:=1) rfl rfl) rfl rfl ?_))))))
    refine TLc.stV (lu:=Enc.cl ((wr ((data1.length:Int)+x32)):Int)) nd ty3 rfl (j:=1) rfl rfl rfl (Cells_v ((wr ((data1.length:Int)+x32)):Int)) rfl rfl [Enc.v c25,Enc.v ((wr ((data1.length:Int)+x32)):Int),Enc.v c27,Enc.v c28,Enc.v c29] rfl fun nd=>?_
    refine TL.nil (hK42 _ _ ?_)
    refine TK.seq_k fun K43 hK43=>?_
    have ndS:Nd [(b41,RV 54 [Enc.v e40.Label,Enc.v e40.Cap,Enc.v e40.Blocks,Enc.v e40.Lost]),(b24,RV 50 [Enc.v c25,Enc.v ((wr ((data1.length:Int)+x32)):Int),Enc.v c27,Enc.v c28,Enc.v c29]),(b30,RL (α:=Tape_api) 54 out31)]:=Nd.pick nd (is:=[0,1,2]) Dc
    refine TK.drwX (h:=[]) (hS:=[(b41,RV 54 [Enc.v e40.Label,Enc.v e40.Cap,Enc.v e40.Blocks,Enc.v e40.Lost]),(b24,RV 50 [Enc.v c25,Enc.v ((wr ((data1.length:Int)+x32)):Int),Enc.v c27,Enc.v c28,Enc.v c29]),(b30,RL (α:=Tape_api) 54 out31)]) [(0,0),(0,1),(0,2),(0,3),(0,4),(0,5),(0,6),(0,7),(0,8),(0,9),(2,10),(2,11),(0,12)] mixed (by kernel_rfl) (HSub_app nd) ?_
    refine D0 rfl (p_ldVa (l':=Enc.cl (e40:Tape_api)) ty54 rfl rfl ndS (j:=0) rfl rfl rfl rfl (Nat.le_of_ble_eq_true rfl)) rfl rfl ?_
    refine D0 rfl (p_ldVa (l':=Enc.cl ((Seal_api.mk c25 (wr ((data1.length:Int)+x32)) c27 c28 c29):Seal_api)) ty50 rfl rfl ndS (j:=1) rfl rfl rfl rfl (Nat.le_of_ble_eq_true rfl)) rfl rfl ?_
    refine DM rfl rfl rfl ?_
    refine DM rfl rfl rfl ?_
    obtain ⟨e44,he44,hX⟩:=bind_some hX
    refine D0 rfl (p_iaL (xs:=r15.1) kd111 ty22 rfl rfl rfl (fun _=>he44)) rfl rfl ?_
    refine D0 rfl (p_ldE (xs:=r15.1) (a:=e44) (e44:(List (List UInt8))) ty22 rfl rfl (fun _=>he44) rfl rfl rfl) rfl rfl ?_
    obtain ⟨r45,hr45,hX⟩:=bind_some hX
    refine DR0 (gc:=true) rfl (vok_c rfl (fun _=>⟨rfl,⟨rfl,⟨rfl,⟨rfl,trivial⟩⟩⟩⟩) (fun e=>ok_group_tape e40 (Seal_api.mk c25 (wr ((data1.length:Int)+x32)) c27 c28 c29) e44 _ hr45)) rfl rfl ?_
    refine DM rfl rfl rfl ?_
    refine D0 rfl (p_ex rfl rfl Dc) rfl rfl ?_
    refine D0 rfl (p_ex rfl rfl Dc) rfl rfl ?_
    refine DR2 rfl rfl ?_
    refine TLc.alO (l:=[Enc.v ((0:Int):Int),Enc.v ((0:Int):Int),.nils,Enc.v false]) nd ty54 ti54_z rfl rfl fun b46 nd=>?_
    refine TL.nil ⟨_,[(b46,RV 54 [Enc.v ((0:Int):Int),Enc.v ((0:Int):Int),.nils,Enc.v false])],rfl,rfl,HSub_app nd,?_⟩
    refine DR2n rfl ?_
    refine TLc.stV (lu:=Enc.cl (r45.1:Tape_api)) nd ty54 rfl (j:=0) rfl rfl rfl (Cells_v (r45.1:Tape_api)) rfl rfl [Enc.v r45.1.Label,Enc.v r45.1.Cap,Enc.v r45.1.Blocks,Enc.v r45.1.Lost] rfl fun nd=>?_
    refine TL.nil ⟨.nilp,[(b46,RV 54 [Enc.v r45.1.Label,Enc.v r45.1.Cap,Enc.v r45.1.Blocks,Enc.v r45.1.Lost])],rfl,rfl,HSub_app nd,?_⟩
    refine DM rfl rfl rfl ?_
    refine DRend ?_
    refine hK43 _ _ ?_
    refine TK.seq_k fun K47 hK47=>?_
    refine SR fun K48 hK48=>M rfl rfl (P1 (p_neq rfl rfl) rfl rfl (TL.nil (hK48 _ _ ?_)))
    refine TK.cond (b:=(r45.2 !=(0:Int))) rfl (fun hc=>?_) (fun hc=>?_)
    ·have hX:=ite_t hc hX
     refine SR fun K49 hK49=>M rfl rfl (M rfl rfl (M rfl rfl (TL.nil (hK49 _ _ ?_))))
     refine TK.wk 6 (L ([]:(List Tape_api))) rfl Wk_nil ?_
     refine TK.ret ?_
     obtain rfl:=hR23 _ (some_in hX).symm
     replace hX:=hA23
     try dsimp only[thenQ]
     exact retN (vs:=[Enc.v (([]:(List Tape_api)):(List Tape_api)),Enc.v r45.2]) ⟨rfl,rfl,trivial⟩ (by obtain rfl:=some_in hX;rfl) (allVal.mem ⟨v_val _,v_val _,trivial⟩)
    ·have hX:=ite_f hc hX
     refine TK.skip ?_
     refine hK47 _ _ ?_
     refine TK.reg ?_
     refine M rfl rfl (P1 (p_ldVa (l':=Enc.cl (r45.1:Tape_api)) ty54 rfl rfl nd (j:=0) rfl rfl rfl rfl (Nat.le_of_ble_eq_true rfl)) rfl rfl ?_)
     refine TLc.lit ([r45.1]:List Tape_api) kd48 ty54 rfl ⟨⟨rfl,rfl⟩,trivial⟩ rfl rfl rfl ?_
     obtain ⟨u50,hu50,hX⟩:=bind_some hX
     refine TLc.appO nd kd48 bo48 ty54 rfl rfl (j:=3) rfl rfl (Src_L _) Dc (need_t hu50) rfl fun nd=>?_
     refine M rfl rfl (TL.nil (hK38 _ _ ?_))
     refine TK.reg ?_
     refine P1 (p_add rfl rfl) rfl rfl (M rfl rfl (TL.nil ?_))
     exact ⟨_,(some_in hX).symm,b24,b30,rfl,(Nd.pick nd (is:=[2,3]) Dc),(HSub.pick nd (is:=[2,3]) Dc)⟩
   ·have hX:=ite_f hc hX
    refine TK.exit ?_
    obtain rfl:=hR23 _ (some_in hX).symm
    exact E23 out31 _ _ ⟨b30,rfl,(Nd.pick nd (is:=[1]) Dc),(HSub.pick nd (is:=[1]) Dc)⟩ hA23
theorem ok_code_Reader_Left (b1:(List UInt8)) (bad2:Bool) (r:Int) (hX:X.code_Reader_Left b1 bad2=some r):Fun Try.prog 160 [.vref (ofL [Enc.v (b1:(List UInt8)),Enc.v (bad2:Bool)]) 2 0] (·=Enc.v (r:Int)):=by
 refine Fun.of b160 (Nat.le_of_ble_eq_true rfl) (allVal.mem ⟨(by exact (vref_val (l:=[Enc.v (b1:(List UInt8)),Enc.v (bad2:Bool)]) rfl ⟨(v_val _),(v_val _),trivial⟩)),trivial⟩) ?_
 unfold k160
 have nd:Nd []:=Nd_nil
 unfold X.code_Reader_Left at hX
 refine SR fun K3 hK3=>M rfl rfl (TL.nil (hK3 _ _ ?_))
 refine TK.seq_k fun K4 hK4=>?_
 refine SR fun K5 hK5=>M rfl rfl (P1 (p_eqV kd192 rfl rfl) rfl rfl (TL.nil (hK5 _ _ ?_)))
 refine TK.cond (b:=false) rfl (fun hc=>by simp at hc) (fun _=>?_)
 refine TK.skip ?_
 refine hK4 _ _ (SR fun K6 hK6=>M rfl rfl (P1 (p_ncV rfl) rfl rfl (P1 (p_faR fs215_0 Dc rfl) rfl rfl (P1 (p_ldR (v:=Enc.v b1) ty25 rfl rfl rfl rfl rfl rfl) rfl rfl (P1 (p_lenL (xs:=b1) kd25 rfl) rfl rfl (M rfl rfl (TL.nil (hK6 _ _ ?_))))))))
 refine TK.ret ?_
 try dsimp only[thenQ]
 exact R1 rfl hX
theorem bc_record_ReadSeal:BodyC cx 116 47 [.c 2 50,.t 3] k116:=⟨Enters.of Try.func116 (by kernel_rfl) (by kernel_rfl),_,_,Try.func116,rfl,by kernel_rfl,rfl,rfl⟩
theorem ok_record_ReadSeal (b1:(List UInt8)) (r:(Seal_api×Int)) (hX:X.record_ReadSeal b1=some r):Fun Try.prog 116 [Enc.v (b1:(List UInt8))] (·= .tup 2 (ofL [Enc.v r.1,Enc.v r.2])):=by
 refine Fun.ofC (C:=cx) bc_record_ReadSeal (Nat.le_of_ble_eq_true rfl) (allVal.mem ⟨(by exact (v_val _)),trivial⟩) ?_
 unfold k116
 have nd:Nd []:=Nd_nil
 unfold X.record_ReadSeal at hX
 refine SR fun K2 hK2=>?_
 refine TLc.alO (l:=[Enc.v ((0:Int):Int),Enc.v ((0:Int):Int),Enc.v ((0:Int):Int),Enc.v ((0:Int):Int),.nils]) nd ty50 ti50_z rfl rfl fun b3 nd=>?_
 refine M rfl rfl (TL.nil (hK2 _ _ ?_))
 refine TK.ownC (α:=Int) nd (j:=0) rfl 4 3 (.inl rfl) fun b4 nd=>?_
 refine SR fun K5 hK5=>M rfl rfl ?_
 obtain ⟨r6,hr6,hX⟩:=bind_some hX
 refine TL.tcX [] [(b4,RL (α:=Int) 3 ([]:List Int)),(b3,RV 50 [Enc.v ((0:Int):Int),Enc.v ((0:Int):Int),Enc.v ((0:Int):Int),Enc.v ((0:Int):Int),OL (α:=Int) b4 ([]:List Int)])] rfl nd (dlt rfl) rfl ⟨rfl,⟨rfl,trivial⟩⟩ (ok_code_NewReader b1 (Nd.take nd 0 rfl) _ hr6) ?_
 rintro _ _ hQ nd
 obtain ⟨b7,rfl,rfl⟩:=hQ
 refine M rfl rfl (TL.nil (hK5 _ _ (SR fun K8 hK8=>M rfl rfl ?_)))
 obtain ⟨r9,hr9,hX⟩:=bind_some hX
 refine TL.tcX [(b7,RV 215 [Enc.v r6.1,Enc.v r6.2])] [(b4,RL (α:=Int) 3 ([]:List Int)),(b3,RV 50 [Enc.v ((0:Int):Int),Enc.v ((0:Int):Int),Enc.v ((0:Int):Int),Enc.v ((0:Int):Int),OL (α:=Int) b4 ([]:List Int)])] rfl nd (dlt rfl) rfl ⟨rfl,⟨rfl,trivial⟩⟩ (ok_code_Reader_Int r6.1 r6.2 b7 (Nd.take nd 1 rfl) _ hr9) ?_
 rintro _ _ hQ nd
 obtain ⟨rfl,rfl⟩:=hQ
 refine P1 (p_bld (l:=[Enc.v r9.1,Enc.v ((0:Int):Int),Enc.v ((0:Int):Int),Enc.v ((0:Int):Int),.nils]) ty50 rfl all50 rfl (fun _=>⟨⟨rfl,trivial,rfl⟩,trivial⟩)) rfl rfl ?_
 refine TLc.alO (l:=[Enc.v ((0:Int):Int),Enc.v ((0:Int):Int),Enc.v ((0:Int):Int),Enc.v ((0:Int):Int),.nils]) nd ty50 ti50_z rfl rfl fun b11 nd=>?_
 refine TLc.stV (lu:=[Enc.v r9.1,Enc.v ((0:Int):Int),Enc.v ((0:Int):Int),Enc.v ((0:Int):Int),.nils]) nd ty50 rfl (j:=0) rfl rfl rfl (Cells_agg rfl (allA.mem ⟨trivial,trivial,trivial,trivial,trivial,trivial⟩)) rfl rfl [Enc.v r9.1,Enc.v ((0:Int):Int),Enc.v ((0:Int):Int),Enc.v ((0:Int):Int),.nils] rfl fun nd=>?_
 refine TL.nil (hK8 _ _ ?_)
 refine TK.ownC (α:=Int) nd (j:=0) rfl 4 3 (.inl rfl) fun b12 nd=>?_
 refine TK.seq_k fun K13 hK13=>?_
 refine SR fun K14 hK14=>P1 (p_faV fs50_1 Dc rfl nd (j:=1) rfl rfl) rfl rfl (P1 (p_faV fs50_2 Dc rfl nd (j:=1) rfl rfl) rfl rfl (P1 (p_faV fs50_3 Dc rfl nd (j:=1) rfl rfl) rfl rfl ?_))
 refine TLc.litR [.ref b11 1 5,.ref b11 2 5,.ref b11 3 5] kd195 ty194 rfl ⟨⟨rfl,rfl,refOK_of nd (j:=1) rfl rfl⟩,⟨rfl,rfl,refOK_of nd (j:=1) rfl rfl⟩,⟨rfl,rfl,refOK_of nd (j:=1) rfl rfl⟩,trivial⟩ rfl rfl rfl ?_
 refine P1 (p_lenR' kd195 rfl) rfl rfl (M rfl rfl (TL.nil (hK14 _ _ ?_)))
 refine TK.block ?_
 refine TK.unroll 16 ?_
 refine unr_s ?_
 refine SR fun K16 hK16=>P1 (p_lss rfl rfl) rfl rfl (TL.nil (hK16 _ _ ?_))
 refine TK.seq_k fun K17 hK17=>?_
 refine TK.cond (b:=true) rfl (fun _=>?_) (fun hc=>by simp at hc)
 refine TK.skip ?_
 refine hK17 _ _ ?_
 refine TK.seq_k fun K18 hK18=>?_
 refine TK.block ?_
 refine SR fun K19 hK19=>P1 (p_iaR kd195 ty194 rfl rfl rfl Dc Dc) rfl rfl (P1 (p_ldR (v:= .ref b11 1 5) ty194 rfl rfl rfl rfl rfl rfl) rfl rfl (M rfl rfl (TL.nil (hK19 _ _ ?_))))
 refine TK.reg ?_
 refine M rfl rfl (M rfl rfl ?_)
 obtain ⟨r20,hr20,hX⟩:=bind_some hX
 refine TL.pick [2,0,1,3,4] nd Dc fun nd=>?_
 refine TL.tcX [(b7,RV 215 [Enc.v r9.2.1,Enc.v r9.2.2])] [(b12,RL (α:=Int) 3 ([]:List Int)),(b11,RV 50 [Enc.v r9.1,Enc.v ((0:Int):Int),Enc.v ((0:Int):Int),Enc.v ((0:Int):Int),OL (α:=Int) b12 ([]:List Int)]),(b4,RL (α:=Int) 3 ([]:List Int)),(b3,RV 50 [Enc.v ((0:Int):Int),Enc.v ((0:Int):Int),Enc.v ((0:Int):Int),Enc.v ((0:Int):Int),OL (α:=Int) b4 ([]:List Int)])] rfl nd (dlt rfl) rfl ⟨rfl,⟨rfl,trivial⟩⟩ (ok_code_Reader_Byte r9.2.1 r9.2.2 b7 (Nd.take nd 1 rfl) _ hr20) ?_
 rintro _ _ hQ nd
 obtain ⟨rfl,rfl⟩:=hQ
 refine P1 (p_cvt src5 kd3 rfl (cv_8 r20.1)) rfl rfl (P1 (p_ncR rfl (fun _=>refOK_of nd (j:=2) rfl rfl)) rfl rfl ?_)
 refine TLc.stV (lu:=Enc.cl ((r20.1.toNat:Int):Int)) nd ty3 rfl (j:=2) rfl rfl rfl (Cells_v ((r20.1.toNat:Int):Int)) rfl rfl [Enc.v r9.1,Enc.v ((r20.1.toNat:Int):Int),Enc.v ((0:Int):Int),Enc.v ((0:Int):Int),OL (α:=Int) b12 ([]:List Int)] rfl fun nd=>?_
 refine TL.nil (hK18 _ _ ?_)
 refine TK.reg ?_
 refine P1 (p_add rfl rfl) rfl rfl (M rfl rfl (TL.nil ?_))
 try dsimp only[thenQ]
 refine unr_s ?_
 refine SR fun K22 hK22=>P1 (p_lss rfl rfl) rfl rfl (TL.nil (hK22 _ _ ?_))
 refine TK.seq_k fun K23 hK23=>?_
 refine TK.cond (b:=true) rfl (fun _=>?_) (fun hc=>by simp at hc)
 refine TK.skip ?_
 refine hK23 _ _ ?_
 refine TK.seq_k fun K24 hK24=>?_
 refine TK.block ?_
 refine SR fun K25 hK25=>P1 (p_iaR kd195 ty194 rfl rfl rfl Dc Dc) rfl rfl (P1 (p_ldR (v:= .ref b11 2 5) ty194 rfl rfl rfl rfl rfl rfl) rfl rfl (M rfl rfl (TL.nil (hK25 _ _ ?_))))
 refine TK.reg ?_
 refine M rfl rfl (M rfl rfl ?_)
 obtain ⟨r26,hr26,hX⟩:=bind_some hX
 refine TL.tcX [(b7,RV 215 [Enc.v r20.2.1,Enc.v r20.2.2])] [(b12,RL (α:=Int) 3 ([]:List Int)),(b11,RV 50 [Enc.v r9.1,Enc.v ((r20.1.toNat:Int):Int),Enc.v ((0:Int):Int),Enc.v ((0:Int):Int),OL (α:=Int) b12 ([]:List Int)]),(b4,RL (α:=Int) 3 ([]:List Int)),(b3,RV 50 [Enc.v ((0:Int):Int),Enc.v ((0:Int):Int),Enc.v ((0:Int):Int),Enc.v ((0:Int):Int),OL (α:=Int) b4 ([]:List Int)])] rfl nd (dlt rfl) rfl ⟨rfl,⟨rfl,trivial⟩⟩ (ok_code_Reader_Byte r20.2.1 r20.2.2 b7 (Nd.take nd 1 rfl) _ hr26) ?_
 rintro _ _ hQ nd
 obtain ⟨rfl,rfl⟩:=hQ
 refine P1 (p_cvt src5 kd3 rfl (cv_8 r26.1)) rfl rfl (P1 (p_ncR rfl (fun _=>refOK_of nd (j:=2) rfl rfl)) rfl rfl ?_)
 refine TLc.stV (lu:=Enc.cl ((r26.1.toNat:Int):Int)) nd ty3 rfl (j:=2) rfl rfl rfl (Cells_v ((r26.1.toNat:Int):Int)) rfl rfl [Enc.v r9.1,Enc.v ((r20.1.toNat:Int):Int),Enc.v ((r26.1.toNat:Int):Int),Enc.v ((0:Int):Int),OL (α:=Int) b12 ([]:List Int)] rfl fun nd=>?_
 refine TL.nil (hK24 _ _ ?_)
 refine TK.reg ?_
 refine P1 (p_add rfl rfl) rfl rfl (M rfl rfl (TL.nil ?_))
 try dsimp only[thenQ]
 refine unr_s ?_
 refine SR fun K28 hK28=>P1 (p_lss rfl rfl) rfl rfl (TL.nil (hK28 _ _ ?_))
 refine TK.seq_k fun K29 hK29=>?_
 refine TK.cond (b:=true) rfl (fun _=>?_) (fun hc=>by simp at hc)
 refine TK.skip ?_
 refine hK29 _ _ ?_
 refine TK.seq_k fun K30 hK30=>?_
 refine TK.block ?_
 refine SR fun K31 hK31=>P1 (p_iaR kd195 ty194 rfl rfl rfl Dc Dc) rfl rfl (P1 (p_ldR (v:= .ref b11 3 5) ty194 rfl rfl rfl rfl rfl rfl) rfl rfl (M rfl rfl (TL.nil (hK31 _ _ ?_))))
 refine TK.reg ?_
 refine M rfl rfl (M rfl rfl ?_)
 obtain ⟨r32,hr32,hX⟩:=bind_some hX
 refine TL.tcX [(b7,RV 215 [Enc.v r26.2.1,Enc.v r26.2.2])] [(b12,RL (α:=Int) 3 ([]:List Int)),(b11,RV 50 [Enc.v r9.1,Enc.v ((r20.1.toNat:Int):Int),Enc.v ((r26.1.toNat:Int):Int),Enc.v ((0:Int):Int),OL (α:=Int) b12 ([]:List Int)]),(b4,RL (α:=Int) 3 ([]:List Int)),(b3,RV 50 [Enc.v ((0:Int):Int),Enc.v ((0:Int):Int),Enc.v ((0:Int):Int),Enc.v ((0:Int):Int),OL (α:=Int) b4 ([]:List Int)])] rfl nd (dlt rfl) rfl ⟨rfl,⟨rfl,trivial⟩⟩ (ok_code_Reader_Byte r26.2.1 r26.2.2 b7 (Nd.take nd 1 rfl) _ hr32) ?_
 rintro _ _ hQ nd
 obtain ⟨rfl,rfl⟩:=hQ
 refine P1 (p_cvt src5 kd3 rfl (cv_8 r32.1)) rfl rfl (P1 (p_ncR rfl (fun _=>refOK_of nd (j:=2) rfl rfl)) rfl rfl ?_)
 refine TLc.stV (lu:=Enc.cl ((r32.1.toNat:Int):Int)) nd ty3 rfl (j:=2) rfl rfl rfl (Cells_v ((r32.1.toNat:Int):Int)) rfl rfl [Enc.v r9.1,Enc.v ((r20.1.toNat:Int):Int),Enc.v ((r26.1.toNat:Int):Int),Enc.v ((r32.1.toNat:Int):Int),OL (α:=Int) b12 ([]:List Int)] rfl fun nd=>?_
 refine TL.nil (hK30 _ _ ?_)
 refine TK.reg ?_
 refine P1 (p_add rfl rfl) rfl rfl (M rfl rfl (TL.nil ?_))
 try dsimp only[thenQ]
 refine unr_s ?_
 refine SR fun K34 hK34=>P1 (p_lss rfl rfl) rfl rfl (TL.nil (hK34 _ _ ?_))
 refine TK.seq_k fun K35 hK35=>?_
 refine TK.cond (b:=false) rfl (fun hc=>by simp at hc) (fun _=>?_)
 refine TK.exit ?_
 refine hK13 _ _ ?_
 refine TK.seq_k fun K36 hK36=>?_
 refine TK.block ?_
 obtain ⟨o37,hO37,hA37⟩:=bind_some hX
 have E37:∀(c53:(List UInt8)) (c54:Bool) (c56:Int) (c57:Int) (c58:Int) (c59:Int) (l61:List Int) (env:Env) (h:Hp),(∃b51 b50 b52 b60 b55,keepE [2,4,5] env=[(2,true,.ref b50 0 5),(4,true,.ref b52 0 2),(5,true,.ref b55 0 5)]∧Nd [(b51,RL (α:=Int) 3 ([]:List Int)),(b50,RV 50 [Enc.v ((0:Int):Int),Enc.v ((0:Int):Int),Enc.v ((0:Int):Int),Enc.v ((0:Int):Int),OL (α:=Int) b51 ([]:List Int)]),(b52,RV 215 [Enc.v c53,Enc.v c54]),(b60,RL (α:=Int) 3 l61),(b55,RV 50 [Enc.v c56,Enc.v c57,Enc.v c58,Enc.v c59,OL b60 l61])]∧HSub [(b51,RL (α:=Int) 3 ([]:List Int)),(b50,RV 50 [Enc.v ((0:Int):Int),Enc.v ((0:Int):Int),Enc.v ((0:Int):Int),Enc.v ((0:Int):Int),OL (α:=Int) b51 ([]:List Int)]),(b52,RV 215 [Enc.v c53,Enc.v c54]),(b60,RL (α:=Int) 3 l61),(b55,RV 50 [Enc.v c56,Enc.v c57,Enc.v c58,Enc.v c59,OL b60 l61])] h)→X.record_ReadSeal_e37 c53 c54 c56 c57 c58 c59 l61=some r→K36 env h:=by
  intro c53 c54 c56 c57 c58 c59 l61 env h hE hX
  obtain ⟨b51,b50,b52,b60,b55,henv,nd,hs⟩:=hE
  unfold X.record_ReadSeal_e37 at hX
  refine hK36 _ _ (TK.keep [2,4,5] ?_)
  rw[henv]
  refine TK.subH hs ?_
  refine TK.seq_k fun K62 hK62=>?_
  refine SR fun K63 hK63=>M rfl rfl ?_
  obtain ⟨r64,hr64,hX⟩:=bind_some hX
  refine TL.lookX [.vref (ofL [Enc.v c53,Enc.v c54]) 2 0] rfl rfl rfl (fun _=>⟨rfl,⟨rfl,trivial⟩⟩) ⟨look_ref (l:=[Enc.v c53,Enc.v c54]) nd (j:=2) rfl ⟨look_v (v:=Enc.v c53) (v_val _),look_v (v:=Enc.v c54) (v_val _),trivial⟩,trivial⟩ (fun e=>ok_code_Reader_Bad c53 c54 _ hr64) (trivial) ?_
  refine M rfl rfl ?_
  refine TL.layR (l2':=[Enc.v c56,Enc.v c57,Enc.v c58,Enc.v c59,Enc.v l61]) [] nd (j:=3) rfl 4 rfl rfl ⟨fix_id _,fix_id _,fix_id _,fix_id _,fix_OL nd (j:=3) rfl,trivial⟩ trivial fun nd=>?_
  refine TLc.p (gc:=(!r64)) (p_ldVa (l':=Enc.cl ((Seal_api.mk c56 c57 c58 c59 l61):Seal_api)) ty50 rfl rfl nd (j:=3) rfl rfl rfl rfl (Nat.le_of_ble_eq_true rfl) (hg:=fun e=>rfl)) (gcF1 rfl) rfl ?_
  obtain ⟨r65,hr65,hX⟩:=bind_some hX
  refine TL.cvX (gcF1 rfl) rfl rfl (fun e=>⟨rfl,⟨e,trivial⟩⟩) (fun e=>ok_record_RightSeal (Seal_api.mk c56 c57 c58 c59 l61) _ (optG_t hr65 e)) ?_
  refine TLc.p (gc:=(!r64)) (p_not rfl (hg:=fun e=>e)) (gcF1 rfl) rfl ?_
  refine P1 (p_or rfl rfl (fun e=>⟨rfl,fun h=>(not_t h)⟩)) rfl rfl (TL.nil (hK63 _ _ ?_))
  refine TK.cond (b:=(r64||(!r65))) rfl (fun hc=>?_) (fun hc=>?_)
  ·have hX:=ite_t hc hX
   refine SR fun K66 hK66=>P1 (p_bld (l:=[Enc.v ((0:Int):Int),Enc.v ((0:Int):Int),Enc.v ((0:Int):Int),Enc.v ((0:Int):Int),.nils]) ty50 rfl all50 rfl (fun _=>trivial)) rfl rfl ?_
   refine TLc.stV (lu:=[Enc.v ((0:Int):Int),Enc.v ((0:Int):Int),Enc.v ((0:Int):Int),Enc.v ((0:Int):Int),.nils]) nd ty50 rfl (j:=1) rfl rfl rfl (Cells_agg rfl (allA.mem ⟨trivial,trivial,trivial,trivial,trivial,trivial⟩)) rfl rfl [Enc.v ((0:Int):Int),Enc.v ((0:Int):Int),Enc.v ((0:Int):Int),Enc.v ((0:Int):Int),.nils] rfl fun nd=>?_
   refine M rfl rfl (TL.nil (hK66 _ _ ?_))
   refine TK.ownC (α:=Int) nd (j:=1) rfl 4 3 (.inl rfl) fun b67 nd=>?_
   refine TK.layR (l2':=[Enc.v ((0:Int):Int),Enc.v ((0:Int):Int),Enc.v ((0:Int):Int),Enc.v ((0:Int):Int),Enc.v (([]:List Int):(List Int))]) [] nd (j:=0) rfl 2 rfl rfl ⟨fix_id _,fix_id _,fix_id _,fix_id _,fix_OL nd (j:=0) rfl,trivial⟩ trivial fun nd=>?_
   refine TK.ret ?_
   try dsimp only[thenQ]
   exact retC [Enc.v ((Seal_api.mk (0:Int) (0:Int) (0:Int) (0:Int) ([]:List Int)):Seal_api),Enc.v ((2:Int):Int)] ⟨p_ldVa (l':=Enc.cl ((Seal_api.mk (0:Int) (0:Int) (0:Int) (0:Int) ([]:List Int)):Seal_api)) ty50 rfl rfl nd (j:=1) rfl rfl rfl rfl (Nat.le_of_ble_eq_true rfl),p_mv rfl,trivial⟩ (by obtain rfl:=some_in hX;rfl) (tup_val (allVal.mem ⟨v_val _,v_val _,trivial⟩))
  ·have hX:=ite_f hc hX
   refine TK.skip ?_
   refine hK62 _ _ (SR fun K68 hK68=>P1 (p_ldVa (l':=Enc.cl ((Seal_api.mk c56 c57 c58 c59 l61):Seal_api)) ty50 rfl rfl nd (j:=3) rfl rfl rfl rfl (Nat.le_of_ble_eq_true rfl)) rfl rfl ?_)
   refine TLc.stV (lu:=Enc.cl ((Seal_api.mk c56 c57 c58 c59 l61):Seal_api)) nd ty50 rfl (j:=1) rfl rfl rfl (Cells_v ((Seal_api.mk c56 c57 c58 c59 l61):Seal_api)) rfl rfl [Enc.v ((Seal_api.mk c56 c57 c58 c59 l61).Number:Int),Enc.v ((Seal_api.mk c56 c57 c58 c59 l61).Index:Int),Enc.v ((Seal_api.mk c56 c57 c58 c59 l61).Data:Int),Enc.v ((Seal_api.mk c56 c57 c58 c59 l61).Parity:Int),Enc.v ((Seal_api.mk c56 c57 c58 c59 l61).Labels:(List Int))] rfl fun nd=>?_
   refine M rfl rfl (TL.nil (hK68 _ _ ?_))
   refine TK.ret ?_
   try dsimp only[thenQ]
   exact retC [Enc.v ((Seal_api.mk c56 c57 c58 c59 l61):Seal_api),Enc.v ((0:Int):Int)] ⟨p_ldVa (l':=Enc.cl ((Seal_api.mk c56 c57 c58 c59 l61):Seal_api)) ty50 rfl rfl nd (j:=1) rfl rfl rfl rfl (Nat.le_of_ble_eq_true rfl),p_mv rfl,trivial⟩ (by obtain rfl:=some_in hX;rfl) (tup_val (allVal.mem ⟨v_val _,v_val _,trivial⟩))
 refine TK.iter [2,4,5] (fun s env h=>match s with|(c41,c42,c44,c45,c46,c47,l49)=>∃b39 b38 b40 b48 b43,env=[(2,true,.ref b38 0 5),(4,true,.ref b40 0 2),(5,true,.ref b43 0 5)]∧Nd [(b39,RL (α:=Int) 3 ([]:List Int)),(b38,RV 50 [Enc.v ((0:Int):Int),Enc.v ((0:Int):Int),Enc.v ((0:Int):Int),Enc.v ((0:Int):Int),OL (α:=Int) b39 ([]:List Int)]),(b40,RV 215 [Enc.v c41,Enc.v c42]),(b48,RL (α:=Int) 3 l49),(b43,RV 50 [Enc.v c44,Enc.v c45,Enc.v c46,Enc.v c47,OL b48 l49])]∧HSub [(b39,RL (α:=Int) 3 ([]:List Int)),(b38,RV 50 [Enc.v ((0:Int):Int),Enc.v ((0:Int):Int),Enc.v ((0:Int):Int),Enc.v ((0:Int):Int),OL (α:=Int) b39 ([]:List Int)]),(b40,RV 215 [Enc.v c41,Enc.v c42]),(b48,RL (α:=Int) 3 l49),(b43,RV 50 [Enc.v c44,Enc.v c45,Enc.v c46,Enc.v c47,OL b48 l49])] h) hO37 ⟨b4,b3,b7,b12,b11,rfl,(Nd.pick nd (is:=[3,4,0,1,2]) Dc),(HSub.pick nd (is:=[3,4,0,1,2]) Dc)⟩ ?_
 rintro ⟨c41,c42,c44,c45,c46,c47,l49⟩ env h x37x ⟨b39,b38,b40,b48,b43,rfl,nd,hs⟩ hX hR37
 refine TK.subH hs ?_
 unfold X.record_ReadSeal_s37 at hX
 try dsimp only at hX
 refine TK.seq_k fun K69 hK69=>?_
 refine SR fun K70 hK70=>M rfl rfl ?_
 obtain ⟨r71,hr71,hX⟩:=bind_some hX
 refine TL.lookX [.vref (ofL [Enc.v c41,Enc.v c42]) 2 0] rfl rfl rfl (fun _=>⟨rfl,⟨rfl,trivial⟩⟩) ⟨look_ref (l:=[Enc.v c41,Enc.v c42]) nd (j:=2) rfl ⟨look_v (v:=Enc.v c41) (v_val _),look_v (v:=Enc.v c42) (v_val _),trivial⟩,trivial⟩ (fun e=>ok_code_Reader_Left c41 c42 _ hr71) (trivial) ?_
 refine P1 (p_gtr rfl rfl) rfl rfl (TL.nil (hK70 _ _ ?_))
 refine TK.cond (b:=(decide (r71>(0:Int)))) rfl (fun hc=>?_) (fun hc=>?_)
 ·have hX:=ite_t hc hX
  refine TK.skip ?_
  refine hK69 _ _ ?_
  refine TK.block ?_
  refine TK.pick [2,3,0,1,4] nd Dc fun nd=>?_
  have ndS:Nd [(b39,RL (α:=Int) 3 ([]:List Int)),(b38,RV 50 [Enc.v ((0:Int):Int),Enc.v ((0:Int):Int),Enc.v ((0:Int):Int),Enc.v ((0:Int):Int),OL (α:=Int) b39 ([]:List Int)]),(b43,RV 50 [Enc.v c44,Enc.v c45,Enc.v c46,Enc.v c47,OL b48 l49])]:=Nd.pick nd (is:=[2,3,4]) Dc
  refine TK.drwX (h:=[(b40,RV 215 [Enc.v c41,Enc.v c42]),(b48,RL (α:=Int) 3 l49)]) (hS:=[(b39,RL (α:=Int) 3 ([]:List Int)),(b38,RV 50 [Enc.v ((0:Int):Int),Enc.v ((0:Int):Int),Enc.v ((0:Int):Int),Enc.v ((0:Int):Int),OL (α:=Int) b39 ([]:List Int)]),(b43,RV 50 [Enc.v c44,Enc.v c45,Enc.v c46,Enc.v c47,OL b48 l49])]) [(0,0),(0,1),(0,2),(2,3),(0,4),(2,5),(0,6),(3,7)] mixed (by kernel_rfl) (HSub_app nd) ?_
  refine D0 rfl (p_faV fs50_4 Dc rfl ndS (j:=2) rfl rfl) rfl rfl ?_
  refine D0 rfl (p_ldV (v:=OL b48 l49) ty47 rfl rfl ndS (j:=2) rfl rfl rfl rfl rfl) rfl rfl ?_
  refine DM rfl rfl rfl ?_
  obtain ⟨r72,hr72,hX⟩:=bind_some hX
  refine DR2 rfl rfl ?_
  refine TL.tcX [(b40,RV 215 [Enc.v c41,Enc.v c42])] [(b48,RL (α:=Int) 3 l49),(b39,RL (α:=Int) 3 ([]:List Int)),(b38,RV 50 [Enc.v ((0:Int):Int),Enc.v ((0:Int):Int),Enc.v ((0:Int):Int),Enc.v ((0:Int):Int),OL (α:=Int) b39 ([]:List Int)]),(b43,RV 50 [Enc.v c44,Enc.v c45,Enc.v c46,Enc.v c47,OL b48 l49])] rfl nd (dlt rfl) rfl ⟨rfl,⟨rfl,trivial⟩⟩ (ok_code_Reader_Int c41 c42 b40 (Nd.take nd 1 rfl) _ hr72) ?_
  rintro _ _ hQ nd
  obtain ⟨rfl,rfl⟩:=hQ
  refine TL.nil ⟨_,[(b40,RV 215 [Enc.v r72.2.1,Enc.v r72.2.2]),(b48,RL (α:=Int) 3 l49)],rfl,rfl,HSub_app nd,?_⟩
  refine DR0 (gc:=true) rfl (vok_lit (C:=cx) ([r72.1]:List Int) kd47 ty3 rfl ⟨⟨rfl,rfl⟩,trivial⟩ rfl rfl) rfl rfl ?_
  obtain ⟨u74,hu74,hX⟩:=bind_some hX
  refine DR2 rfl rfl ?_
  refine TLc.appO nd kd47 bo47 ty3 rfl rfl (j:=1) rfl rfl (Src_L _) Dc (need_t hu74) rfl fun nd=>?_
  refine TL.nil ⟨_,[(b40,RV 215 [Enc.v r72.2.1,Enc.v r72.2.2]),(b48,RL (α:=Int) 3 (l49++([r72.1]:List Int)))],rfl,rfl,HSub_app nd,?_⟩
  refine D0 rfl (p_faV fs50_4 Dc rfl ndS (j:=2) rfl rfl) rfl rfl ?_
  refine DR3n rfl ?_
  refine TLc.stV (lu:=[OL (α:=Int) b48 (l49++([r72.1]:List Int))]) nd ty47 rfl (j:=4) rfl rfl rfl (Cells_rs (refOK_of nd (j:=1) rfl rfl)) rfl rfl [Enc.v c44,Enc.v c45,Enc.v c46,Enc.v c47,OL (α:=Int) b48 (l49++([r72.1]:List Int))] rfl fun nd=>?_
  refine TL.nil ⟨rfl,?_⟩
  refine DRende ?_
  exact ⟨_,(some_in hX).symm,b39,b38,b40,b48,b43,rfl,(Nd.pick nd (is:=[2,3,0,1,4]) Dc),(HSub.pick nd (is:=[2,3,0,1,4]) Dc)⟩
 ·have hX:=ite_f hc hX
  refine TK.exit ?_
  obtain rfl:=hR37 _ (some_in hX).symm
  exact E37 c41 c42 c44 c45 c46 c47 l49 _ _ ⟨b39,b38,b40,b48,b43,rfl,(Nd.pick nd (is:=[0,1,2,3,4]) Dc),(HSub.pick nd (is:=[0,1,2,3,4]) Dc)⟩ hA37
theorem bc_volume_Sealed:BodyC cx 70 34 [.c 2 50,.t 3] k70:=⟨Enters.of Try.func70 (by kernel_rfl) (by kernel_rfl),_,_,Try.func70,rfl,by kernel_rfl,rfl,rfl⟩
theorem ok_volume_Sealed (t1:Tape_api) (r:(Seal_api×Bool)) (hX:X.volume_Sealed t1=some r):Fun Try.prog 70 [Enc.v (t1:Tape_api)] (·= .tup 2 (ofL [Enc.v r.1,Enc.v r.2])):=by
 refine Fun.ofC (C:=cx) bc_volume_Sealed (Nat.le_of_ble_eq_true rfl) (allVal.mem ⟨(by exact (v_val _)),trivial⟩) ?_
 unfold k70
 have nd:Nd []:=Nd_nil
 unfold X.volume_Sealed at hX
 refine SR fun K2 hK2=>?_
 refine TLc.boxV (lu:=[Enc.v t1.Label,Enc.v t1.Cap,Enc.v t1.Blocks,Enc.v t1.Lost]) nd rfl (Cells_v (t1:Tape_api)) rfl ?_
 refine TLc.alO (l:=[Enc.v ((0:Int):Int),Enc.v ((0:Int):Int),Enc.v ((0:Int):Int),Enc.v ((0:Int):Int),.nils]) nd ty50 ti50_z rfl rfl fun b3 nd=>?_
 refine M rfl rfl (TL.nil (hK2 _ _ ?_))
 refine TK.cvR nd (j:=0) rfl (l':=[Enc.v ((0:Int):Int),Enc.v ((0:Int):Int),Enc.v ((0:Int):Int),Enc.v ((0:Int):Int),Enc.v (([]:(List Int)):(List Int))]) ⟨Wk.refl _,Wk.refl _,Wk.refl _,Wk.refl _,Wk_nil,trivial⟩ fun nd=>?_
 refine SR fun K4 hK4=>P1 (p_ldRa (l':=Enc.cl (t1:Tape_api)) ty54 rfl rfl rfl rfl rfl (Nat.le_of_ble_eq_true rfl)) rfl rfl (P1 (p_faR fs54_2 Dc rfl) rfl rfl (P1 (p_ldR (v:=Enc.v t1.Blocks) ty22 rfl rfl rfl rfl rfl rfl) rfl rfl (P1 (p_lenL (xs:=t1.Blocks) kd22 rfl) rfl rfl (P1 (p_sub rfl rfl) rfl rfl ?_))))
 obtain ⟨r5,hr5,hX⟩:=bind_some hX
 refine TL.cvX rfl rfl rfl (fun _=>⟨rfl,⟨rfl,⟨rfl,trivial⟩⟩⟩) (fun e=>ok_volume_Good t1 (wr ((t1.Blocks.length:Int)-(1:Int))) _ hr5) ?_
 refine M rfl rfl (P1 (p_ex rfl rfl Dc) rfl rfl (P1 (p_ex rfl rfl Dc) rfl rfl ?_))
 refine TLc.alO (l:=[Enc.v ((0:Int):Int),Enc.v ((0:Int):Int),Enc.v ((0:Int):Int),.nils]) nd ty68 ti68_z rfl rfl fun b6 nd=>?_
 refine TLc.stV (lu:=Enc.cl (r5.1:Unit_api)) nd ty68 rfl (j:=0) rfl rfl rfl (Cells_v (r5.1:Unit_api)) rfl rfl [Enc.v r5.1.Kind,Enc.v r5.1.Label,Enc.v r5.1.Number,Enc.v r5.1.Load] rfl fun nd=>?_
 refine M rfl rfl (TL.nil (hK4 _ _ ?_))
 refine TK.seq_k fun K7 hK7=>?_
 refine SR fun K8 hK8=>M rfl rfl (P1 (p_not rfl) rfl rfl (M rfl rfl ?_))
 refine TLc.p (gc:=(!((!r5.2)))) (p_faV fs68_0 Dc rfl nd (j:=0) rfl rfl (hg:=fun e=>rfl)) (gcF1 rfl) rfl ?_
 refine TLc.p (gc:=(!((!r5.2)))) (p_ldV (v:=Enc.v r5.1.Kind) ty3 rfl rfl nd (j:=0) rfl rfl rfl rfl rfl (hg:=fun e=>e)) (gcF1 rfl) rfl ?_
 refine TLc.p (gc:=(!((!r5.2)))) (p_neq rfl rfl (hg:=fun e=>⟨e,rfl⟩)) (gcF1 rfl) rfl ?_
 refine P1 (p_or rfl rfl (fun e=>⟨rfl,fun h=>(not_t h)⟩)) rfl rfl (TL.nil (hK8 _ _ ?_))
 refine TK.cond (b:=((!r5.2)||(r5.1.Kind !=(5:Int)))) rfl (fun hc=>?_) (fun hc=>?_)
 ·have hX:=ite_t hc hX
  refine SR fun K9 hK9=>?_
  refine TLc.p (gc:=true) (p_bld (l:=[Enc.v ((0:Int):Int),Enc.v ((0:Int):Int),Enc.v ((0:Int):Int),Enc.v ((0:Int):Int),.nils]) ty50 rfl all50 rfl (fun _=>trivial)) rfl rfl (TL.wk (v':=Enc.v ((Seal_api.mk (0:Int) (0:Int) (0:Int) (0:Int) ([]:(List Int))):Seal_api)) (Wk_agg ⟨Wk.refl _,Wk.refl _,Wk.refl _,Wk.refl _,Wk_nil,trivial⟩) ?_)
  refine TLc.stV (lu:=Enc.cl ((Seal_api.mk (0:Int) (0:Int) (0:Int) (0:Int) ([]:(List Int))):Seal_api)) nd ty50 rfl (j:=1) rfl rfl rfl (Cells_v ((Seal_api.mk (0:Int) (0:Int) (0:Int) (0:Int) ([]:(List Int))):Seal_api)) rfl rfl [Enc.v ((Seal_api.mk (0:Int) (0:Int) (0:Int) (0:Int) ([]:(List Int))).Number:Int),Enc.v ((Seal_api.mk (0:Int) (0:Int) (0:Int) (0:Int) ([]:(List Int))).Index:Int),Enc.v ((Seal_api.mk (0:Int) (0:Int) (0:Int) (0:Int) ([]:(List Int))).Data:Int),Enc.v ((Seal_api.mk (0:Int) (0:Int) (0:Int) (0:Int) ([]:(List Int))).Parity:Int),Enc.v ((Seal_api.mk (0:Int) (0:Int) (0:Int) (0:Int) ([]:(List Int))).Labels:(List Int))] rfl fun nd=>?_
  refine M rfl rfl (TL.nil (hK9 _ _ ?_))
  refine TK.ret ?_
  try dsimp only[thenQ]
  exact retC [Enc.v ((Seal_api.mk (0:Int) (0:Int) (0:Int) (0:Int) ([]:(List Int))):Seal_api),Enc.v false] ⟨p_ldVa (l':=Enc.cl ((Seal_api.mk (0:Int) (0:Int) (0:Int) (0:Int) ([]:(List Int))):Seal_api)) ty50 rfl rfl nd (j:=1) rfl rfl rfl rfl (Nat.le_of_ble_eq_true rfl),p_mv rfl,trivial⟩ (by obtain rfl:=some_in hX;rfl) (tup_val (allVal.mem ⟨v_val _,v_val _,trivial⟩))
 ·have hX:=ite_f hc hX
  refine TK.skip ?_
  refine hK7 _ _ (SR fun K10 hK10=>P1 (p_faV fs68_3 Dc rfl nd (j:=0) rfl rfl) rfl rfl (P1 (p_ldV (v:=Enc.v r5.1.Load) ty25 rfl rfl nd (j:=0) rfl rfl rfl rfl rfl) rfl rfl ?_))
  obtain ⟨r11,hr11,hX⟩:=bind_some hX
  refine TL.cvX rfl rfl rfl (fun _=>⟨rfl,⟨rfl,trivial⟩⟩) (fun e=>ok_record_ReadSeal r5.1.Load _ hr11) ?_
  refine M rfl rfl (P1 (p_ex rfl rfl Dc) rfl rfl (P1 (p_ex rfl rfl Dc) rfl rfl ?_))
  refine TLc.alO (l:=[Enc.v ((0:Int):Int),Enc.v ((0:Int):Int),Enc.v ((0:Int):Int),Enc.v ((0:Int):Int),.nils]) nd ty50 ti50_z rfl rfl fun b12 nd=>?_
  refine TLc.stV (lu:=Enc.cl (r11.1:Seal_api)) nd ty50 rfl (j:=0) rfl rfl rfl (Cells_v (r11.1:Seal_api)) rfl rfl [Enc.v r11.1.Number,Enc.v r11.1.Index,Enc.v r11.1.Data,Enc.v r11.1.Parity,Enc.v r11.1.Labels] rfl fun nd=>?_
  refine M rfl rfl (TL.nil (hK10 _ _ (SR fun K13 hK13=>P1 (p_ldVa (l':=Enc.cl (r11.1:Seal_api)) ty50 rfl rfl nd (j:=0) rfl rfl rfl rfl (Nat.le_of_ble_eq_true rfl)) rfl rfl (M rfl rfl (P1 (p_eql rfl rfl) rfl rfl ?_)))))
  refine TLc.stV (lu:=Enc.cl (r11.1:Seal_api)) nd ty50 rfl (j:=2) rfl rfl rfl (Cells_v (r11.1:Seal_api)) rfl rfl [Enc.v r11.1.Number,Enc.v r11.1.Index,Enc.v r11.1.Data,Enc.v r11.1.Parity,Enc.v r11.1.Labels] rfl fun nd=>?_
  refine M rfl rfl (TL.nil (hK13 _ _ ?_))
  refine TK.ret ?_
  try dsimp only[thenQ]
  exact retC [Enc.v r11.1,Enc.v ((r11.2==(0:Int)):Bool)] ⟨p_ldVa (l':=Enc.cl (r11.1:Seal_api)) ty50 rfl rfl nd (j:=2) rfl rfl rfl rfl (Nat.le_of_ble_eq_true rfl),p_mv rfl,trivial⟩ (by obtain rfl:=some_in hX;rfl) (tup_val (allVal.mem ⟨v_val _,v_val _,trivial⟩))
theorem ok_slices_IndexFunc_Lapi_Seal_api_Seal (s1:(List Seal_api)) (g2:Seal_api→Option Bool) (r:Int) (hX:X.slices_IndexFunc_Lapi_Seal_api_Seal s1 g2=some r) {g2V:AV} (hg2V:∃f m c,g2V= .fn f m c∧(∀i,i<m→(c i).val)∧∀(a0:Seal_api) r,g2 a0=some r→Fun Try.prog f ([Enc.v a0]++(List.range m).map c) (·=Enc.v r)):Fun Try.prog 117 [Enc.v (s1:(List Seal_api)),g2V] (·=Enc.v (r:Int)):=by
 obtain ⟨g2f,g2m,g2c,rfl,hg2v,hg2⟩:=hg2V
 refine Fun.of b117 (Nat.le_of_ble_eq_true rfl) (allVal.mem ⟨(by exact (v_val _)),hg2v,trivial⟩) ?_
 unfold k117
 have nd:Nd []:=Nd_nil
 unfold X.slices_IndexFunc_Lapi_Seal_api_Seal at hX
 refine SR fun K3 hK3=>M rfl rfl (TL.nil (hK3 _ _ ?_))
 refine TK.seq_k fun K4 hK4=>?_
 refine SR fun K5 hK5=>M rfl rfl (P1 (p_lenL (xs:=s1) kd71 rfl) rfl rfl (M rfl rfl (TL.nil (hK5 _ _ ?_))))
 refine TK.block ?_
 obtain ⟨o6,hO6,hA6⟩:=bind_some hX
 have E6:∀(env:Env) (h:Hp),(∃_u:Unit,keepE [] env=[]∧Nd []∧HSub [] h)→X.slices_IndexFunc_Lapi_Seal_api_Seal_e6=some r→K4 env h:=by
  intro env h hE hX
  obtain ⟨_u,henv,nd,hs⟩:=hE
  unfold X.slices_IndexFunc_Lapi_Seal_api_Seal_e6 at hX
  refine hK4 _ _ (TK.keep [] ?_)
  rw[henv]
  refine TK.subH hs ?_
  refine SR fun K8 hK8=>M rfl rfl (TL.nil (hK8 _ _ ?_))
  refine TK.ret ?_
  try dsimp only[thenQ]
  exact R1 rfl hX
 refine TK.iter [0,1,7,8] (fun s env h=>match s with|x7=>∃_u:Unit,env=[(0,true,Enc.v s1),(1,true,.fn g2f g2m g2c),(7,true,Enc.v ((s1.length:Int):Int)),(8,true,Enc.v x7)]∧Nd []∧HSub [] h) hO6 ⟨(),rfl,Nd_nil,HSub.refl _⟩ ?_
 rintro x7 env h x6x ⟨_u,rfl,nd,hs⟩ hX hR6
 refine TK.subH hs ?_
 unfold X.slices_IndexFunc_Lapi_Seal_api_Seal_s6 at hX
 try dsimp only at hX
 refine SR fun K9 hK9=>P1 (p_lss rfl rfl) rfl rfl (TL.nil (hK9 _ _ ?_))
 refine TK.seq_k fun K10 hK10=>?_
 refine TK.cond (b:=(decide (x7<(s1.length:Int)))) rfl (fun hc=>?_) (fun hc=>?_)
 ·have hX:=ite_t hc hX
  refine TK.skip ?_
  refine hK10 _ _ ?_
  refine TK.seq_k fun K11 hK11=>?_
  refine TK.block ?_
  refine SR fun K12 hK12=>M rfl rfl (M rfl rfl (TL.nil (hK12 _ _ (SR fun K13 hK13=>M rfl rfl (M rfl rfl (M rfl rfl ?_))))))
  obtain ⟨e14,he14,hX⟩:=bind_some hX
  refine P1 (p_iaL (xs:=s1) kd71 ty50 rfl rfl rfl (fun _=>he14)) rfl rfl (P1 (p_ldE (xs:=s1) (a:=e14) (e14:Seal_api) ty50 rfl rfl (fun _=>he14) rfl rfl rfl) rfl rfl ?_)
  obtain ⟨r15,hr15,hX⟩:=bind_some hX
  refine TL.cvX rfl rfl rfl (fun _=>⟨rfl,⟨rfl,trivial⟩⟩) (fun e=>hg2 e14 _ hr15) ?_
  refine TL.nil (hK13 _ _ ?_)
  refine TK.cond (b:=r15) rfl (fun hc=>?_) (fun hc=>?_)
  ·have hX:=ite_t hc hX
   refine SR fun K16 hK16=>M rfl rfl (M rfl rfl (TL.nil (hK16 _ _ ?_)))
   refine TK.ret ?_
   obtain rfl:=hR6 _ (some_in hX).symm
   replace hX:=hA6
   try dsimp only[thenQ]
   exact R1 rfl hX
  ·have hX:=ite_f hc hX
   refine TK.skip ?_
   refine hK11 _ _ ?_
   refine TK.reg ?_
   refine P1 (p_add rfl rfl) rfl rfl (M rfl rfl (TL.nil ?_))
   exact ⟨_,(some_in hX).symm,(),rfl,Nd_nil,HSub.refl _⟩
 ·have hX:=ite_f hc hX
  refine TK.exit ?_
  obtain rfl:=hR6 _ (some_in hX).symm
  exact E6 _ _ ⟨(),rfl,Nd_nil,HSub.refl _⟩ hA6
theorem ok_slices_ContainsFunc_Lapi_Seal_api_Seal (s1:(List Seal_api)) (g2:Seal_api→Option Bool) (r:Bool) (hX:X.slices_ContainsFunc_Lapi_Seal_api_Seal s1 g2=some r) {g2V:AV} (hg2V:∃f m c,g2V= .fn f m c∧(∀i,i<m→(c i).val)∧∀(a0:Seal_api) r,g2 a0=some r→Fun Try.prog f ([Enc.v a0]++(List.range m).map c) (·=Enc.v r)):Fun Try.prog 71 [Enc.v (s1:(List Seal_api)),g2V] (·=Enc.v (r:Bool)):=by
 obtain ⟨g2f,g2m,g2c,rfl,hg2v,hg2⟩:=hg2V
 refine Fun.of b71 (Nat.le_of_ble_eq_true rfl) (allVal.mem ⟨(by exact (v_val _)),hg2v,trivial⟩) ?_
 unfold k71
 have nd:Nd []:=Nd_nil
 unfold X.slices_ContainsFunc_Lapi_Seal_api_Seal at hX
 refine SR fun K3 hK3=>M rfl rfl (TL.nil (hK3 _ _ (SR fun K4 hK4=>M rfl rfl (M rfl rfl ?_))))
 obtain ⟨r5,hr5,hX⟩:=bind_some hX
 refine TL.cvX rfl rfl rfl (fun _=>⟨rfl,⟨rfl,⟨rfl,trivial⟩⟩⟩) (fun e=>ok_slices_IndexFunc_Lapi_Seal_api_Seal s1 g2 _ hr5 ⟨_,_,_,rfl,hg2v,hg2⟩) ?_
 refine P1 (p_geq rfl rfl) rfl rfl (M rfl rfl (TL.nil (hK4 _ _ ?_)))
 refine TK.ret ?_
 try dsimp only[thenQ]
 exact R1 rfl hX
theorem ok_group_Find_c1 (x1:Seal_api) (c2:Int) (c3:Int) (c4:Int) (c5:Int) (c6:(List Int)) (r:Bool) (hX:X.group_Find_c1 x1 c2 c3 c4 c5 c6=some r):Fun Try.prog 72 [Enc.v (x1:Seal_api),.vref (ofL [Enc.v (c2:Int),Enc.v (c3:Int),Enc.v (c4:Int),Enc.v (c5:Int),Enc.v (c6:(List Int))]) 5 0] (·=Enc.v (r:Bool)):=by
 refine Fun.of b72 (Nat.le_of_ble_eq_true rfl) (allVal.mem ⟨(by exact (v_val _)),(by exact (vref_val (l:=[Enc.v (c2:Int),Enc.v (c3:Int),Enc.v (c4:Int),Enc.v (c5:Int),Enc.v (c6:(List Int))]) rfl ⟨(v_val _),(v_val _),(v_val _),(v_val _),(v_val _),trivial⟩)),trivial⟩) ?_
 unfold k72
 have nd:Nd []:=Nd_nil
 unfold X.group_Find_c1 at hX
 refine SR fun K7 hK7=>?_
 refine TLc.boxV (lu:=[Enc.v x1.Number,Enc.v x1.Index,Enc.v x1.Data,Enc.v x1.Parity,Enc.v x1.Labels]) nd rfl (Cells_v (x1:Seal_api)) rfl ?_
 refine M rfl rfl (TL.nil (hK7 _ _ (SR fun K8 hK8=>P1 (p_faR fs50_0 Dc rfl) rfl rfl (P1 (p_ldR (v:=Enc.v x1.Number) ty3 rfl rfl rfl rfl rfl rfl) rfl rfl (P1 (p_faR fs50_0 Dc rfl) rfl rfl (P1 (p_ldR (v:=Enc.v c2) ty3 rfl rfl rfl rfl rfl rfl) rfl rfl (P1 (p_eql rfl rfl) rfl rfl (M rfl rfl (TL.nil (hK8 _ _ ?_))))))))))
 refine TK.ret ?_
 try dsimp only[thenQ]
 exact R1 rfl hX
theorem ok_math_bits_Len64 (x1:UInt64) (r:Int) (hX:X.math_bits_Len64 x1=some r):Fun Try.prog 138 [Enc.v (x1:UInt64)] (·=Enc.v (r:Int)):=by
 refine Fun.of b138 (Nat.le_of_ble_eq_true rfl) (allVal.mem ⟨(by exact (v_val _)),trivial⟩) ?_
 unfold k138
 have nd:Nd []:=Nd_nil
 unfold X.math_bits_Len64 at hX
 refine SR fun K2 hK2=>M rfl rfl (TL.nil (hK2 _ _ ?_))
 refine TK.seq_k fun K3 hK3=>?_
 have J3:∀(x4:UInt64) (n5:Int) (env:Env) (h:Hp),(∃_u:Unit,keepE [0,2] env=[(0,true,Enc.v x4),(2,true,Enc.v n5)]∧Nd []∧HSub [] h)→X.math_bits_Len64_j3 x4 n5=some r→K3 env h:=by
  intro x4 n5 env h hE hX
  obtain ⟨_u,henv,nd,hs⟩:=hE
  unfold X.math_bits_Len64_j3 at hX
  refine hK3 _ _ (TK.keep [0,2] ?_)
  rw[henv]
  refine TK.subH hs ?_
  refine TK.seq_k fun K6 hK6=>?_
  have J6:∀(x7:UInt64) (n8:Int) (env:Env) (h:Hp),(∃_u:Unit,keepE [0,2] env=[(0,true,Enc.v x7),(2,true,Enc.v n8)]∧Nd []∧HSub [] h)→X.math_bits_Len64_j6 x7 n8=some r→K6 env h:=by
   intro x7 n8 env h hE hX
   obtain ⟨_u,henv,nd,hs⟩:=hE
   unfold X.math_bits_Len64_j6 at hX
   refine hK6 _ _ (TK.keep [0,2] ?_)
   rw[henv]
   refine TK.subH hs ?_
   refine TK.seq_k fun K9 hK9=>?_
   have J9:∀(x10:UInt64) (n11:Int) (env:Env) (h:Hp),(∃_u:Unit,keepE [0,2] env=[(0,true,Enc.v x10),(2,true,Enc.v n11)]∧Nd []∧HSub [] h)→X.math_bits_Len64_j9 x10 n11=some r→K9 env h:=by
    intro x10 n11 env h hE hX
    obtain ⟨_u,henv,nd,hs⟩:=hE
    unfold X.math_bits_Len64_j9 at hX
    refine hK9 _ _ (TK.keep [0,2] ?_)
    rw[henv]
    refine TK.subH hs ?_
    refine SR fun K12 hK12=>M rfl rfl (M rfl rfl (P1 (p_cvt src145 kd5 rfl (cv_u8 _)) rfl rfl ?_))
    obtain ⟨x13,hx13,hX⟩:=bind_some hX
    refine P1 (p_ix kd9 rfl rfl (fun _=>hx13)) rfl rfl (P1 (p_cvt src5 kd3 rfl (cv_8 x13)) rfl rfl (P1 (p_add rfl rfl) rfl rfl (M rfl rfl (TL.nil (hK12 _ _ ?_)))))
    refine TK.ret ?_
    try dsimp only[thenQ]
    exact R1 rfl hX
   refine SR fun K14 hK14=>M rfl rfl (P1 (pu64_geq (a:=x7) (b:=(256:UInt64)) rfl rfl) rfl rfl (TL.nil (hK14 _ _ ?_)))
   refine TK.cond (b:=(decide (x7≥(256:UInt64)))) rfl (fun hc=>?_) (fun hc=>?_)
   ·have hX:=ite_t hc hX
    refine SR fun K15 hK15=>M rfl rfl (P1 (pu64_shr (a:=x7) (b:=8) rfl rfl) rfl rfl (M rfl rfl (TL.nil (hK15 _ _ ?_))))
    refine TK.reg ?_
    refine M rfl rfl (P1 (p_add rfl rfl) rfl rfl (M rfl rfl (TL.nil ?_)))
    exact J9 (shru64 x7 8) (wr (n8+(8:Int))) _ _ ⟨(),rfl,Nd_nil,HSub.refl _⟩ hX
   ·have hX:=ite_f hc hX
    refine TK.skip ?_
    exact J9 x7 n8 _ _ ⟨(),rfl,Nd_nil,HSub.refl _⟩ hX
  refine SR fun K16 hK16=>M rfl rfl (P1 (pu64_geq (a:=x4) (b:=(65536:UInt64)) rfl rfl) rfl rfl (TL.nil (hK16 _ _ ?_)))
  refine TK.cond (b:=(decide (x4≥(65536:UInt64)))) rfl (fun hc=>?_) (fun hc=>?_)
  ·have hX:=ite_t hc hX
   refine SR fun K17 hK17=>M rfl rfl (P1 (pu64_shr (a:=x4) (b:=16) rfl rfl) rfl rfl (M rfl rfl (TL.nil (hK17 _ _ ?_))))
   refine TK.reg ?_
   refine M rfl rfl (P1 (p_add rfl rfl) rfl rfl (M rfl rfl (TL.nil ?_)))
   exact J6 (shru64 x4 16) (wr (n5+(16:Int))) _ _ ⟨(),rfl,Nd_nil,HSub.refl _⟩ hX
  ·have hX:=ite_f hc hX
   refine TK.skip ?_
   exact J6 x4 n5 _ _ ⟨(),rfl,Nd_nil,HSub.refl _⟩ hX
 refine SR fun K18 hK18=>M rfl rfl (P1 (pu64_geq (a:=x1) (b:=(4294967296:UInt64)) rfl rfl) rfl rfl (TL.nil (hK18 _ _ ?_)))
 refine TK.cond (b:=(decide (x1≥(4294967296:UInt64)))) rfl (fun hc=>?_) (fun hc=>?_)
 ·have hX:=ite_t hc hX
  refine SR fun K19 hK19=>M rfl rfl (P1 (pu64_shr (a:=x1) (b:=32) rfl rfl) rfl rfl (M rfl rfl (TL.nil (hK19 _ _ ?_))))
  refine TK.reg ?_
  refine M rfl rfl (TL.nil ?_)
  exact J3 (shru64 x1 32) (32:Int) _ _ ⟨(),rfl,Nd_nil,HSub.refl _⟩ hX
 ·have hX:=ite_f hc hX
  refine TK.skip ?_
  exact J3 x1 (0:Int) _ _ ⟨(),rfl,Nd_nil,HSub.refl _⟩ hX
theorem ok_math_bits_Len (x1:UInt64) (r:Int) (hX:X.math_bits_Len x1=some r):Fun Try.prog 86 [Enc.v (x1:UInt64)] (·=Enc.v (r:Int)):=by
 refine Fun.of b86 (Nat.le_of_ble_eq_true rfl) (allVal.mem ⟨(by exact (v_val _)),trivial⟩) ?_
 unfold k86
 have nd:Nd []:=Nd_nil
 unfold X.math_bits_Len at hX
 refine SR fun K2 hK2=>M rfl rfl (TL.nil (hK2 _ _ ?_))
 refine TK.seq_k fun K3 hK3=>?_
 refine TK.cond (b:=false) rfl (fun hc=>by simp at hc) (fun _=>?_)
 refine TK.skip ?_
 refine hK3 _ _ (SR fun K4 hK4=>M rfl rfl ?_)
 obtain ⟨r5,hr5,hX⟩:=bind_some hX
 refine TL.cvX rfl rfl rfl (fun _=>⟨rfl,⟨rfl,trivial⟩⟩) (fun e=>ok_math_bits_Len64 x1 _ hr5) ?_
 refine M rfl rfl (TL.nil (hK4 _ _ ?_))
 refine TK.ret ?_
 try dsimp only[thenQ]
 exact R1 rfl hX
theorem ok_slices_insertionSortCmpFunc_api_Seal (a3:Int) (b4:Int) (g5:Seal_api→Seal_api→Option Int) (data1:(List Seal_api)) (b2:Nat) (nd:Nd [(b2,RL (α:=Seal_api) 50 data1)]) (r:(List Seal_api)) (hX:X.slices_insertionSortCmpFunc_api_Seal a3 b4 g5 data1=some r) {g5V:AV} (hg5V:∃f m c,g5V= .fn f m c∧(∀i,i<m→(c i).val)∧∀(a0:Seal_api) (a1:Seal_api) r,g5 a0 a1=some r→Fun Try.prog f ([Enc.v a0,Enc.v a1]++(List.range m).map c) (·=Enc.v r)):TCX Try.prog 162 [OL (α:=Seal_api) b2 data1,Enc.v (a3:Int),Enc.v (b4:Int),g5V] [(b2,RL (α:=Seal_api) 50 data1)] (fun rv h'=>rv= .tup 0 (ofL [])∧h'=[(b2,RL (α:=Seal_api) 50 r)]):=by
 obtain ⟨g5f,g5m,g5c,rfl,hg5v,hg5⟩:=hg5V
 have:NoA (.fn g5f g5m g5c):=⟨fun i hi=>(hg5v i hi).no⟩
 refine TCX.of b162 (Nat.le_of_ble_eq_true rfl) ?_
 unfold k162
 unfold X.slices_insertionSortCmpFunc_api_Seal at hX
 refine TK.endK fun KE hKE=>?_
 refine SR fun K6 hK6=>M rfl rfl (P1 (p_add rfl rfl) rfl rfl (M rfl rfl (TL.nil (hK6 _ _ ?_))))
 refine TK.block ?_
 obtain ⟨o7,hO7,hA7⟩:=bind_some hX
 have E7:∀(l12:List Seal_api) (env:Env) (h:Hp),(∃_u:Unit,keepE [0] env=[(0,true,OL b2 l12)]∧Nd [(b2,RL (α:=Seal_api) 50 l12)]∧HSub [(b2,RL (α:=Seal_api) 50 l12)] h)→X.slices_insertionSortCmpFunc_api_Seal_e7 l12=some r→KE env h:=by
  intro l12 env h hE hX
  obtain ⟨_u,henv,nd,hs⟩:=hE
  unfold X.slices_insertionSortCmpFunc_api_Seal_e7 at hX
  refine hKE _ _ (TL.keep [0] ?_)
  rw[henv]
  refine TL.subH hs ?_
  refine TL.nil ?_
  try dsimp only[thenQ]
  refine RetQ_end ?_
  exact retX (v:= .tup 0 (ofL [])) res0 (by obtain rfl:=some_in hX;exact ⟨rfl,rfl⟩) nd (inH_tup (l:=[]) trivial) ⟨rowIn_RL,trivial⟩
 refine TK.iter [0,1,2,3,8] (fun s env h=>match s with|(data9,i10)=>∃_u:Unit,env=[(0,true,OL b2 data9),(1,true,Enc.v a3),(2,true,Enc.v b4),(3,true,.fn g5f g5m g5c),(8,true,Enc.v i10)]∧Nd [(b2,RL (α:=Seal_api) 50 data9)]∧HSub [(b2,RL (α:=Seal_api) 50 data9)] h) hO7 ⟨(),rfl,(Nd.pick nd (is:=[0]) Dc),(HSub.pick nd (is:=[0]) Dc)⟩ ?_
 rintro ⟨data9,i10⟩ env h x7x ⟨_u,rfl,nd,hs⟩ hX hR7
 refine TK.subH hs ?_
 unfold X.slices_insertionSortCmpFunc_api_Seal_s7 at hX
 try dsimp only at hX
 refine TK.seq_k fun K13 hK13=>?_
 refine SR fun K14 hK14=>M rfl rfl (M rfl rfl (P1 (p_lss rfl rfl) rfl rfl (TL.nil (hK14 _ _ ?_))))
 refine TK.cond (b:=(decide (i10<b4))) rfl (fun hc=>?_) (fun hc=>?_)
 ·have hX:=ite_t hc hX
  refine TK.skip ?_
  refine hK13 _ _ ?_
  refine TK.seq_k fun K15 hK15=>?_
  refine TK.block ?_
  refine SR fun K16 hK16=>M rfl rfl (M rfl rfl (TL.nil (hK16 _ _ ?_)))
  refine TK.block ?_
  obtain ⟨o17,hO17,hA17⟩:=bind_some hX
  have E17:∀(l22:List Seal_api) (env:Env) (h:Hp),(∃_u:Unit,keepE [0,1,2,3,8] env=[(0,true,OL b2 l22),(1,true,Enc.v a3),(2,true,Enc.v b4),(3,true,.fn g5f g5m g5c),(8,true,Enc.v i10)]∧Nd [(b2,RL (α:=Seal_api) 50 l22)]∧HSub [(b2,RL (α:=Seal_api) 50 l22)] h)→X.slices_insertionSortCmpFunc_api_Seal_e17 i10 l22=some x7x→K15 env h:=by
   intro l22 env h hE hX
   obtain ⟨_u,henv,nd,hs⟩:=hE
   unfold X.slices_insertionSortCmpFunc_api_Seal_e17 at hX
   refine hK15 _ _ (TK.keep [0,1,2,3,8] ?_)
   rw[henv]
   refine TK.subH hs ?_
   refine TK.reg ?_
   refine M rfl rfl (P1 (p_add rfl rfl) rfl rfl (M rfl rfl (TL.nil ?_)))
   exact ⟨_,(some_in hX).symm,(),rfl,(Nd.pick nd (is:=[0]) Dc),(HSub.pick nd (is:=[0]) Dc)⟩
  refine TK.iter [0,1,2,3,8,9] (fun s env h=>match s with|(data19,j20)=>∃_u:Unit,env=[(0,true,OL b2 data19),(1,true,Enc.v a3),(2,true,Enc.v b4),(3,true,.fn g5f g5m g5c),(8,true,Enc.v i10),(9,true,Enc.v j20)]∧Nd [(b2,RL (α:=Seal_api) 50 data19)]∧HSub [(b2,RL (α:=Seal_api) 50 data19)] h) hO17 ⟨(),rfl,(Nd.pick nd (is:=[0]) Dc),(HSub.pick nd (is:=[0]) Dc)⟩ ?_
  rintro ⟨data19,j20⟩ env h x17x ⟨_u,rfl,nd,hs⟩ hX hR17
  refine TK.subH hs ?_
  unfold X.slices_insertionSortCmpFunc_api_Seal_s17 at hX
  try dsimp only at hX
  refine TK.seq_k fun K23 hK23=>?_
  refine TK.seq_k fun K24 hK24=>?_
  have ndS:Nd [(b2,RL (α:=Seal_api) 50 data19)]:=Nd.pick nd (is:=[0]) Dc
  refine TK.drwX (h:=[]) (hS:=[(b2,RL (α:=Seal_api) 50 data19)]) [(0,0),(0,1),(0,2),(0,3),(0,4),(0,5),(0,6),(0,7),(0,8),(0,9),(0,10),(0,11),(0,12),(0,13),(0,14),(0,15),(0,16)] mixed (by kernel_rfl) (HSub_app nd) ?_
  refine DM rfl rfl rfl ?_
  refine DM rfl rfl rfl ?_
  refine D0 rfl (p_gtr rfl rfl) rfl rfl ?_
  refine DM rfl rfl rfl ?_
  refine DR0 (gc:=((decide (j20>a3)))) rfl (vok_p (C:=cx) (p_mv rfl (hg:=fun e=>rfl))) (gcT1 rfl) rfl ?_
  refine DR0 (gc:=((decide (j20>a3)))) rfl (vok_p (C:=cx) (p_mv rfl (hg:=fun e=>rfl))) (gcT1 rfl) rfl ?_
  refine DR0 (gc:=((decide (j20>a3)))) rfl (vok_p (C:=cx) (p_mv rfl (hg:=fun e=>rfl))) (gcT1 rfl) rfl ?_
  obtain ⟨e25,he25,hX⟩:=bind_some hX
  refine DR0 (gc:=((decide (j20>a3)))) rfl (vok_p (C:=cx) (p_iaO (xs:=data19) kd71 ty50 rfl rfl rfl ndS (j:=0) rfl (fun e=>optG_t he25 e) (hg:=fun e=>⟨e,e⟩))) (gcT1 rfl) rfl ?_
  refine DR0 (gc:=((decide (j20>a3)))) rfl (vok_p (C:=cx) (p_ldO (xs:=data19) (a:=e25) (e25:Seal_api) ty50 rfl rfl ndS (j:=0) rfl (fun e=>optG_t he25 e) rfl rfl rfl (hg:=fun e=>e))) (gcT1 rfl) rfl ?_
  refine DR0 (gc:=((decide (j20>a3)))) rfl (vok_p (C:=cx) (p_mv rfl (hg:=fun e=>rfl))) (gcT1 rfl) rfl ?_
  refine DR0 (gc:=((decide (j20>a3)))) rfl (vok_p (C:=cx) (p_mv rfl (hg:=fun e=>rfl))) (gcT1 rfl) rfl ?_
  refine DR0 (gc:=((decide (j20>a3)))) rfl (vok_p (C:=cx) (p_sub rfl rfl (hg:=fun e=>⟨e,rfl⟩))) (gcT1 rfl) rfl ?_
  obtain ⟨e26,he26,hX⟩:=bind_some hX
  refine DR0 (gc:=((decide (j20>a3)))) rfl (vok_p (C:=cx) (p_iaO (xs:=data19) kd71 ty50 rfl rfl rfl ndS (j:=0) rfl (fun e=>optG_t he26 e) (hg:=fun e=>⟨e,e⟩))) (gcT1 rfl) rfl ?_
  refine DR0 (gc:=((decide (j20>a3)))) rfl (vok_p (C:=cx) (p_ldO (xs:=data19) (a:=e26) (e26:Seal_api) ty50 rfl rfl ndS (j:=0) rfl (fun e=>optG_t he26 e) rfl rfl rfl (hg:=fun e=>e))) (gcT1 rfl) rfl ?_
  obtain ⟨r27,hr27,hX⟩:=bind_some hX
  refine DR0 (gc:=((decide (j20>a3)))) rfl (vok_c rfl (fun e=>⟨e,⟨e,⟨e,trivial⟩⟩⟩) (fun e=>hg5 e25 e26 _ (optG_t hr27 e))) (gcT1 rfl) rfl ?_
  refine DR0 (gc:=((decide (j20>a3)))) rfl (vok_p (C:=cx) (p_lss rfl rfl (hg:=fun e=>⟨e,rfl⟩))) (gcT1 rfl) rfl ?_
  refine D0 rfl (p_and rfl rfl (fun e=>⟨rfl,fun h=>h⟩)) rfl rfl ?_
  refine DRend ?_
  refine hK24 _ _ ?_
  refine TK.cond (b:=((decide (j20>a3))&&(decide (r27<(0:Int))))) rfl (fun hc=>?_) (fun hc=>?_)
  ·have hX:=ite_t hc hX
   refine TK.skip ?_
   refine hK23 _ _ ?_
   refine TK.seq_k fun K28 hK28=>?_
   refine TK.block ?_
   have ndS:Nd []:=Nd.pick nd (is:=[]) Dc
   refine TK.endK fun KD hKD=>?_
   refine TK.drwX (h:=[(b2,RL (α:=Seal_api) 50 data19)]) (hS:=[]) [(0,0),(0,1),(0,2),(0,3),(0,4),(0,5),(0,6),(0,7),(1,8),(1,9),(0,10),(0,11),(1,12),(1,13),(1,14),(2,15),(1,16),(2,17)] mixed (by kernel_rfl) (HSub_app nd) ?_
   refine DM rfl rfl rfl ?_
   refine DM rfl rfl rfl ?_
   refine DM rfl rfl rfl ?_
   refine DM rfl rfl rfl ?_
   refine D0 rfl (p_sub rfl rfl) rfl rfl ?_
   refine DM rfl rfl rfl ?_
   refine DM rfl rfl rfl ?_
   refine D0 rfl (p_sub rfl rfl) rfl rfl ?_
   obtain ⟨e29,he29,hX⟩:=bind_some hX
   refine DR1 (gc:=true) rfl (vok_p (C:=cx) (p_iaO (xs:=data19) kd71 ty50 rfl rfl rfl nd (j:=0) rfl (fun _=>he29))) rfl rfl ?_
   refine DR1 (gc:=true) rfl (vok_p (C:=cx) (p_ldO (xs:=data19) (a:=e29) (e29:Seal_api) ty50 rfl rfl nd (j:=0) rfl (fun _=>he29) rfl rfl rfl)) rfl rfl ?_
   refine DM rfl rfl rfl ?_
   refine DM rfl rfl rfl ?_
   obtain ⟨e30,he30,hX⟩:=bind_some hX
   refine DR1 (gc:=true) rfl (vok_p (C:=cx) (p_iaO (xs:=data19) kd71 ty50 rfl rfl rfl nd (j:=0) rfl (fun _=>he30))) rfl rfl ?_
   refine DR1 (gc:=true) rfl (vok_p (C:=cx) (p_ldO (xs:=data19) (a:=e30) (e30:Seal_api) ty50 rfl rfl nd (j:=0) rfl (fun _=>he30) rfl rfl rfl)) rfl rfl ?_
   obtain ⟨e31,he31,hX⟩:=bind_some hX
   refine DR1 (gc:=true) rfl (vok_p (C:=cx) (p_iaO (xs:=data19) kd71 ty50 rfl rfl rfl nd (j:=0) rfl (fun _=>he31))) rfl rfl ?_
   refine DR2n rfl ?_
   refine TLc.stW (xs:=data19) (i:=j20) (lu:=Enc.cl (e29:Seal_api)) (a':=e29) nd ty50 rfl (j:=0) rfl (by simp[Enc.sz]) (inb_of he31 (by simp)) rfl (Cells_v (e29:Seal_api)) rfl (WkL_refl _) fun nd=>?_
   refine TL.nil ⟨.nilp,[(b2,RL (α:=Seal_api) 50 (data19.set j20.toNat e29))],rfl,rfl,HSub_app nd,?_⟩
   obtain ⟨e32,he32,hX⟩:=bind_some hX
   refine DR1 (gc:=true) rfl (vok_p (C:=cx) (p_iaO (xs:=(data19.set j20.toNat e29)) (gx:=true) kd71 ty50 rfl (by rw[OL_len (xs:=(data19.set j20.toNat e29)) (ys:=data19) (by simp)];rfl) rfl nd (j:=0) rfl (fun _=>he32))) rfl rfl ?_
   refine DR2n rfl ?_
   refine TLc.stW (xs:=(data19.set j20.toNat e29)) (i:=(wr (j20-(1:Int)))) (lu:=Enc.cl (e30:Seal_api)) (a':=e30) nd ty50 rfl (j:=0) rfl (by simp[Enc.sz]) (inb_of he32 (by simp)) rfl (Cells_v (e30:Seal_api)) rfl (WkL_refl _) fun nd=>?_
   refine TL.nil ⟨.nilp,[(b2,RL (α:=Seal_api) 50 ((data19.set j20.toNat e29).set (wr (j20-(1:Int))).toNat e30))],rfl,rfl,HSub_app nd,?_⟩
   refine DRend ?_
   refine hKD _ _ ?_
   refine TL.cv 0 (OL (α:=Seal_api) b2 ((data19.set j20.toNat e29).set (wr (j20-(1:Int))).toNat e30)) rfl (Wk_eq (OL_len (by simp))) ?_
   refine TL.nil (hK28 _ _ ?_)
   refine TK.reg ?_
   refine M rfl rfl (P1 (p_sub rfl rfl) rfl rfl (M rfl rfl (TL.nil ?_)))
   exact ⟨_,(some_in hX).symm,(),rfl,(Nd.pick nd (is:=[0]) Dc),(HSub.pick nd (is:=[0]) Dc)⟩
  ·have hX:=ite_f hc hX
   refine TK.exit ?_
   obtain rfl:=hR17 _ (some_in hX).symm
   exact E17 data19 _ _ ⟨(),rfl,(Nd.pick nd (is:=[0]) Dc),(HSub.pick nd (is:=[0]) Dc)⟩ hA17
 ·have hX:=ite_f hc hX
  refine TK.exit ?_
  obtain rfl:=hR7 _ (some_in hX).symm
  exact E7 data9 _ _ ⟨(),rfl,(Nd.pick nd (is:=[0]) Dc),(HSub.pick nd (is:=[0]) Dc)⟩ hA7
theorem ok_slices_pdqsortCmpFunc_api_Seal (a3:Int) (b4:Int) (limit5:Int) (g6:Seal_api→Seal_api→Option Int) (data1:(List Seal_api)) (b2:Nat) (nd:Nd [(b2,RL (α:=Seal_api) 50 data1)]) (r:(List Seal_api)) (hX:X.slices_pdqsortCmpFunc_api_Seal a3 b4 limit5 g6 data1=some r) {g6V:AV} (hg6V:∃f m c,g6V= .fn f m c∧(∀i,i<m→(c i).val)∧∀(a0:Seal_api) (a1:Seal_api) r,g6 a0 a1=some r→Fun Try.prog f ([Enc.v a0,Enc.v a1]++(List.range m).map c) (·=Enc.v r)):TCX Try.prog 118 [OL (α:=Seal_api) b2 data1,Enc.v (a3:Int),Enc.v (b4:Int),Enc.v (limit5:Int),g6V] [(b2,RL (α:=Seal_api) 50 data1)] (fun rv h'=>rv= .tup 0 (ofL [])∧h'=[(b2,RL (α:=Seal_api) 50 r)]):=by
 obtain ⟨g6f,g6m,g6c,rfl,hg6v,hg6⟩:=hg6V
 have:NoA (.fn g6f g6m g6c):=⟨fun i hi=>(hg6v i hi).no⟩
 refine TCX.of b118 (Nat.le_of_ble_eq_true rfl) ?_
 unfold k118
 unfold X.slices_pdqsortCmpFunc_api_Seal at hX
 refine SR fun K7 hK7=>M rfl rfl (TL.nil (hK7 _ _ (SR fun K8 hK8=>M rfl rfl (TL.nil (hK8 _ _ ?_)))))
 refine TK.block ?_
 refine TK.unroll 1 ?_
 refine unr_s ?_
 refine TK.block ?_
 refine SR fun K10 hK10=>M rfl rfl (M rfl rfl (P1 (p_sub rfl rfl) rfl rfl (M rfl rfl (TL.nil (hK10 _ _ ?_)))))
 refine TK.seq_k fun K11 hK11=>?_
 refine SR fun K12 hK12=>M rfl rfl (P1 (p_leq rfl rfl) rfl rfl (TL.nil (hK12 _ _ ?_)))
 refine TK.cond (b:=(decide ((wr (b4-a3))≤(12:Int)))) rfl (fun hc=>?_) (fun hc=>?_)
 ·have hX:=ite_t hc hX
  refine SR fun K13 hK13=>M rfl rfl (M rfl rfl (M rfl rfl (M rfl rfl ?_)))
  obtain ⟨r14,hr14,hX⟩:=bind_some hX
  refine TL.tcX [(b2,RL (α:=Seal_api) 50 data1)] [] rfl nd (dlt rfl) rfl ⟨rfl,⟨rfl,⟨rfl,⟨rfl,⟨rfl,trivial⟩⟩⟩⟩⟩ (ok_slices_insertionSortCmpFunc_api_Seal a3 b4 g6 data1 b2 (Nd.take nd 1 rfl) _ hr14 ⟨_,_,_,rfl,hg6v,hg6⟩) ?_
  rintro _ _ hQ nd
  obtain ⟨rfl,rfl⟩:=hQ
  refine TL.nil (hK13 _ _ ?_)
  refine TK.ret ?_
  try dsimp only[thenQ]
  exact retX (v:= .tup 0 (ofL [])) res0 (by obtain rfl:=some_in hX;exact ⟨rfl,rfl⟩) nd (inH_tup (l:=[]) trivial) ⟨rowIn_RL,trivial⟩
 ·have hX:=ite_f hc hX
  refine TK.skip ?_
  refine hK11 _ _ ?_
  refine TK.seq_k fun K15 hK15=>?_
  refine SR fun K16 hK16=>M rfl rfl (P1 (p_eql rfl rfl) rfl rfl (TL.nil (hK16 _ _ ?_)))
  refine TK.cond (b:=(limit5==(0:Int))) rfl (fun hc=>?_) (fun hc=>?_)
  ·have hX:=ite_t hc hX
   refine SR fun K17 hK17=>M rfl rfl (M rfl rfl (M rfl rfl (M rfl rfl ?_)))
   cases hX
  ·have hX:=ite_f hc hX
   refine TK.skip ?_
   refine hK15 _ _ ?_
   refine TK.seq_k fun K18 hK18=>?_
   refine SR fun K19 hK19=>M rfl rfl (P1 (p_not rfl) rfl rfl (TL.nil (hK19 _ _ ?_)))
   refine TK.cond (b:=(!true)) rfl (fun hc=>?_) (fun hc=>?_)
   ·have hX:=ite_t hc hX
    refine SR fun K20 hK20=>M rfl rfl (M rfl rfl (M rfl rfl (M rfl rfl ?_)))
    cases hX
   ·have hX:=ite_f hc hX
    refine TK.skip ?_
    refine hK18 _ _ (SR fun K21 hK21=>M rfl rfl (M rfl rfl (M rfl rfl (M rfl rfl ?_))))
    cases hX
theorem ok_slices_SortFunc_Lapi_Seal_api_Seal (g3:Seal_api→Seal_api→Option Int) (x1:(List Seal_api)) (b2:Nat) (nd:Nd [(b2,RL (α:=Seal_api) 50 x1)]) (r:(List Seal_api)) (hX:X.slices_SortFunc_Lapi_Seal_api_Seal g3 x1=some r) {g3V:AV} (hg3V:∃f m c,g3V= .fn f m c∧(∀i,i<m→(c i).val)∧∀(a0:Seal_api) (a1:Seal_api) r,g3 a0 a1=some r→Fun Try.prog f ([Enc.v a0,Enc.v a1]++(List.range m).map c) (·=Enc.v r)):TCX Try.prog 73 [OL (α:=Seal_api) b2 x1,g3V] [(b2,RL (α:=Seal_api) 50 x1)] (fun rv h'=>rv= .tup 0 (ofL [])∧h'=[(b2,RL (α:=Seal_api) 50 r)]):=by
 obtain ⟨g3f,g3m,g3c,rfl,hg3v,hg3⟩:=hg3V
 have:NoA (.fn g3f g3m g3c):=⟨fun i hi=>(hg3v i hi).no⟩
 refine TCX.of b73 (Nat.le_of_ble_eq_true rfl) ?_
 unfold k73
 unfold X.slices_SortFunc_Lapi_Seal_api_Seal at hX
 refine TK.endK fun KE hKE=>?_
 refine SR fun K4 hK4=>M rfl rfl (P1 (p_lenR kd71 rfl (fun _=>refOK_of nd (j:=0) rfl rfl)) rfl rfl (M rfl rfl (TL.nil (hK4 _ _ ?_))))
 refine TK.reg ?_
 refine M rfl rfl (M rfl rfl (M rfl rfl (P1 (p_cvt src3 kd105 rfl (cv_u64 _)) rfl rfl ?_)))
 obtain ⟨r5,hr5,hX⟩:=bind_some hX
 refine TL.cvX rfl rfl rfl (fun _=>⟨rfl,⟨rfl,trivial⟩⟩) (fun e=>ok_math_bits_Len (u64 (x1.length:Int)) _ hr5) ?_
 refine M rfl rfl ?_
 obtain ⟨r6,hr6,hX⟩:=bind_some hX
 refine TL.tcX [(b2,RL (α:=Seal_api) 50 x1)] [] rfl nd (dlt rfl) rfl ⟨rfl,⟨rfl,⟨rfl,⟨rfl,⟨rfl,⟨rfl,trivial⟩⟩⟩⟩⟩⟩ (ok_slices_pdqsortCmpFunc_api_Seal (0:Int) (x1.length:Int) r5 g3 x1 b2 (Nd.take nd 1 rfl) _ hr6 ⟨_,_,_,rfl,hg3v,hg3⟩) ?_
 rintro _ _ hQ nd
 obtain ⟨rfl,rfl⟩:=hQ
 refine TL.nil (hKE _ _ (TL.nil ?_))
 try dsimp only[thenQ]
 refine RetQ_end ?_
 exact retX (v:= .tup 0 (ofL [])) res0 (by obtain rfl:=some_in hX;exact ⟨rfl,rfl⟩) nd (inH_tup (l:=[]) trivial) ⟨rowIn_RL,trivial⟩
theorem len_slices_SortFunc_Lapi_Seal_api_SealL {g3:Seal_api→Seal_api→Option Int} {x1:(List Seal_api)} {r:(List Seal_api)} (hX:X.slices_SortFunc_Lapi_Seal_api_SealL g3 x1=some r):r.length=x1.length:=by
 obtain ⟨q,_,h⟩:=bind_some hX
 split at h
 ·injection h with h
  subst h
  assumption
 ·cases h
theorem ok_slices_SortFunc_Lapi_Seal_api_SealL (g3:Seal_api→Seal_api→Option Int) (x1:(List Seal_api)) (b2:Nat) (nd:Nd [(b2,RL (α:=Seal_api) 50 x1)]) (r:(List Seal_api)) (hX:X.slices_SortFunc_Lapi_Seal_api_SealL g3 x1=some r) {g3V:AV} (hg3V:∃f m c,g3V= .fn f m c∧(∀i,i<m→(c i).val)∧∀(a0:Seal_api) (a1:Seal_api) r,g3 a0 a1=some r→Fun Try.prog f ([Enc.v a0,Enc.v a1]++(List.range m).map c) (·=Enc.v r)):TCX Try.prog 73 [OL (α:=Seal_api) b2 x1,g3V] [(b2,RL (α:=Seal_api) 50 x1)] (fun rv h'=>rv= .tup 0 (ofL [])∧h'=[(b2,RL (α:=Seal_api) 50 r)]):=by
 obtain ⟨q,h1,h2⟩:=bind_some hX
 split at h2
 ·injection h2 with h2
  subst h2
  exact ok_slices_SortFunc_Lapi_Seal_api_Seal g3 x1 b2 nd _ h1 hg3V
 ·cases h2
theorem ok_cmp_isNaN_int (x1:Int) (r:Bool) (hX:X.cmp_isNaN_int x1=some r):Fun Try.prog 119 [Enc.v (x1:Int)] (·=Enc.v (r:Bool)):=by
 refine Fun.of b119 (Nat.le_of_ble_eq_true rfl) (allVal.mem ⟨(by exact (v_val _)),trivial⟩) ?_
 unfold k119
 have nd:Nd []:=Nd_nil
 unfold X.cmp_isNaN_int at hX
 refine SR fun K2 hK2=>M rfl rfl (TL.nil (hK2 _ _ (SR fun K3 hK3=>M rfl rfl (M rfl rfl (P1 (p_neq rfl rfl) rfl rfl (M rfl rfl (TL.nil (hK3 _ _ ?_))))))))
 refine TK.ret ?_
 try dsimp only[thenQ]
 exact R1 rfl hX
theorem ok_cmp_Compare_int (x1:Int) (y2:Int) (r:Int) (hX:X.cmp_Compare_int x1 y2=some r):Fun Try.prog 75 [Enc.v (x1:Int),Enc.v (y2:Int)] (·=Enc.v (r:Int)):=by
 refine Fun.of b75 (Nat.le_of_ble_eq_true rfl) (allVal.mem ⟨(by exact (v_val _)),(by exact (v_val _)),trivial⟩) ?_
 unfold k75
 have nd:Nd []:=Nd_nil
 unfold X.cmp_Compare_int at hX
 refine SR fun K3 hK3=>M rfl rfl (TL.nil (hK3 _ _ (SR fun K4 hK4=>M rfl rfl ?_)))
 obtain ⟨r5,hr5,hX⟩:=bind_some hX
 refine TL.cvX rfl rfl rfl (fun _=>⟨rfl,⟨rfl,trivial⟩⟩) (fun e=>ok_cmp_isNaN_int x1 _ hr5) ?_
 refine M rfl rfl (TL.nil (hK4 _ _ (SR fun K6 hK6=>M rfl rfl ?_)))
 obtain ⟨r7,hr7,hX⟩:=bind_some hX
 refine TL.cvX rfl rfl rfl (fun _=>⟨rfl,⟨rfl,trivial⟩⟩) (fun e=>ok_cmp_isNaN_int y2 _ hr7) ?_
 refine M rfl rfl (TL.nil (hK6 _ _ ?_))
 refine TK.seq_k fun K8 hK8=>?_
 refine SR fun K9 hK9=>M rfl rfl (TL.nil (hK9 _ _ ?_))
 refine TK.cond (b:=r5) rfl (fun hc=>?_) (fun hc=>?_)
 ·have hX:=ite_t hc hX
  refine TK.seq_k fun K10 hK10=>?_
  refine SR fun K11 hK11=>M rfl rfl (TL.nil (hK11 _ _ ?_))
  refine TK.cond (b:=r7) rfl (fun hc=>?_) (fun hc=>?_)
  ·have hX:=ite_t hc hX
   refine SR fun K12 hK12=>M rfl rfl (TL.nil (hK12 _ _ ?_))
   refine TK.ret ?_
   try dsimp only[thenQ]
   exact R1 rfl hX
  ·have hX:=ite_f hc hX
   refine TK.skip ?_
   refine hK10 _ _ (SR fun K13 hK13=>M rfl rfl (TL.nil (hK13 _ _ ?_)))
   refine TK.ret ?_
   try dsimp only[thenQ]
   exact R1 rfl hX
 ·have hX:=ite_f hc hX
  refine TK.skip ?_
  refine hK8 _ _ ?_
  refine TK.seq_k fun K14 hK14=>?_
  refine SR fun K15 hK15=>M rfl rfl (TL.nil (hK15 _ _ ?_))
  refine TK.cond (b:=r7) rfl (fun hc=>?_) (fun hc=>?_)
  ·have hX:=ite_t hc hX
   refine SR fun K16 hK16=>M rfl rfl (TL.nil (hK16 _ _ ?_))
   refine TK.ret ?_
   try dsimp only[thenQ]
   exact R1 rfl hX
  ·have hX:=ite_f hc hX
   refine TK.skip ?_
   refine hK14 _ _ ?_
   refine TK.seq_k fun K17 hK17=>?_
   refine SR fun K18 hK18=>M rfl rfl (M rfl rfl (P1 (p_lss rfl rfl) rfl rfl (TL.nil (hK18 _ _ ?_))))
   refine TK.cond (b:=(decide (x1<y2))) rfl (fun hc=>?_) (fun hc=>?_)
   ·have hX:=ite_t hc hX
    refine SR fun K19 hK19=>M rfl rfl (TL.nil (hK19 _ _ ?_))
    refine TK.ret ?_
    try dsimp only[thenQ]
    exact R1 rfl hX
   ·have hX:=ite_f hc hX
    refine TK.skip ?_
    refine hK17 _ _ ?_
    refine TK.seq_k fun K20 hK20=>?_
    refine SR fun K21 hK21=>M rfl rfl (M rfl rfl (P1 (p_gtr rfl rfl) rfl rfl (TL.nil (hK21 _ _ ?_))))
    refine TK.cond (b:=(decide (x1>y2))) rfl (fun hc=>?_) (fun hc=>?_)
    ·have hX:=ite_t hc hX
     refine SR fun K22 hK22=>M rfl rfl (TL.nil (hK22 _ _ ?_))
     refine TK.ret ?_
     try dsimp only[thenQ]
     exact R1 rfl hX
    ·have hX:=ite_f hc hX
     refine TK.skip ?_
     refine hK20 _ _ (SR fun K23 hK23=>M rfl rfl (TL.nil (hK23 _ _ ?_)))
     refine TK.ret ?_
     try dsimp only[thenQ]
     exact R1 rfl hX
theorem ok_group_Find_c2 (a1:Seal_api) (b2:Seal_api) (r:Int) (hX:X.group_Find_c2 a1 b2=some r):Fun Try.prog 74 [Enc.v (a1:Seal_api),Enc.v (b2:Seal_api)] (·=Enc.v (r:Int)):=by
 refine Fun.of b74 (Nat.le_of_ble_eq_true rfl) (allVal.mem ⟨(by exact (v_val _)),(by exact (v_val _)),trivial⟩) ?_
 unfold k74
 have nd:Nd []:=Nd_nil
 unfold X.group_Find_c2 at hX
 refine SR fun K3 hK3=>?_
 refine TLc.boxV (lu:=[Enc.v a1.Number,Enc.v a1.Index,Enc.v a1.Data,Enc.v a1.Parity,Enc.v a1.Labels]) nd rfl (Cells_v (a1:Seal_api)) rfl ?_
 refine TLc.boxV (lu:=[Enc.v b2.Number,Enc.v b2.Index,Enc.v b2.Data,Enc.v b2.Parity,Enc.v b2.Labels]) nd rfl (Cells_v (b2:Seal_api)) rfl ?_
 refine M rfl rfl (TL.nil (hK3 _ _ (SR fun K4 hK4=>P1 (p_faR fs50_0 Dc rfl) rfl rfl (P1 (p_ldR (v:=Enc.v a1.Number) ty3 rfl rfl rfl rfl rfl rfl) rfl rfl (P1 (p_faR fs50_0 Dc rfl) rfl rfl (P1 (p_ldR (v:=Enc.v b2.Number) ty3 rfl rfl rfl rfl rfl rfl) rfl rfl ?_))))))
 obtain ⟨r5,hr5,hX⟩:=bind_some hX
 refine TL.cvX rfl rfl rfl (fun _=>⟨rfl,⟨rfl,⟨rfl,trivial⟩⟩⟩) (fun e=>ok_cmp_Compare_int a1.Number b2.Number _ hr5) ?_
 refine M rfl rfl (TL.nil (hK4 _ _ ?_))
 refine TK.ret ?_
 try dsimp only[thenQ]
 exact R1 rfl hX
theorem ok_group_Find (l1:(List Tape_api)) (r:(List Seal_api)) (hX:X.group_Find l1=some r):Fun Try.prog 40 [Enc.v (l1:(List Tape_api))] (·=Enc.v (r:(List Seal_api))):=by
 refine Fun.of b40 (Nat.le_of_ble_eq_true rfl) (allVal.mem ⟨(by exact (v_val _)),trivial⟩) ?_
 unfold k40
 have nd:Nd []:=Nd_nil
 unfold X.group_Find at hX
 refine SR fun K2 hK2=>M rfl rfl (TL.nil (hK2 _ _ (SR fun K3 hK3=>M rfl rfl (TL.nil (hK3 _ _ ?_)))))
 refine TK.ownL (α:=Seal_api) 3 50 nd rfl (.inl rfl) fun b4 nd=>?_
 refine TK.seq_k fun K5 hK5=>?_
 refine SR fun K6 hK6=>M rfl rfl (P1 (p_lenL (xs:=l1) kd48 rfl) rfl rfl (M rfl rfl (TL.nil (hK6 _ _ ?_))))
 refine TK.block ?_
 obtain ⟨o7,hO7,hA7⟩:=bind_some hX
 have E7:∀(l12:List Seal_api) (env:Env) (h:Hp),(∃b11,keepE [3] env=[(3,true,OL b11 l12)]∧Nd [(b11,RL (α:=Seal_api) 50 l12)]∧HSub [(b11,RL (α:=Seal_api) 50 l12)] h)→X.group_Find_e7 l12=some r→K5 env h:=by
  intro l12 env h hE hX
  obtain ⟨b11,henv,nd,hs⟩:=hE
  unfold X.group_Find_e7 at hX
  refine hK5 _ _ (TK.keep [3] ?_)
  rw[henv]
  refine TK.subH hs ?_
  refine SR fun K13 hK13=>M rfl rfl ?_
  obtain ⟨r14,hr14,hX⟩:=bind_some hX
  refine TL.tcX [(b11,RL (α:=Seal_api) 50 l12)] [] rfl nd (dlt rfl) rfl ⟨rfl,⟨rfl,⟨rfl,trivial⟩⟩⟩ (ok_slices_SortFunc_Lapi_Seal_api_SealL (fun a1 a2=>X.group_Find_c2 a1 a2) l12 b11 (Nd.take nd 1 rfl) _ hr14 ⟨74,0,ofL [],rfl,(fun i hi=>by cases hi),fun a1 a2 r hr=>ok_group_Find_c2 a1 a2 r hr⟩) ?_
  rintro _ _ hQ nd
  obtain ⟨rfl,rfl⟩:=hQ
  refine TL.cv 3 (OL b11 r14) rfl (Wk_eq (OL_len (by first|exact len_slices_SortFunc_Lapi_Seal_api_SealL hr14|exact (len_slices_SortFunc_Lapi_Seal_api_SealL hr14).symm))) ?_
  refine TL.cv 42 (OL b11 r14) rfl (Wk_eq (OL_len (by first|exact len_slices_SortFunc_Lapi_Seal_api_SealL hr14|exact (len_slices_SortFunc_Lapi_Seal_api_SealL hr14).symm))) ?_
  refine TL.nil (hK13 _ _ (SR fun K15 hK15=>M rfl rfl (M rfl rfl (TL.nil (hK15 _ _ ?_)))))
  refine TK.lay [(2,L r14)] nd (j:=0) rfl ⟨⟨_,rfl,fix_OL nd (j:=0) rfl,rfl⟩,trivial⟩ fun nd=>?_
  refine TK.ret ?_
  try dsimp only[thenQ]
  exact R1 rfl hX
 refine TK.iter [3,8,9,10] (fun s env h=>match s with|(out9,x10)=>∃b8,env=[(3,true,OL b8 out9),(8,true,Enc.v l1),(9,true,Enc.v ((l1.length:Int):Int)),(10,true,Enc.v x10)]∧Nd [(b8,RL (α:=Seal_api) 50 out9)]∧HSub [(b8,RL (α:=Seal_api) 50 out9)] h) hO7 ⟨b4,rfl,(Nd.pick nd (is:=[0]) Dc),(HSub.pick nd (is:=[0]) Dc)⟩ ?_
 rintro ⟨out9,x10⟩ env h x7x ⟨b8,rfl,nd,hs⟩ hX hR7
 refine TK.subH hs ?_
 unfold X.group_Find_s7 at hX
 try dsimp only at hX
 refine SR fun K16 hK16=>P1 (p_lss rfl rfl) rfl rfl (TL.nil (hK16 _ _ ?_))
 refine TK.seq_k fun K17 hK17=>?_
 refine TK.cond (b:=(decide (x10<(l1.length:Int)))) rfl (fun hc=>?_) (fun hc=>?_)
 ·have hX:=ite_t hc hX
  refine TK.skip ?_
  refine hK17 _ _ ?_
  refine TK.seq_k fun K18 hK18=>?_
  refine TK.block ?_
  refine SR fun K19 hK19=>?_
  obtain ⟨e20,he20,hX⟩:=bind_some hX
  refine P1 (p_iaL (xs:=l1) kd48 ty54 rfl rfl rfl (fun _=>he20)) rfl rfl (P1 (p_ldE (xs:=l1) (a:=e20) (e20:Tape_api) ty54 rfl rfl (fun _=>he20) rfl rfl rfl) rfl rfl ?_)
  refine TLc.alO (l:=[Enc.v ((0:Int):Int),Enc.v ((0:Int):Int),.nils,Enc.v false]) nd ty54 ti54_z rfl rfl fun b21 nd=>?_
  refine TLc.stV (lu:=Enc.cl (e20:Tape_api)) nd ty54 rfl (j:=0) rfl rfl rfl (Cells_v (e20:Tape_api)) rfl rfl [Enc.v e20.Label,Enc.v e20.Cap,Enc.v e20.Blocks,Enc.v e20.Lost] rfl fun nd=>?_
  refine TL.nil (hK19 _ _ (SR fun K22 hK22=>P1 (p_ldVa (l':=Enc.cl (e20:Tape_api)) ty54 rfl rfl nd (j:=0) rfl rfl rfl rfl (Nat.le_of_ble_eq_true rfl)) rfl rfl ?_))
  obtain ⟨r23,hr23,hX⟩:=bind_some hX
  refine TL.cvX rfl rfl rfl (fun _=>⟨rfl,⟨rfl,trivial⟩⟩) (fun e=>ok_volume_Sealed e20 _ hr23) ?_
  refine M rfl rfl (P1 (p_ex rfl rfl Dc) rfl rfl (P1 (p_ex rfl rfl Dc) rfl rfl ?_))
  refine TLc.alO (l:=[Enc.v ((0:Int):Int),Enc.v ((0:Int):Int),Enc.v ((0:Int):Int),Enc.v ((0:Int):Int),.nils]) nd ty50 ti50_z rfl rfl fun b24 nd=>?_
  refine TLc.stV (lu:=Enc.cl (r23.1:Seal_api)) nd ty50 rfl (j:=0) rfl rfl rfl (Cells_v (r23.1:Seal_api)) rfl rfl [Enc.v r23.1.Number,Enc.v r23.1.Index,Enc.v r23.1.Data,Enc.v r23.1.Parity,Enc.v r23.1.Labels] rfl fun nd=>?_
  refine M rfl rfl (TL.nil (hK22 _ _ ?_))
  refine TK.seq_k fun K25 hK25=>?_
  refine TK.seq_k fun K26 hK26=>?_
  refine TK.lay [(6,.vref (ofL [Enc.v r23.1.Number,Enc.v r23.1.Index,Enc.v r23.1.Data,Enc.v r23.1.Parity,Enc.v r23.1.Labels]) 5 0)] nd (j:=0) rfl ⟨⟨_,rfl,fix_ref nd (j:=0) rfl,rfl⟩,trivial⟩ fun nd=>?_
  have ndS:Nd [(b21,RV 54 [Enc.v e20.Label,Enc.v e20.Cap,Enc.v e20.Blocks,Enc.v e20.Lost]),(b8,RL (α:=Seal_api) 50 out9)]:=Nd.pick nd (is:=[0,1]) Dc
  refine TK.drwX (h:=[]) (hS:=[(b21,RV 54 [Enc.v e20.Label,Enc.v e20.Cap,Enc.v e20.Blocks,Enc.v e20.Lost]),(b8,RL (α:=Seal_api) 50 out9)]) [(0,0),(0,1),(0,2),(0,3),(0,4),(0,5),(0,6),(0,7),(0,8),(0,9),(0,10),(0,11),(0,12),(0,13),(0,14),(0,15),(0,16),(0,17)] mixed (by kernel_rfl) (HSub_app nd) ?_
  refine DM rfl rfl rfl ?_
  refine D0 rfl (p_not rfl) rfl rfl ?_
  refine DM rfl rfl rfl ?_
  refine DR0 (gc:=(!((!r23.2)))) rfl (vok_p (C:=cx) (p_faR fs50_4 Dc rfl (hg:=fun e=>rfl))) (gcF1 rfl) rfl ?_
  refine DR0 (gc:=(!((!r23.2)))) rfl (vok_p (C:=cx) (p_ldR (v:=Enc.v r23.1.Labels) ty47 rfl rfl rfl rfl rfl rfl (hg:=fun e=>e))) (gcF1 rfl) rfl ?_
  refine DR0 (gc:=(!((!r23.2)))) rfl (vok_p (C:=cx) (p_faR fs50_1 Dc rfl (hg:=fun e=>rfl))) (gcF1 rfl) rfl ?_
  refine DR0 (gc:=(!((!r23.2)))) rfl (vok_p (C:=cx) (p_ldR (v:=Enc.v r23.1.Index) ty3 rfl rfl rfl rfl rfl rfl (hg:=fun e=>e))) (gcF1 rfl) rfl ?_
  obtain ⟨e27,he27,hX⟩:=bind_some hX
  refine DR0 (gc:=(!((!r23.2)))) rfl (vok_p (C:=cx) (p_iaL (xs:=r23.1.Labels) kd47 ty3 rfl rfl rfl (fun e=>optG_t he27 e) (hg:=fun e=>⟨e,e⟩))) (gcF1 rfl) rfl ?_
  refine DR0 (gc:=(!((!r23.2)))) rfl (vok_p (C:=cx) (p_ldE (xs:=r23.1.Labels) (a:=e27) (e27:Int) ty3 rfl rfl (fun e=>optG_t he27 e) rfl rfl rfl (hg:=fun e=>e))) (gcF1 rfl) rfl ?_
  refine DR0 (gc:=(!((!r23.2)))) rfl (vok_p (C:=cx) (p_faV fs54_0 Dc rfl ndS (j:=0) rfl rfl (hg:=fun e=>rfl))) (gcF1 rfl) rfl ?_
  refine DR0 (gc:=(!((!r23.2)))) rfl (vok_p (C:=cx) (p_ldV (v:=Enc.v e20.Label) ty3 rfl rfl ndS (j:=0) rfl rfl rfl rfl rfl (hg:=fun e=>e))) (gcF1 rfl) rfl ?_
  refine DR0 (gc:=(!((!r23.2)))) rfl (vok_p (C:=cx) (p_neq rfl rfl (hg:=fun e=>⟨e,e⟩))) (gcF1 rfl) rfl ?_
  refine D0 rfl (p_or rfl rfl (fun e=>⟨rfl,fun h=>(not_t h)⟩)) rfl rfl ?_
  refine DM rfl rfl rfl ?_
  refine DR0 (gc:=(!(((!r23.2)||(e27 !=e20.Label))))) rfl (vok_p (C:=cx) (p_mv rfl (hg:=fun e=>rfl))) (gcF1 rfl) rfl ?_
  refine DR0 (gc:=(!(((!r23.2)||(e27 !=e20.Label))))) rfl (vok_p (C:=cx) (p_mf (l:=[.vref (ofL [Enc.v r23.1.Number,Enc.v r23.1.Index,Enc.v r23.1.Data,Enc.v r23.1.Parity,Enc.v r23.1.Labels]) 5 0]) rfl (fun _=>⟨rfl,trivial⟩))) (gcF1 rfl) rfl ?_
  obtain ⟨r28,hr28,hX⟩:=bind_some hX
  refine DR0 (gc:=(!(((!r23.2)||(e27 !=e20.Label))))) rfl (vok_lookX [L out9,.fn 72 1 (ofL [.vref (ofL [Enc.v r23.1.Number,Enc.v r23.1.Index,Enc.v r23.1.Data,Enc.v r23.1.Parity,Enc.v r23.1.Labels]) 5 0])] rfl (fun e=>⟨rfl,⟨e,⟨e,trivial⟩⟩⟩) ⟨look_OL ndS (j:=1) rfl,look_v (caps_val rfl ⟨(vref_val (l:=[Enc.v r23.1.Number,Enc.v r23.1.Index,Enc.v r23.1.Data,Enc.v r23.1.Parity,Enc.v r23.1.Labels]) rfl ⟨(v_val _),(v_val _),(v_val _),(v_val _),(v_val _),trivial⟩),trivial⟩),trivial⟩ (fun e=>ok_slices_ContainsFunc_Lapi_Seal_api_Seal out9 (fun a1=>X.group_Find_c1 a1 r23.1.Number r23.1.Index r23.1.Data r23.1.Parity r23.1.Labels) _ (optG_t hr28 e) ⟨72,1,ofL [.vref (ofL [Enc.v r23.1.Number,Enc.v r23.1.Index,Enc.v r23.1.Data,Enc.v r23.1.Parity,Enc.v r23.1.Labels]) 5 0],rfl,(caps_val rfl ⟨(vref_val (l:=[Enc.v r23.1.Number,Enc.v r23.1.Index,Enc.v r23.1.Data,Enc.v r23.1.Parity,Enc.v r23.1.Labels]) rfl ⟨(v_val _),(v_val _),(v_val _),(v_val _),(v_val _),trivial⟩),trivial⟩),fun a1 r hr=>ok_group_Find_c1 a1 r23.1.Number r23.1.Index r23.1.Data r23.1.Parity r23.1.Labels r hr⟩) (trivial)) (gcF1 rfl) rfl ?_
  refine D0 rfl (p_or rfl rfl (fun e=>⟨rfl,fun h=>(not_t h)⟩)) rfl rfl ?_
  refine DRend ?_
  refine hK26 _ _ ?_
  refine TK.cond (b:=(((!r23.2)||(e27 !=e20.Label))||r28)) rfl (fun hc=>?_) (fun hc=>?_)
  ·have hX:=ite_t hc hX
   refine TK.exit ?_
   refine hK18 _ _ ?_
   refine TK.reg ?_
   refine P1 (p_add rfl rfl) rfl rfl (M rfl rfl (TL.nil ?_))
   exact ⟨_,(some_in hX).symm,b8,rfl,(Nd.pick nd (is:=[1]) Dc),(HSub.pick nd (is:=[1]) Dc)⟩
  ·have hX:=ite_f hc hX
   refine TK.skip ?_
   refine hK25 _ _ ?_
   refine TK.reg ?_
   refine M rfl rfl (P1 (p_ldRa (l':=Enc.cl (r23.1:Seal_api)) ty50 rfl rfl rfl rfl rfl (Nat.le_of_ble_eq_true rfl)) rfl rfl ?_)
   refine TLc.lit ([r23.1]:List Seal_api) kd71 ty50 rfl ⟨⟨rfl,rfl⟩,trivial⟩ rfl rfl rfl ?_
   obtain ⟨u29,hu29,hX⟩:=bind_some hX
   refine TLc.appO nd kd71 bo71 ty50 rfl rfl (j:=1) rfl rfl (Src_L _) Dc (need_t hu29) rfl fun nd=>?_
   refine M rfl rfl (TL.nil (hK18 _ _ ?_))
   refine TK.reg ?_
   refine P1 (p_add rfl rfl) rfl rfl (M rfl rfl (TL.nil ?_))
   exact ⟨_,(some_in hX).symm,b8,rfl,(Nd.pick nd (is:=[1]) Dc),(HSub.pick nd (is:=[1]) Dc)⟩
 ·have hX:=ite_f hc hX
  refine TK.exit ?_
  obtain rfl:=hR7 _ (some_in hX).symm
  exact E7 out9 _ _ ⟨b8,rfl,(Nd.pick nd (is:=[0]) Dc),(HSub.pick nd (is:=[0]) Dc)⟩ hA7
theorem ok_cartridgelaw14_num (e1:Int) (r:Int) (hX:X.cartridgelaw14_num e1=some r):Fun Try.prog 39 [Enc.v (e1:Int)] (·=Enc.v (r:Int)):=by
 refine Fun.of b39 (Nat.le_of_ble_eq_true rfl) (allVal.mem ⟨(by exact (v_val _)),trivial⟩) ?_
 unfold k39
 have nd:Nd []:=Nd_nil
 unfold X.cartridgelaw14_num at hX
 refine SR fun K2 hK2=>M rfl rfl (TL.nil (hK2 _ _ (SR fun K3 hK3=>M rfl rfl (M rfl rfl (TL.nil (hK3 _ _ ?_))))))
 refine TK.ret ?_
 try dsimp only[thenQ]
 exact R1 rfl hX
theorem ok_cartridgelaw14_alive (r:Bool) (hX:X.cartridgelaw14_alive=some r):Fun Try.prog 36 [] (·=Enc.v (r:Bool)):=by
 refine Fun.of b36 (Nat.le_of_ble_eq_true rfl) (fun x hx=>by cases hx) ?_
 unfold k36
 have nd:Nd []:=Nd_nil
 unfold X.cartridgelaw14_alive at hX
 refine SR fun K1 hK1=>M rfl rfl (TL.nil (hK1 _ _ (SR fun K2 hK2=>?_)))
 refine TLc.litO nd ([(68:UInt8)]:List UInt8) kd25 ty5 rfl ⟨⟨rfl,rfl⟩,trivial⟩ rfl rfl rfl fun b3 nd=>?_
 refine TLc.cvtF (xs:=([(68:UInt8)]:List UInt8)) nd kd25 kd5 rfl (j:=0) rfl (by simp) rfl fun nd=>?_
 refine P1 (p_bld (l:=Enc.cl ((Unit_api.mk (1:Int) (1:Int) (0:Int) ([(68:UInt8)]:List UInt8)):Unit_api)) ty68 rfl all68 rfl (fun _=>⟨⟨rfl,trivial,rfl⟩,⟨rfl,trivial,rfl⟩,⟨rfl,trivial,rfl⟩,trivial⟩)) rfl rfl ?_
 obtain ⟨r4,hr4,hX⟩:=bind_some hX
 refine TL.cvX rfl rfl rfl (fun _=>⟨rfl,⟨rfl,trivial⟩⟩) (fun e=>ok_cartridgeref1_PutFrame (Unit_api.mk (1:Int) (1:Int) (0:Int) ([(68:UInt8)]:List UInt8)) _ hr4) ?_
 refine M rfl rfl (P1 (p_ex rfl rfl Dc) rfl rfl (P1 (p_ex rfl rfl Dc) rfl rfl (M rfl rfl (M rfl rfl (TL.nil (hK2 _ _ (SR fun K5 hK5=>M rfl rfl ?_)))))))
 refine TLc.lit ([r4.1]:List (List UInt8)) kd22 ty25 rfl ⟨⟨rfl,rfl⟩,trivial⟩ rfl rfl rfl ?_
 refine P1 (p_bld (l:=Enc.cl ((Tape_api.mk (1:Int) (4:Int) ([r4.1]:List (List UInt8)) false):Tape_api)) ty54 rfl all54 rfl (fun _=>⟨⟨rfl,trivial,rfl⟩,⟨rfl,trivial,rfl⟩,⟨rfl,trivial,rfl⟩,trivial⟩)) rfl rfl ?_
 refine TLc.lit ([(Tape_api.mk (1:Int) (4:Int) ([r4.1]:List (List UInt8)) false)]:List Tape_api) kd48 ty54 rfl ⟨⟨rfl,rfl⟩,trivial⟩ rfl rfl rfl ?_
 refine TLc.p (gc:=true) (p_bld (l:=[Enc.v ((2:Int):Int),Enc.v ((4:Int):Int),.nils,Enc.v false]) ty54 rfl all54 rfl (fun _=>⟨⟨rfl,trivial,rfl⟩,⟨rfl,trivial,rfl⟩,trivial⟩)) rfl rfl (TL.wk (v':=Enc.v ((Tape_api.mk (2:Int) (4:Int) ([]:(List (List UInt8))) false):Tape_api)) (Wk_agg ⟨Wk.refl _,Wk.refl _,Wk_nil,Wk.refl _,trivial⟩) ?_)
 refine TLc.lit ([(Tape_api.mk (2:Int) (4:Int) ([]:(List (List UInt8))) false)]:List Tape_api) kd48 ty54 rfl ⟨⟨rfl,rfl⟩,trivial⟩ rfl rfl rfl ?_
 obtain ⟨r6,hr6,hX⟩:=bind_some hX
 refine TL.cvX rfl rfl rfl (fun _=>⟨rfl,⟨rfl,⟨rfl,⟨rfl,trivial⟩⟩⟩⟩) (fun e=>ok_group_Make ([(Tape_api.mk (1:Int) (4:Int) ([r4.1]:List (List UInt8)) false)]:List Tape_api) ([(Tape_api.mk (2:Int) (4:Int) ([]:(List (List UInt8))) false)]:List Tape_api) (1:Int) _ hr6) ?_
 refine M rfl rfl (P1 (p_ex rfl rfl Dc) rfl rfl (P1 (p_ex rfl rfl Dc) rfl rfl (M rfl rfl (M rfl rfl (TL.nil (hK5 _ _ (SR fun K7 hK7=>?_)))))))
 obtain ⟨r8,hr8,hX⟩:=bind_some hX
 refine TL.cvX rfl rfl rfl (fun _=>⟨rfl,⟨rfl,trivial⟩⟩) (fun e=>(Fun.wk (args':=[L ([]:List Tape_api)]) ⟨Wk_nil,trivial⟩ (ok_group_Find ([]:List Tape_api) _ hr8))) ?_
 refine P1 (p_lenL (xs:=r8) kd71 rfl) rfl rfl (P1 (p_eql rfl rfl) rfl rfl (M rfl rfl ?_))
 refine TLc.p (gc:=(((r8.length:Int)==(0:Int)))) (p_mv rfl (hg:=fun e=>rfl)) (gcT1 rfl) rfl ?_
 obtain ⟨r9,hr9,hX⟩:=bind_some hX
 refine TL.cvX (gcT1 rfl) rfl rfl (fun e=>⟨rfl,⟨e,trivial⟩⟩) (fun e=>ok_cartridgelaw14_num r6.2 _ (optG_t hr9 e)) ?_
 refine TLc.p (gc:=(((r8.length:Int)==(0:Int)))) (p_eql rfl rfl (hg:=fun e=>⟨e,rfl⟩)) (gcT1 rfl) rfl ?_
 refine P1 (p_and rfl rfl (fun e=>⟨rfl,fun h=>h⟩)) rfl rfl (M rfl rfl ?_)
 refine TLc.p (gc:=((((r8.length:Int)==(0:Int))&&(r9==(0:Int))))) (p_mv rfl (hg:=fun e=>rfl)) (gcT1 rfl) rfl ?_
 refine TLc.p (gc:=((((r8.length:Int)==(0:Int))&&(r9==(0:Int))))) (p_lenL (xs:=r6.1) kd48 rfl (hg:=fun e=>e)) (gcT1 rfl) rfl ?_
 refine TLc.p (gc:=((((r8.length:Int)==(0:Int))&&(r9==(0:Int))))) (p_eql rfl rfl (hg:=fun e=>⟨e,rfl⟩)) (gcT1 rfl) rfl ?_
 refine P1 (p_and rfl rfl (fun e=>⟨rfl,fun h=>h⟩)) rfl rfl (M rfl rfl ?_)
 refine TLc.p (gc:=(((((r8.length:Int)==(0:Int))&&(r9==(0:Int)))&&((r6.1.length:Int)==(1:Int))))) (p_mv rfl (hg:=fun e=>rfl)) (gcT1 rfl) rfl ?_
 obtain ⟨e10,he10,hX⟩:=bind_some hX
 refine TLc.p (gc:=(((((r8.length:Int)==(0:Int))&&(r9==(0:Int)))&&((r6.1.length:Int)==(1:Int))))) (p_iaL (xs:=r6.1) kd48 ty54 rfl rfl rfl (fun e=>optG_t he10 e) (hg:=fun e=>⟨e,rfl⟩)) (gcT1 rfl) rfl ?_
 refine TLc.p (gc:=(((((r8.length:Int)==(0:Int))&&(r9==(0:Int)))&&((r6.1.length:Int)==(1:Int))))) (p_faE fs54_2 Dc rfl (hg:=fun e=>e)) (gcT1 rfl) rfl ?_
 refine TLc.p (gc:=(((((r8.length:Int)==(0:Int))&&(r9==(0:Int)))&&((r6.1.length:Int)==(1:Int))))) (p_ldE (xs:=r6.1) (a:=e10) (e10.Blocks:(List (List UInt8))) ty22 rfl rfl (fun e=>optG_t he10 e) rfl rfl rfl (hg:=fun e=>e)) (gcT1 rfl) rfl ?_
 refine TLc.p (gc:=(((((r8.length:Int)==(0:Int))&&(r9==(0:Int)))&&((r6.1.length:Int)==(1:Int))))) (p_lenL (xs:=e10.Blocks) kd22 rfl (hg:=fun e=>e)) (gcT1 rfl) rfl ?_
 refine TLc.p (gc:=(((((r8.length:Int)==(0:Int))&&(r9==(0:Int)))&&((r6.1.length:Int)==(1:Int))))) (p_eql rfl rfl (hg:=fun e=>⟨e,rfl⟩)) (gcT1 rfl) rfl ?_
 refine P1 (p_and rfl rfl (fun e=>⟨rfl,fun h=>h⟩)) rfl rfl (M rfl rfl ?_)
 refine TLc.p (gc:=((((((r8.length:Int)==(0:Int))&&(r9==(0:Int)))&&((r6.1.length:Int)==(1:Int)))&&((e10.Blocks.length:Int)==(3:Int))))) (p_mv rfl (hg:=fun e=>rfl)) (gcT1 rfl) rfl ?_
 obtain ⟨r11,hr11,hX⟩:=bind_some hX
 refine TL.cvX (gcT1 rfl) rfl rfl (fun e=>⟨rfl,⟨e,trivial⟩⟩) (fun e=>ok_group_Find r6.1 _ (optG_t hr11 e)) ?_
 refine TLc.p (gc:=((((((r8.length:Int)==(0:Int))&&(r9==(0:Int)))&&((r6.1.length:Int)==(1:Int)))&&((e10.Blocks.length:Int)==(3:Int))))) (p_lenL (xs:=r11) kd71 rfl (hg:=fun e=>e)) (gcT1 rfl) rfl ?_
 refine TLc.p (gc:=((((((r8.length:Int)==(0:Int))&&(r9==(0:Int)))&&((r6.1.length:Int)==(1:Int)))&&((e10.Blocks.length:Int)==(3:Int))))) (p_eql rfl rfl (hg:=fun e=>⟨e,rfl⟩)) (gcT1 rfl) rfl ?_
 refine P1 (p_and rfl rfl (fun e=>⟨rfl,fun h=>h⟩)) rfl rfl (M rfl rfl (TL.nil (hK7 _ _ ?_)))
 refine TK.ret ?_
 try dsimp only[thenQ]
 exact R1 rfl hX
theorem ok_frame_made_or (u1:Unit_api) (nd:Nd []) (r:(List UInt8)) (hX:X.frame_made_or u1=some r):TCX Try.prog 155 [Enc.v (u1:Unit_api)] [] (fun rv h'=>∃b46,rv=OL (α:=UInt8) b46 r∧h'=[(b46,RL (α:=UInt8) 5 r)]):=by
 refine TCX.of b155 (Nat.le_of_ble_eq_true rfl) ?_
 unfold k155
 unfold X.frame_made_or at hX
 refine SR fun K2 hK2=>?_
 refine TLc.boxV (lu:=[Enc.v u1.Kind,Enc.v u1.Label,Enc.v u1.Number,Enc.v u1.Load]) nd rfl (Cells_v (u1:Unit_api)) rfl ?_
 refine M rfl rfl (TL.nil (hK2 _ _ (SR fun K3 hK3=>P1 (p_bld (l:=[.nils]) ty186 rfl all186 rfl (fun _=>trivial)) rfl rfl ?_)))
 refine TLc.boxO (lu:=[.nils]) nd rfl (Cells_agg rfl (allA.mem ⟨trivial,trivial⟩)) rfl fun b4 nd=>?_
 refine M rfl rfl (TL.nil (hK3 _ _ ?_))
 refine TK.ownC (α:=UInt8) nd (j:=0) rfl 0 5 (.inl rfl) fun b5 nd=>?_
 refine SR fun K6 hK6=>M rfl rfl (P1 (p_faR fs68_0 Dc rfl) rfl rfl (P1 (p_ldR (v:=Enc.v u1.Kind) ty3 rfl rfl rfl rfl rfl rfl) rfl rfl (P1 (p_cvt src3 kd5 rfl (cv_u8 _)) rfl rfl ?_)))
 obtain ⟨r7,hr7,hX⟩:=bind_some hX
 refine TL.pick [1,0] nd Dc fun nd=>?_
 refine TL.tcX [(b4,RV 186 [OL (α:=UInt8) b5 ([]:List UInt8)]),(b5,RL (α:=UInt8) 5 ([]:List UInt8))] [] rfl nd (dlt rfl) rfl ⟨rfl,⟨rfl,⟨rfl,trivial⟩⟩⟩ (ok_code_Writer_Byte (u8 u1.Kind) ([]:List UInt8) b4 b5 (Nd.take nd 2 rfl) _ hr7) ?_
 rintro _ _ hQ nd
 obtain ⟨b9,rfl,rfl⟩:=hQ
 refine TL.nil (hK6 _ _ (SR fun K10 hK10=>M rfl rfl (P1 (p_faR fs68_1 Dc rfl) rfl rfl (P1 (p_ldR (v:=Enc.v u1.Label) ty3 rfl rfl rfl rfl rfl rfl) rfl rfl ?_))))
 obtain ⟨r11,hr11,hX⟩:=bind_some hX
 refine TL.tcX [(b4,RV 186 [OL b9 r7]),(b9,RL (α:=UInt8) 5 r7)] [] rfl nd (dlt rfl) rfl ⟨rfl,⟨rfl,⟨rfl,trivial⟩⟩⟩ (ok_code_Writer_Int u1.Label r7 b4 b9 (Nd.take nd 2 rfl) _ hr11) ?_
 rintro _ _ hQ nd
 obtain ⟨b13,rfl,rfl⟩:=hQ
 refine TL.nil (hK10 _ _ (SR fun K14 hK14=>M rfl rfl (P1 (p_faR fs68_2 Dc rfl) rfl rfl (P1 (p_ldR (v:=Enc.v u1.Number) ty3 rfl rfl rfl rfl rfl rfl) rfl rfl ?_))))
 obtain ⟨r15,hr15,hX⟩:=bind_some hX
 refine TL.tcX [(b4,RV 186 [OL b13 r11]),(b13,RL (α:=UInt8) 5 r11)] [] rfl nd (dlt rfl) rfl ⟨rfl,⟨rfl,⟨rfl,trivial⟩⟩⟩ (ok_code_Writer_Int u1.Number r11 b4 b13 (Nd.take nd 2 rfl) _ hr15) ?_
 rintro _ _ hQ nd
 obtain ⟨b17,rfl,rfl⟩:=hQ
 refine TL.nil (hK14 _ _ (SR fun K18 hK18=>M rfl rfl (P1 (p_faR fs68_3 Dc rfl) rfl rfl (P1 (p_ldR (v:=Enc.v u1.Load) ty25 rfl rfl rfl rfl rfl rfl) rfl rfl (P1 (p_lenL (xs:=u1.Load) kd25 rfl) rfl rfl (P1 (p_shr rfl rfl (fun _=>by omega)) rfl rfl (P1 (p_cvt src3 kd5 rfl (cv_u8 _)) rfl rfl ?_)))))))
 obtain ⟨r19,hr19,hX⟩:=bind_some hX
 refine TL.tcX [(b4,RV 186 [OL b17 r15]),(b17,RL (α:=UInt8) 5 r15)] [] rfl nd (dlt rfl) rfl ⟨rfl,⟨rfl,⟨rfl,trivial⟩⟩⟩ (ok_code_Writer_Byte (u8 (shr64 (u1.Load.length:Int) ((8:UInt64).toNat:Int))) r15 b4 b17 (Nd.take nd 2 rfl) _ hr19) ?_
 rintro _ _ hQ nd
 obtain ⟨b21,rfl,rfl⟩:=hQ
 refine TL.nil (hK18 _ _ (SR fun K22 hK22=>M rfl rfl (P1 (p_faR fs68_3 Dc rfl) rfl rfl (P1 (p_ldR (v:=Enc.v u1.Load) ty25 rfl rfl rfl rfl rfl rfl) rfl rfl (P1 (p_lenL (xs:=u1.Load) kd25 rfl) rfl rfl (P1 (p_cvt src3 kd5 rfl (cv_u8 _)) rfl rfl ?_))))))
 obtain ⟨r23,hr23,hX⟩:=bind_some hX
 refine TL.tcX [(b4,RV 186 [OL b21 r19]),(b21,RL (α:=UInt8) 5 r19)] [] rfl nd (dlt rfl) rfl ⟨rfl,⟨rfl,⟨rfl,trivial⟩⟩⟩ (ok_code_Writer_Byte (u8 (u1.Load.length:Int)) r19 b4 b21 (Nd.take nd 2 rfl) _ hr23) ?_
 rintro _ _ hQ nd
 obtain ⟨b25,rfl,rfl⟩:=hQ
 refine TL.nil (hK22 _ _ (SR fun K26 hK26=>P1 (p_faR fs68_0 Dc rfl) rfl rfl (P1 (p_ldR (v:=Enc.v u1.Kind) ty3 rfl rfl rfl rfl rfl rfl) rfl rfl ?_)))
 obtain ⟨r27,hr27,hX⟩:=bind_some hX
 refine TL.cvX rfl rfl rfl (fun _=>⟨rfl,⟨rfl,trivial⟩⟩) (fun e=>ok_frame_room u1.Kind _ hr27) ?_
 obtain ⟨u28,hu28,hX⟩:=bind_some hX
 refine TLc.mkO nd (0:UInt8) kd25 ty5 rfl (fun j hj=>by (have:j=0:=by simpa[Enc.sz] using hj);subst this;rfl) rfl rfl Dc (need_t hu28) rfl fun b29 nd=>?_
 refine M rfl rfl (TL.nil (hK26 _ _ (SR fun K30 hK30=>M rfl rfl (P1 (p_faR fs68_3 Dc rfl) rfl rfl (P1 (p_ldR (v:=Enc.v u1.Load) ty25 rfl rfl rfl rfl rfl rfl) rfl rfl ?_)))))
 refine TLc.copyO (xs:=(List.replicate r27.toNat (0:UInt8))) (ys:=u1.Load) nd kd25 ty5 rfl rfl (j:=0) rfl rfl (Src_L _) rfl fun nd=>?_
 refine TL.cv 4 (OL b29 (cpy (List.replicate r27.toNat (0:UInt8)) u1.Load)) rfl (Wk_eq (OL_len (cpy_len))) ?_
 refine TL.nil (hK30 _ _ (SR fun K31 hK31=>M rfl rfl ?_))
 obtain ⟨r32,hr32,hX⟩:=bind_some hX
 refine TL.pick [1,2,0] nd Dc fun nd=>?_
 refine TL.tcX [(b4,RV 186 [OL b25 r23]),(b25,RL (α:=UInt8) 5 r23)] [(b29,RL (α:=UInt8) 5 (cpy (List.replicate r27.toNat (0:UInt8)) u1.Load))] rfl nd (dlt rfl) rfl ⟨rfl,⟨rfl,trivial⟩⟩ (ok_code_Writer_Bytes_or r23 b4 b25 (Nd.take nd 2 rfl) _ hr32) ?_
 rintro _ _ hQ nd
 obtain ⟨b33,rfl,rfl⟩:=hQ
 refine M rfl rfl ?_
 obtain ⟨u34,hu34,hX⟩:=bind_some hX
 refine TLc.appO nd kd25 bo25 ty5 rfl rfl (j:=2) rfl rfl (Src_OL nd (j:=3) rfl) Dc (need_t hu34) rfl fun nd=>?_
 refine M rfl rfl (TL.nil (hK31 _ _ (SR fun K35 hK35=>P1 (p_bld (l:=[.nils]) ty186 rfl all186 rfl (fun _=>trivial)) rfl rfl ?_)))
 refine TLc.boxO (lu:=[.nils]) nd rfl (Cells_agg rfl (allA.mem ⟨trivial,trivial⟩)) rfl fun b36 nd=>?_
 refine M rfl rfl (TL.nil (hK35 _ _ ?_))
 refine TK.ownC (α:=UInt8) nd (j:=0) rfl 0 5 (.inl rfl) fun b37 nd=>?_
 refine SR fun K38 hK38=>M rfl rfl (M rfl rfl ?_)
 obtain ⟨r39,hr39,hX⟩:=bind_some hX
 refine TL.lookX [L (r32++(cpy (List.replicate r27.toNat (0:UInt8)) u1.Load))] rfl rfl rfl (fun _=>⟨rfl,⟨rfl,trivial⟩⟩) ⟨look_OL nd (j:=4) rfl,trivial⟩ (fun e=>ok_castagnoli_Sum (r32++(cpy (List.replicate r27.toNat (0:UInt8)) u1.Load)) _ hr39) (trivial) ?_
 refine P1 (p_cvt src106 kd3 rfl (cv_32 r39)) rfl rfl ?_
 obtain ⟨r40,hr40,hX⟩:=bind_some hX
 refine TL.pick [1,0,2,3,4,5] nd Dc fun nd=>?_
 refine TL.tcX [(b36,RV 186 [OL (α:=UInt8) b37 ([]:List UInt8)]),(b37,RL (α:=UInt8) 5 ([]:List UInt8))] [(b4,RV 186 [OL b25 r23]),(b25,RL (α:=UInt8) 5 r23),(b33,RL (α:=UInt8) 5 (r32++(cpy (List.replicate r27.toNat (0:UInt8)) u1.Load))),(b29,RL (α:=UInt8) 5 (cpy (List.replicate r27.toNat (0:UInt8)) u1.Load))] rfl nd (dlt rfl) rfl ⟨rfl,⟨rfl,⟨rfl,trivial⟩⟩⟩ (ok_code_Writer_Int (r39.toNat:Int) ([]:List UInt8) b36 b37 (Nd.take nd 2 rfl) _ hr40) ?_
 rintro _ _ hQ nd
 obtain ⟨b42,rfl,rfl⟩:=hQ
 refine TL.nil (hK38 _ _ (SR fun K43 hK43=>M rfl rfl (M rfl rfl ?_)))
 obtain ⟨r44,hr44,hX⟩:=bind_some hX
 refine TL.tcX [(b36,RV 186 [OL b42 r40]),(b42,RL (α:=UInt8) 5 r40)] [(b4,RV 186 [OL b25 r23]),(b25,RL (α:=UInt8) 5 r23),(b33,RL (α:=UInt8) 5 (r32++(cpy (List.replicate r27.toNat (0:UInt8)) u1.Load))),(b29,RL (α:=UInt8) 5 (cpy (List.replicate r27.toNat (0:UInt8)) u1.Load))] rfl nd (dlt rfl) rfl ⟨rfl,⟨rfl,trivial⟩⟩ (ok_code_Writer_Bytes r40 b36 b42 (Nd.take nd 2 rfl) _ hr44) ?_
 rintro _ _ hQ nd
 obtain ⟨rfl,rfl⟩:=hQ
 obtain ⟨u45,hu45,hX⟩:=bind_some hX
 refine TLc.appO nd kd25 bo25 ty5 rfl rfl (j:=4) rfl rfl (Src_L _) Dc (need_t hu45) rfl fun nd=>?_
 refine M rfl rfl (TL.nil (hK43 _ _ ?_))
 refine TK.pick [4] nd Dc fun nd=>?_
 refine TK.ret ?_
 try dsimp only[thenQ]
 exact retX (v:=OL (α:=UInt8) b33 ((r32++(cpy (List.replicate r27.toNat (0:UInt8)) u1.Load))++r44)) (res1 rfl) (by obtain rfl:=some_in hX;exact ⟨b33,rfl,rfl⟩) nd (inH_rs nd (j:=0) rfl) ⟨rowIn_RL,trivial⟩
theorem ok_frame_Put_or (u1:Unit_api) (nd:Nd []) (r:((List UInt8)×Int)) (hX:X.frame_Put_or u1=some r):TCX Try.prog 114 [Enc.v (u1:Unit_api)] [] (fun rv h'=>∃b12,rv= .tup 2 (ofL [OL (α:=UInt8) b12 r.1,Enc.v (r.2:Int)])∧h'=[(b12,RL (α:=UInt8) 5 r.1)]):=by
 refine TCX.of b114 (Nat.le_of_ble_eq_true rfl) ?_
 unfold k114
 unfold X.frame_Put_or at hX
 refine SR fun K2 hK2=>?_
 refine TLc.boxV (lu:=[Enc.v u1.Kind,Enc.v u1.Label,Enc.v u1.Number,Enc.v u1.Load]) nd rfl (Cells_v (u1:Unit_api)) rfl ?_
 refine M rfl rfl (M rfl rfl (TL.nil (hK2 _ _ ?_)))
 refine TK.seq_k fun K3 hK3=>?_
 refine SR fun K4 hK4=>P1 (p_ldRa (l':=Enc.cl (u1:Unit_api)) ty68 rfl rfl rfl rfl rfl (Nat.le_of_ble_eq_true rfl)) rfl rfl ?_
 obtain ⟨r5,hr5,hX⟩:=bind_some hX
 refine TL.cvX rfl rfl rfl (fun _=>⟨rfl,⟨rfl,trivial⟩⟩) (fun e=>ok_frame_check u1 _ hr5) ?_
 refine M rfl rfl (TL.nil (hK4 _ _ (SR fun K6 hK6=>M rfl rfl (P1 (p_neq rfl rfl) rfl rfl (TL.nil (hK6 _ _ ?_))))))
 refine TK.cond (b:=(r5 !=(0:Int))) rfl (fun hc=>?_) (fun hc=>?_)
 ·have hX:=ite_t hc hX
  refine SR fun K7 hK7=>M rfl rfl (M rfl rfl (M rfl rfl (TL.nil (hK7 _ _ ?_))))
  refine TK.ownL (α:=UInt8) 2 5 nd rfl (.inl rfl) fun b8 nd=>?_
  refine TK.ret ?_
  try dsimp only[thenQ]
  exact retX (v:= .tup 2 (ofL [OL (α:=UInt8) b8 ([]:List UInt8),Enc.v r5])) (resN (vs:=[OL (α:=UInt8) b8 ([]:List UInt8),Enc.v r5]) ⟨rfl,rfl,trivial⟩) (by obtain rfl:=some_in hX;exact ⟨b8,rfl,rfl⟩) nd (inH_tup (l:=[OL (α:=UInt8) b8 ([]:List UInt8),Enc.v r5]) ⟨inH_rs nd (j:=0) rfl,inH_val (v_val _),trivial⟩) ⟨rowIn_RL,trivial⟩
 ·have hX:=ite_f hc hX
  refine TK.skip ?_
  refine hK3 _ _ (SR fun K9 hK9=>P1 (p_ldRa (l':=Enc.cl (u1:Unit_api)) ty68 rfl rfl rfl rfl rfl (Nat.le_of_ble_eq_true rfl)) rfl rfl ?_)
  obtain ⟨r10,hr10,hX⟩:=bind_some hX
  refine TL.tcX [] [] rfl nd (dlt rfl) rfl ⟨rfl,⟨rfl,trivial⟩⟩ (ok_frame_made_or u1 (Nd.take nd 0 rfl) _ hr10) ?_
  rintro _ _ hQ nd
  obtain ⟨b11,rfl,rfl⟩:=hQ
  refine M rfl rfl (M rfl rfl (TL.nil (hK9 _ _ ?_)))
  refine TK.ret ?_
  try dsimp only[thenQ]
  exact retX (v:= .tup 2 (ofL [OL b11 r10,Enc.v ((0:Int):Int)])) (resN (vs:=[OL b11 r10,Enc.v ((0:Int):Int)]) ⟨rfl,rfl,trivial⟩) (by obtain rfl:=some_in hX;exact ⟨b11,rfl,rfl⟩) nd (inH_tup (l:=[OL b11 r10,Enc.v ((0:Int):Int)]) ⟨inH_rs nd (j:=0) rfl,inH_val (v_val _),trivial⟩) ⟨rowIn_RL,trivial⟩
theorem bc_group_tape_os:BodyC cx 69 72 [.c 6 54,.t 7] k69:=⟨Enters.of Try.func69 (by kernel_rfl) (by kernel_rfl),_,_,Try.func69,rfl,by kernel_rfl,rfl,rfl⟩
theorem ok_group_tape_os (t1:Tape_api) (s2:Seal_api) (rows3:(List (List UInt8))) (nd:Nd []) (r:(Tape_api×Int)) (hX:X.group_tape_os t1 s2 rows3=some r):TCX Try.prog 69 [Enc.v (t1:Tape_api),Enc.v (s2:Seal_api),Enc.v (rows3:(List (List UInt8)))] [] (fun rv h'=>∃b72,rv= .tup 2 (ofL [.agg 4 (ofL [Enc.v (r.1.Label:Int),Enc.v (r.1.Cap:Int),OL (α:=(List UInt8)) b72 r.1.Blocks,Enc.v (r.1.Lost:Bool)]),Enc.v (r.2:Int)])∧h'=[(b72,RD (β:=UInt8) 25 5 b72 r.1.Blocks)]):=by
 refine TCX.ofD (C:=cx) bc_group_tape_os (Nat.le_of_ble_eq_true rfl) ?_
 unfold k69
 unfold X.group_tape_os at hX
 refine SR fun K4 hK4=>?_
 refine TLc.boxV (lu:=[Enc.v t1.Label,Enc.v t1.Cap,Enc.v t1.Blocks,Enc.v t1.Lost]) nd rfl (Cells_v (t1:Tape_api)) rfl ?_
 refine TLc.boxV (lu:=[Enc.v s2.Number,Enc.v s2.Index,Enc.v s2.Data,Enc.v s2.Parity,Enc.v s2.Labels]) nd rfl (Cells_v (s2:Seal_api)) rfl ?_
 refine TLc.alO (l:=[Enc.v ((0:Int):Int),Enc.v ((0:Int):Int),.nils,Enc.v false]) nd ty54 ti54_z rfl rfl fun b5 nd=>?_
 refine M rfl rfl (TL.nil (hK4 _ _ ?_))
 refine TK.ownC (α:=(List UInt8)) nd (j:=0) rfl 2 25 (.inl rfl) fun b6 nd=>?_
 refine TK.toD (β:=UInt8) 5 nd (j:=0) rfl fun nd=>?_
 refine SR fun K7 hK7=>?_
 refine TLc.litO nd ([(80:UInt8)]:List UInt8) kd25 ty5 rfl ⟨⟨rfl,rfl⟩,trivial⟩ rfl rfl rfl fun b8 nd=>?_
 refine TLc.cvtF (xs:=([(80:UInt8)]:List UInt8)) nd kd25 kd5 rfl (j:=0) rfl (by simp) rfl fun nd=>?_
 refine P1 (p_bld (l:=Enc.cl ((Unit_api.mk (1:Int) (0:Int) (0:Int) ([(80:UInt8)]:List UInt8)):Unit_api)) ty68 rfl all68 rfl (fun _=>⟨⟨rfl,trivial,rfl⟩,⟨rfl,trivial,rfl⟩,trivial⟩)) rfl rfl ?_
 refine TLc.litO nd ([(Unit_api.mk (1:Int) (0:Int) (0:Int) ([(80:UInt8)]:List UInt8))]:List Unit_api) kd151 ty68 rfl ⟨⟨rfl,rfl⟩,trivial⟩ rfl rfl rfl fun b9 nd=>?_
 refine M rfl rfl (TL.nil (hK7 _ _ ?_))
 refine TK.seq_k fun K10 hK10=>?_
 refine SR fun K11 hK11=>M rfl rfl (P1 (p_lenL (xs:=rows3) kd22 rfl) rfl rfl (M rfl rfl (TL.nil (hK11 _ _ ?_))))
 refine TK.block ?_
 obtain ⟨o12,hO12,hA12⟩:=bind_some hX
 have E12:∀(l21:List Unit_api) (env:Env) (h:Hp),(∃b19 b18 b20,keepE [3,4,6,8] env=[(3,true,.vref (ofL [Enc.v t1.Label,Enc.v t1.Cap,Enc.v t1.Blocks,Enc.v t1.Lost]) 4 0),(4,true,.vref (ofL [Enc.v s2.Number,Enc.v s2.Index,Enc.v s2.Data,Enc.v s2.Parity,Enc.v s2.Labels]) 5 0),(6,true,.ref b18 0 4),(8,true,OL b20 l21)]∧Nd [(b19,RD (β:=UInt8) 25 5 b19 ([]:List (List UInt8))),(b18,RV 54 [Enc.v ((0:Int):Int),Enc.v ((0:Int):Int),OL (α:=(List UInt8)) b19 ([]:List (List UInt8)),Enc.v false]),(b20,RL (α:=Unit_api) 68 l21)]∧HSub [(b19,RD (β:=UInt8) 25 5 b19 ([]:List (List UInt8))),(b18,RV 54 [Enc.v ((0:Int):Int),Enc.v ((0:Int):Int),OL (α:=(List UInt8)) b19 ([]:List (List UInt8)),Enc.v false]),(b20,RL (α:=Unit_api) 68 l21)] h)→X.group_tape_os_e12 s2 t1 l21=some r→K10 env h:=by
  intro l21 env h hE hX
  obtain ⟨b19,b18,b20,henv,nd,hs⟩:=hE
  unfold X.group_tape_os_e12 at hX
  refine hK10 _ _ (TK.keep [3,4,6,8] ?_)
  rw[henv]
  refine TK.subH hs ?_
  refine SR fun K22 hK22=>M rfl rfl (P1 (p_ldRa (l':=Enc.cl (s2:Seal_api)) ty50 rfl rfl rfl rfl rfl (Nat.le_of_ble_eq_true rfl)) rfl rfl ?_)
  obtain ⟨r23,hr23,hX⟩:=bind_some hX
  refine TL.cvX rfl rfl rfl (fun _=>⟨rfl,⟨rfl,trivial⟩⟩) (fun e=>ok_record_SealBytes s2 _ hr23) ?_
  refine P1 (p_bld (l:=Enc.cl ((Unit_api.mk (5:Int) (0:Int) (0:Int) r23):Unit_api)) ty68 rfl all68 rfl (fun _=>⟨⟨rfl,trivial,rfl⟩,⟨rfl,trivial,rfl⟩,trivial⟩)) rfl rfl ?_
  refine TLc.lit ([(Unit_api.mk (5:Int) (0:Int) (0:Int) r23)]:List Unit_api) kd151 ty68 rfl ⟨⟨rfl,rfl⟩,trivial⟩ rfl rfl rfl ?_
  obtain ⟨u24,hu24,hX⟩:=bind_some hX
  refine TLc.appO nd kd151 bo151 ty68 rfl rfl (j:=2) rfl rfl (Src_L _) Dc (need_t hu24) rfl fun nd=>?_
  refine M rfl rfl (TL.nil (hK22 _ _ (SR fun K25 hK25=>P1 (p_faR fs54_0 Dc rfl) rfl rfl (P1 (p_ldR (v:=Enc.v t1.Label) ty3 rfl rfl rfl rfl rfl rfl) rfl rfl (P1 (p_faR fs54_1 Dc rfl) rfl rfl (P1 (p_ldR (v:=Enc.v t1.Cap) ty3 rfl rfl rfl rfl rfl rfl) rfl rfl ?_))))))
  refine P1 (p_bld (l:=[Enc.v t1.Label,Enc.v t1.Cap,.nils,Enc.v false]) ty54 rfl all54 rfl (fun _=>⟨⟨rfl,trivial,rfl⟩,⟨rfl,trivial,rfl⟩,trivial⟩)) rfl rfl ?_
  refine TLc.alO (l:=[Enc.v ((0:Int):Int),Enc.v ((0:Int):Int),.nils,Enc.v false]) nd ty54 ti54_z rfl rfl fun b26 nd=>?_
  refine TLc.stV (lu:=[Enc.v t1.Label,Enc.v t1.Cap,.nils,Enc.v false]) nd ty54 rfl (j:=0) rfl rfl rfl (Cells_agg rfl (allA.mem ⟨trivial,trivial,trivial,trivial,trivial⟩)) rfl rfl [Enc.v t1.Label,Enc.v t1.Cap,.nils,Enc.v false] rfl fun nd=>?_
  refine TL.nil (hK25 _ _ ?_)
  refine TK.ownC (α:=(List UInt8)) nd (j:=0) rfl 2 25 (.inl rfl) fun b27 nd=>?_
  refine TK.toD (β:=UInt8) 5 nd (j:=0) rfl fun nd=>?_
  refine TK.seq_k fun K28 hK28=>?_
  refine SR fun K29 hK29=>M rfl rfl (P1 (p_lenR kd151 rfl (fun _=>refOK_of nd (j:=4) rfl rfl)) rfl rfl (M rfl rfl (TL.nil (hK29 _ _ ?_))))
  refine TK.block ?_
  obtain ⟨o30,hO30,hA30⟩:=bind_some hX
  have E30:∀(c44:Int) (c45:Int) (l47:List (List UInt8)) (c48:Bool) (env:Env) (h:Hp),(∃b42 b41 b46 b43,keepE [6,11] env=[(6,true,.ref b41 0 4),(11,true,.ref b43 0 4)]∧Nd [(b42,RD (β:=UInt8) 25 5 b42 ([]:List (List UInt8))),(b41,RV 54 [Enc.v ((0:Int):Int),Enc.v ((0:Int):Int),OL (α:=(List UInt8)) b42 ([]:List (List UInt8)),Enc.v false]),(b46,RD (β:=UInt8) 25 5 b46 l47),(b43,RV 54 [Enc.v c44,Enc.v c45,OL b46 l47,Enc.v c48])]∧HSub [(b42,RD (β:=UInt8) 25 5 b42 ([]:List (List UInt8))),(b41,RV 54 [Enc.v ((0:Int):Int),Enc.v ((0:Int):Int),OL (α:=(List UInt8)) b42 ([]:List (List UInt8)),Enc.v false]),(b46,RD (β:=UInt8) 25 5 b46 l47),(b43,RV 54 [Enc.v c44,Enc.v c45,OL b46 l47,Enc.v c48])] h)→X.group_tape_os_e30 c44 c45 l47 c48=some r→K28 env h:=by
   intro c44 c45 l47 c48 env h hE hX
   obtain ⟨b42,b41,b46,b43,henv,nd,hs⟩:=hE
   unfold X.group_tape_os_e30 at hX
   refine hK28 _ _ (TK.keep [6,11] ?_)
   rw[henv]
   refine TK.subH hs ?_
   refine SR fun K49 hK49=>P1 (p_ldVa (l':=[Enc.v c44,Enc.v c45,OL b46 l47,Enc.v c48]) ty54 rfl rfl nd (j:=3) rfl rfl rfl rfl (Nat.le_of_ble_eq_true rfl)) rfl rfl ?_
   refine TLc.stV (lu:=[Enc.v c44,Enc.v c45,OL b46 l47,Enc.v c48]) nd ty54 rfl (j:=1) rfl rfl rfl (Cells_agg rfl (allA.mem ⟨trivial,trivial,oneA_rs (refOK_of nd (j:=2) rfl rfl),trivial,trivial⟩)) rfl rfl [Enc.v c44,Enc.v c45,OL b46 l47,Enc.v c48] rfl fun nd=>?_
   refine M rfl rfl (TL.nil (hK49 _ _ ?_))
   refine TK.ret ?_
   try dsimp only[thenQ]
   exact retXD [2] [.agg 4 (ofL [Enc.v c44,Enc.v c45,OL b46 l47,Enc.v c48]),Enc.v ((0:Int):Int)] nd Dc ⟨p_ldVa (l':=[Enc.v c44,Enc.v c45,OL b46 l47,Enc.v c48]) ty54 rfl rfl nd (j:=1) rfl rfl rfl rfl (Nat.le_of_ble_eq_true rfl),p_mv rfl,trivial⟩ (fun nd=>⟨(by obtain rfl:=some_in hX;exact ⟨b46,rfl,rfl⟩),(inH_tup (l:=[.agg 4 (ofL [Enc.v c44,Enc.v c45,OL b46 l47,Enc.v c48]),Enc.v ((0:Int):Int)]) ⟨inH_agg (l:=[Enc.v c44,Enc.v c45,OL b46 l47,Enc.v c48]) ⟨inH_val (v_val _),inH_val (v_val _),inH_rs nd (j:=0) rfl,inH_val (v_val _),trivial⟩,inH_val (v_val _),trivial⟩),⟨rowIn_RD,trivial⟩⟩)
  refine TK.iter [3,6,11,43,44,45] (fun s env h=>match s with|(c34,c35,l37,c38,x40)=>∃b32 b31 b36 b33 b39,env=[(3,true,.vref (ofL [Enc.v t1.Label,Enc.v t1.Cap,Enc.v t1.Blocks,Enc.v t1.Lost]) 4 0),(6,true,.ref b31 0 4),(11,true,.ref b33 0 4),(43,true,OL (α:=Unit_api) b39 (l21++([(Unit_api.mk (5:Int) (0:Int) (0:Int) r23)]:List Unit_api))),(44,true,Enc.v (((l21++([(Unit_api.mk (5:Int) (0:Int) (0:Int) r23)]:List Unit_api)).length:Int):Int)),(45,true,Enc.v x40)]∧Nd [(b32,RD (β:=UInt8) 25 5 b32 ([]:List (List UInt8))),(b31,RV 54 [Enc.v ((0:Int):Int),Enc.v ((0:Int):Int),OL (α:=(List UInt8)) b32 ([]:List (List UInt8)),Enc.v false]),(b36,RD (β:=UInt8) 25 5 b36 l37),(b33,RV 54 [Enc.v c34,Enc.v c35,OL b36 l37,Enc.v c38]),(b39,RL (α:=Unit_api) 68 (l21++([(Unit_api.mk (5:Int) (0:Int) (0:Int) r23)]:List Unit_api)))]∧HSub [(b32,RD (β:=UInt8) 25 5 b32 ([]:List (List UInt8))),(b31,RV 54 [Enc.v ((0:Int):Int),Enc.v ((0:Int):Int),OL (α:=(List UInt8)) b32 ([]:List (List UInt8)),Enc.v false]),(b36,RD (β:=UInt8) 25 5 b36 l37),(b33,RV 54 [Enc.v c34,Enc.v c35,OL b36 l37,Enc.v c38]),(b39,RL (α:=Unit_api) 68 (l21++([(Unit_api.mk (5:Int) (0:Int) (0:Int) r23)]:List Unit_api)))] h) hO30 ⟨b19,b18,b27,b26,b20,rfl,(Nd.pick nd (is:=[2,3,0,1,4]) Dc),(HSub.pick nd (is:=[2,3,0,1,4]) Dc)⟩ ?_
  rintro ⟨c34,c35,l37,c38,x40⟩ env h x30x ⟨b32,b31,b36,b33,b39,rfl,nd,hs⟩ hX hR30
  refine TK.subH hs ?_
  unfold X.group_tape_os_s30 at hX
  try dsimp only at hX
  refine SR fun K50 hK50=>P1 (p_lss rfl rfl) rfl rfl (TL.nil (hK50 _ _ ?_))
  refine TK.seq_k fun K51 hK51=>?_
  refine TK.cond (b:=(decide (x40<((l21++([(Unit_api.mk (5:Int) (0:Int) (0:Int) r23)]:List Unit_api)).length:Int)))) rfl (fun hc=>?_) (fun hc=>?_)
  ·have hX:=ite_t hc hX
   refine TK.skip ?_
   refine hK51 _ _ ?_
   refine TK.seq_k fun K52 hK52=>?_
   refine TK.block ?_
   refine SR fun K53 hK53=>M rfl rfl ?_
   obtain ⟨e54,he54,hX⟩:=bind_some hX
   refine P1 (p_iaO (xs:=(l21++([(Unit_api.mk (5:Int) (0:Int) (0:Int) r23)]:List Unit_api))) kd151 ty68 rfl rfl rfl nd (j:=4) rfl (fun _=>he54)) rfl rfl (P1 (p_ldO (xs:=(l21++([(Unit_api.mk (5:Int) (0:Int) (0:Int) r23)]:List Unit_api))) (a:=e54) (e54:Unit_api) ty68 rfl rfl nd (j:=4) rfl (fun _=>he54) rfl rfl rfl) rfl rfl ?_)
   refine TLc.alO (l:=[Enc.v ((0:Int):Int),Enc.v ((0:Int):Int),Enc.v ((0:Int):Int),.nils]) nd ty68 ti68_z rfl rfl fun b55 nd=>?_
   refine M rfl rfl ?_
   refine TLc.stV (lu:=Enc.cl (e54:Unit_api)) nd ty68 rfl (j:=0) rfl rfl rfl (Cells_v (e54:Unit_api)) rfl rfl [Enc.v e54.Kind,Enc.v e54.Label,Enc.v e54.Number,Enc.v e54.Load] rfl fun nd=>?_
   refine TL.nil (hK53 _ _ (SR fun K56 hK56=>P1 (p_faR fs54_0 Dc rfl) rfl rfl (P1 (p_ldR (v:=Enc.v t1.Label) ty3 rfl rfl rfl rfl rfl rfl) rfl rfl (M rfl rfl (P1 (p_faV fs68_1 Dc rfl nd (j:=0) rfl rfl) rfl rfl ?_)))))
   refine TLc.stV (lu:=Enc.cl (t1.Label:Int)) nd ty3 rfl (j:=0) rfl rfl rfl (Cells_v (t1.Label:Int)) rfl rfl [Enc.v e54.Kind,Enc.v t1.Label,Enc.v e54.Number,Enc.v e54.Load] rfl fun nd=>?_
   refine P1 (p_faV fs68_2 Dc rfl nd (j:=0) rfl rfl) rfl rfl ?_
   refine TLc.stV (lu:=Enc.cl (x40:Int)) nd ty3 rfl (j:=0) rfl rfl rfl (Cells_v (x40:Int)) rfl rfl [Enc.v e54.Kind,Enc.v t1.Label,Enc.v x40,Enc.v e54.Load] rfl fun nd=>?_
   refine TL.nil (hK56 _ _ (SR fun K57 hK57=>P1 (p_ldVa (l':=Enc.cl ((Unit_api.mk e54.Kind t1.Label x40 e54.Load):Unit_api)) ty68 rfl rfl nd (j:=0) rfl rfl rfl rfl (Nat.le_of_ble_eq_true rfl)) rfl rfl ?_))
   obtain ⟨r58,hr58,hX⟩:=bind_some hX
   refine TL.tcX [] [(b55,RV 68 [Enc.v e54.Kind,Enc.v t1.Label,Enc.v x40,Enc.v e54.Load]),(b32,RD (β:=UInt8) 25 5 b32 ([]:List (List UInt8))),(b31,RV 54 [Enc.v ((0:Int):Int),Enc.v ((0:Int):Int),OL (α:=(List UInt8)) b32 ([]:List (List UInt8)),Enc.v false]),(b36,RD (β:=UInt8) 25 5 b36 l37),(b33,RV 54 [Enc.v c34,Enc.v c35,OL b36 l37,Enc.v c38]),(b39,RL (α:=Unit_api) 68 (l21++([(Unit_api.mk (5:Int) (0:Int) (0:Int) r23)]:List Unit_api)))] rfl nd (dlt rfl) rfl ⟨rfl,⟨rfl,trivial⟩⟩ (ok_frame_Put_or (Unit_api.mk e54.Kind t1.Label x40 e54.Load) (Nd.take nd 0 rfl) _ hr58) ?_
   rintro _ _ hQ nd
   obtain ⟨b59,rfl,rfl⟩:=hQ
   refine M rfl rfl (P1 (p_ex rfl rfl Dc) rfl rfl (P1 (p_ex rfl rfl Dc) rfl rfl (M rfl rfl (M rfl rfl (TL.nil (hK57 _ _ ?_))))))
   refine TK.seq_k fun K60 hK60=>?_
   refine SR fun K61 hK61=>M rfl rfl (P1 (p_neq rfl rfl) rfl rfl (TL.nil (hK61 _ _ ?_)))
   refine TK.cond (b:=(r58.2 !=(0:Int))) rfl (fun hc=>?_) (fun hc=>?_)
   ·have hX:=ite_t hc hX
    refine SR fun K62 hK62=>P1 (p_bld (l:=[Enc.v ((0:Int):Int),Enc.v ((0:Int):Int),.nils,Enc.v false]) ty54 rfl all54 rfl (fun _=>trivial)) rfl rfl (M rfl rfl ?_)
    refine TLc.stV (lu:=[Enc.v ((0:Int):Int),Enc.v ((0:Int):Int),.nils,Enc.v false]) nd ty54 rfl (j:=3) rfl rfl rfl (Cells_agg rfl (allA.mem ⟨trivial,trivial,trivial,trivial,trivial⟩)) rfl rfl [Enc.v ((0:Int):Int),Enc.v ((0:Int):Int),.nils,Enc.v false] rfl fun nd=>?_
    refine M rfl rfl (TL.nil (hK62 _ _ ?_))
    refine TK.ownC (α:=(List UInt8)) nd (j:=3) rfl 2 25 (.inl rfl) fun b63 nd=>?_
    refine TK.toD (β:=UInt8) 5 nd (j:=0) rfl fun nd=>?_
    refine TK.ret ?_
    obtain rfl:=hR30 _ (some_in hX).symm
    replace hX:=hA30
    try dsimp only[thenQ]
    exact retXD [0] [.agg 4 (ofL [Enc.v ((0:Int):Int),Enc.v ((0:Int):Int),OL (α:=(List UInt8)) b63 ([]:List (List UInt8)),Enc.v false]),Enc.v r58.2] nd Dc ⟨p_ldVa (l':=[Enc.v ((0:Int):Int),Enc.v ((0:Int):Int),OL (α:=(List UInt8)) b63 ([]:List (List UInt8)),Enc.v false]) ty54 rfl rfl nd (j:=4) rfl rfl rfl rfl (Nat.le_of_ble_eq_true rfl),p_mv rfl,trivial⟩ (fun nd=>⟨(by obtain rfl:=some_in hX;exact ⟨b63,rfl,rfl⟩),(inH_tup (l:=[.agg 4 (ofL [Enc.v ((0:Int):Int),Enc.v ((0:Int):Int),OL (α:=(List UInt8)) b63 ([]:List (List UInt8)),Enc.v false]),Enc.v r58.2]) ⟨inH_agg (l:=[Enc.v ((0:Int):Int),Enc.v ((0:Int):Int),OL (α:=(List UInt8)) b63 ([]:List (List UInt8)),Enc.v false]) ⟨inH_val (v_val _),inH_val (v_val _),inH_rs nd (j:=0) rfl,inH_val (v_val _),trivial⟩,inH_val (v_val _),trivial⟩),⟨rowIn_RD,trivial⟩⟩)
   ·have hX:=ite_f hc hX
    refine TK.skip ?_
    refine hK60 _ _ ?_
    refine TK.reg ?_
    refine P1 (p_faV fs54_2 Dc rfl nd (j:=5) rfl rfl) rfl rfl (P1 (p_ldV (v:=OL b36 l37) ty22 rfl rfl nd (j:=5) rfl rfl rfl rfl rfl) rfl rfl (M rfl rfl ?_))
    refine TLc.litP nd kd22 ty25 rfl rfl (j:=0) rfl rfl ?_
    obtain ⟨u65,hu65,hX⟩:=bind_some hX
    refine TLc.appD nd kd22 bo22 ty25 rfl rfl (j:=4) rfl (j2:=0) rfl rfl Dc (need_t hu65) rfl fun nd=>?_
    refine P1 (p_faV fs54_2 Dc rfl nd (j:=5) rfl rfl) rfl rfl ?_
    refine TLc.stV (lu:=[OL (α:=(List UInt8)) b36 (l37++([r58.1]:List (List UInt8)))]) nd ty22 rfl (j:=5) rfl rfl rfl (Cells_rs (refOK_of nd (j:=4) rfl rfl)) rfl rfl [Enc.v c34,Enc.v c35,OL (α:=(List UInt8)) b36 (l37++([r58.1]:List (List UInt8))),Enc.v c38] rfl fun nd=>?_
    refine TL.nil (hK52 _ _ ?_)
    refine TK.pushA (h:=[(b59,RL (α:=UInt8) 5 r58.1),(b55,RV 68 [Enc.v e54.Kind,Enc.v t1.Label,Enc.v x40,Enc.v e54.Load]),(b32,RD (β:=UInt8) 25 5 b32 ([]:List (List UInt8))),(b31,RV 54 [Enc.v ((0:Int):Int),Enc.v ((0:Int):Int),OL (α:=(List UInt8)) b32 ([]:List (List UInt8)),Enc.v false]),(b36,rowC (RD (β:=UInt8) 25 5 b36 (l37++([r58.1]:List (List UInt8)))) l37.length (OL b59 r58.1)),(b33,RV 54 [Enc.v c34,Enc.v c35,OL (α:=(List UInt8)) b36 (l37++([r58.1]:List (List UInt8))),Enc.v c38]),(b39,RL (α:=Unit_api) 68 (l21++([(Unit_api.mk (5:Int) (0:Int) (0:Int) r23)]:List Unit_api)))]) (he:=by repeat first|refine NoE.c ?_|refine NoE.p ?_|infer_instance) nd (j:=4) rfl (j2:=0) rfl rfl fun nd=>?_
    refine TK.reg ?_
    refine P1 (p_add rfl rfl) rfl rfl (M rfl rfl (TL.nil ?_))
    exact ⟨_,(some_in hX).symm,b32,b31,b36,b33,b39,rfl,(Nd.pick nd (is:=[1,2,3,4,5]) Dc),(HSub.pick nd (is:=[1,2,3,4,5]) Dc)⟩
  ·have hX:=ite_f hc hX
   refine TK.exit ?_
   obtain rfl:=hR30 _ (some_in hX).symm
   exact E30 c34 c35 l37 c38 _ _ ⟨b32,b31,b36,b33,rfl,(Nd.pick nd (is:=[0,1,2,3]) Dc),(HSub.pick nd (is:=[0,1,2,3]) Dc)⟩ hA30
 refine TK.iter [3,4,6,8,20,21,22] (fun s env h=>match s with|(l16,x17)=>∃b14 b13 b15,env=[(3,true,.vref (ofL [Enc.v t1.Label,Enc.v t1.Cap,Enc.v t1.Blocks,Enc.v t1.Lost]) 4 0),(4,true,.vref (ofL [Enc.v s2.Number,Enc.v s2.Index,Enc.v s2.Data,Enc.v s2.Parity,Enc.v s2.Labels]) 5 0),(6,true,.ref b13 0 4),(8,true,OL b15 l16),(20,true,Enc.v rows3),(21,true,Enc.v ((rows3.length:Int):Int)),(22,true,Enc.v x17)]∧Nd [(b14,RD (β:=UInt8) 25 5 b14 ([]:List (List UInt8))),(b13,RV 54 [Enc.v ((0:Int):Int),Enc.v ((0:Int):Int),OL (α:=(List UInt8)) b14 ([]:List (List UInt8)),Enc.v false]),(b15,RL (α:=Unit_api) 68 l16)]∧HSub [(b14,RD (β:=UInt8) 25 5 b14 ([]:List (List UInt8))),(b13,RV 54 [Enc.v ((0:Int):Int),Enc.v ((0:Int):Int),OL (α:=(List UInt8)) b14 ([]:List (List UInt8)),Enc.v false]),(b15,RL (α:=Unit_api) 68 l16)] h) hO12 ⟨b6,b5,b9,rfl,(Nd.pick nd (is:=[1,2,0]) Dc),(HSub.pick nd (is:=[1,2,0]) Dc)⟩ ?_
 rintro ⟨l16,x17⟩ env h x12x ⟨b14,b13,b15,rfl,nd,hs⟩ hX hR12
 refine TK.subH hs ?_
 unfold X.group_tape_os_s12 at hX
 try dsimp only at hX
 refine SR fun K66 hK66=>P1 (p_lss rfl rfl) rfl rfl (TL.nil (hK66 _ _ ?_))
 refine TK.seq_k fun K67 hK67=>?_
 refine TK.cond (b:=(decide (x17<(rows3.length:Int)))) rfl (fun hc=>?_) (fun hc=>?_)
 ·have hX:=ite_t hc hX
  refine TK.skip ?_
  refine hK67 _ _ ?_
  refine TK.seq_k fun K68 hK68=>?_
  refine TK.block ?_
  refine SR fun K69 hK69=>?_
  obtain ⟨e70,he70,hX⟩:=bind_some hX
  refine P1 (p_iaL (xs:=rows3) kd22 ty25 rfl rfl rfl (fun _=>he70)) rfl rfl (P1 (p_ldE (xs:=rows3) (a:=e70) (e70:(List UInt8)) ty25 rfl rfl (fun _=>he70) rfl rfl rfl) rfl rfl (M rfl rfl (TL.nil (hK69 _ _ ?_))))
  refine TK.reg ?_
  refine M rfl rfl (M rfl rfl (P1 (p_bld (l:=Enc.cl ((Unit_api.mk (6:Int) (0:Int) (0:Int) e70):Unit_api)) ty68 rfl all68 rfl (fun _=>⟨⟨rfl,trivial,rfl⟩,⟨rfl,trivial,rfl⟩,trivial⟩)) rfl rfl ?_))
  refine TLc.lit ([(Unit_api.mk (6:Int) (0:Int) (0:Int) e70)]:List Unit_api) kd151 ty68 rfl ⟨⟨rfl,rfl⟩,trivial⟩ rfl rfl rfl ?_
  obtain ⟨u71,hu71,hX⟩:=bind_some hX
  refine TLc.appO nd kd151 bo151 ty68 rfl rfl (j:=2) rfl rfl (Src_L _) Dc (need_t hu71) rfl fun nd=>?_
  refine M rfl rfl (TL.nil (hK68 _ _ ?_))
  refine TK.reg ?_
  refine P1 (p_add rfl rfl) rfl rfl (M rfl rfl (TL.nil ?_))
  exact ⟨_,(some_in hX).symm,b14,b13,b15,rfl,(Nd.pick nd (is:=[0,1,2]) Dc),(HSub.pick nd (is:=[0,1,2]) Dc)⟩
 ·have hX:=ite_f hc hX
  refine TK.exit ?_
  obtain rfl:=hR12 _ (some_in hX).symm
  exact E12 l16 _ _ ⟨b14,b13,b15,rfl,(Nd.pick nd (is:=[0,1,2]) Dc),(HSub.pick nd (is:=[0,1,2]) Dc)⟩ hA12
theorem ok_group_Make_or (data1:(List Tape_api)) (blank2:(List Tape_api)) (number3:Int) (nd:Nd []) (r:((List Tape_api)×Int)) (hX:X.group_Make_or data1 blank2 number3=some r):TCX Try.prog 38 [Enc.v (data1:(List Tape_api)),Enc.v (blank2:(List Tape_api)),Enc.v (number3:Int)] [] (fun rv h'=>∃b55,rv= .tup 2 (ofL [OL (α:=Tape_api) b55 r.1,Enc.v (r.2:Int)])∧h'=[(b55,RT (α:=Tape_api) 54 25 5 b55 allT r.1)]):=by
 refine TCX.of b38 (Nat.le_of_ble_eq_true rfl) ?_
 unfold k38
 unfold X.group_Make_or at hX
 refine SR fun K4 hK4=>M rfl rfl (M rfl rfl (TL.nil (hK4 _ _ (SR fun K5 hK5=>M rfl rfl (M rfl rfl (P1 (p_lenL (xs:=data1) kd48 rfl) rfl rfl (M rfl rfl (P1 (p_lenL (xs:=blank2) kd48 rfl) rfl rfl (M rfl rfl (M rfl rfl ?_))))))))))
 refine TLc.lit ([data1,blank2]:List (List Tape_api)) kd147 ty48 rfl ⟨⟨rfl,rfl⟩,⟨rfl,rfl⟩,trivial⟩ rfl rfl rfl ?_
 obtain ⟨r6,hr6,hX⟩:=bind_some hX
 refine TL.cvX rfl rfl rfl (fun _=>⟨rfl,⟨rfl,trivial⟩⟩) (fun e=>ok_slices_Concat_Lapi_Tape_api_Tape ([data1,blank2]:List (List Tape_api)) _ hr6) ?_
 obtain ⟨r7,hr7,hX⟩:=bind_some hX
 refine TL.cvX rfl rfl rfl (fun _=>⟨rfl,⟨rfl,trivial⟩⟩) (fun e=>ok_group_labels r6 _ hr7) ?_
 refine P1 (p_bld (l:=Enc.cl ((Seal_api.mk number3 (0:Int) (data1.length:Int) (blank2.length:Int) r7):Seal_api)) ty50 rfl all50 rfl (fun _=>⟨⟨rfl,trivial,rfl⟩,⟨rfl,trivial,rfl⟩,⟨rfl,trivial,rfl⟩,⟨rfl,trivial,rfl⟩,trivial⟩)) rfl rfl ?_
 refine TLc.alO (l:=[Enc.v ((0:Int):Int),Enc.v ((0:Int):Int),Enc.v ((0:Int):Int),Enc.v ((0:Int):Int),.nils]) nd ty50 ti50_z rfl rfl fun b8 nd=>?_
 refine TLc.stV (lu:=Enc.cl ((Seal_api.mk number3 (0:Int) (data1.length:Int) (blank2.length:Int) r7):Seal_api)) nd ty50 rfl (j:=0) rfl rfl rfl (Cells_v ((Seal_api.mk number3 (0:Int) (data1.length:Int) (blank2.length:Int) r7):Seal_api)) rfl rfl [Enc.v ((Seal_api.mk number3 (0:Int) (data1.length:Int) (blank2.length:Int) r7).Number:Int),Enc.v ((Seal_api.mk number3 (0:Int) (data1.length:Int) (blank2.length:Int) r7).Index:Int),Enc.v ((Seal_api.mk number3 (0:Int) (data1.length:Int) (blank2.length:Int) r7).Data:Int),Enc.v ((Seal_api.mk number3 (0:Int) (data1.length:Int) (blank2.length:Int) r7).Parity:Int),Enc.v ((Seal_api.mk number3 (0:Int) (data1.length:Int) (blank2.length:Int) r7).Labels:(List Int))] rfl fun nd=>?_
 refine TL.nil (hK5 _ _ ?_)
 refine TK.seq_k fun K9 hK9=>?_
 refine SR fun K10 hK10=>M rfl rfl (M rfl rfl (P1 (p_ldVa (l':=Enc.cl ((Seal_api.mk number3 (0:Int) (data1.length:Int) (blank2.length:Int) r7):Seal_api)) ty50 rfl rfl nd (j:=0) rfl rfl rfl rfl (Nat.le_of_ble_eq_true rfl)) rfl rfl ?_))
 obtain ⟨r11,hr11,hX⟩:=bind_some hX
 refine TL.cvX rfl rfl rfl (fun _=>⟨rfl,⟨rfl,⟨rfl,⟨rfl,trivial⟩⟩⟩⟩) (fun e=>ok_group_check data1 blank2 (Seal_api.mk number3 (0:Int) (data1.length:Int) (blank2.length:Int) r7) _ hr11) ?_
 refine M rfl rfl (TL.nil (hK10 _ _ (SR fun K12 hK12=>M rfl rfl (P1 (p_neq rfl rfl) rfl rfl (TL.nil (hK12 _ _ ?_))))))
 refine TK.cond (b:=(r11 !=(0:Int))) rfl (fun hc=>?_) (fun hc=>?_)
 ·have hX:=ite_t hc hX
  refine SR fun K13 hK13=>M rfl rfl (M rfl rfl (M rfl rfl (TL.nil (hK13 _ _ ?_))))
  refine TK.ownL (α:=Tape_api) 6 54 nd rfl (.inl rfl) fun b14 nd=>?_
  refine TK.toT (α:=Tape_api) 25 5 allT nd (j:=0) rfl fun nd=>?_
  refine TK.pick [0] nd Dc fun nd=>?_
  refine TK.ret ?_
  try dsimp only[thenQ]
  exact retX (v:= .tup 2 (ofL [OL (α:=Tape_api) b14 ([]:List Tape_api),Enc.v r11])) (resN (vs:=[OL (α:=Tape_api) b14 ([]:List Tape_api),Enc.v r11]) ⟨rfl,rfl,trivial⟩) (by obtain rfl:=some_in hX;exact ⟨b14,rfl,rfl⟩) nd (inH_tup (l:=[OL (α:=Tape_api) b14 ([]:List Tape_api),Enc.v r11]) ⟨inH_rs nd (j:=0) rfl,inH_val (v_val _),trivial⟩) ⟨rowIn_RT (α:=Tape_api) (ty:=54) (t1:=25) (t2:=5) (b:=b14) (pf:=allT) (xs:=([]:List Tape_api)),trivial⟩
 ·have hX:=ite_f hc hX
  refine TK.skip ?_
  refine hK9 _ _ (SR fun K15 hK15=>M rfl rfl (M rfl rfl (P1 (p_lenL (xs:=blank2) kd48 rfl) rfl rfl ?_)))
  obtain ⟨r16,hr16,hX⟩:=bind_some hX
  refine TL.cvX rfl rfl rfl (fun _=>⟨rfl,⟨rfl,⟨rfl,trivial⟩⟩⟩) (fun e=>ok_stripe_Parity data1 (blank2.length:Int) _ hr16) ?_
  refine M rfl rfl (P1 (p_ex rfl rfl Dc) rfl rfl (P1 (p_ex rfl rfl Dc) rfl rfl (M rfl rfl (M rfl rfl (TL.nil (hK15 _ _ ?_))))))
  refine TK.seq_k fun K17 hK17=>?_
  refine SR fun K18 hK18=>M rfl rfl (P1 (p_neq rfl rfl) rfl rfl (TL.nil (hK18 _ _ ?_)))
  refine TK.cond (b:=(r16.2 !=(0:Int))) rfl (fun hc=>?_) (fun hc=>?_)
  ·have hX:=ite_t hc hX
   refine SR fun K19 hK19=>M rfl rfl (M rfl rfl (M rfl rfl (TL.nil (hK19 _ _ ?_))))
   refine TK.ownL (α:=Tape_api) 6 54 nd rfl (.inl rfl) fun b20 nd=>?_
   refine TK.toT (α:=Tape_api) 25 5 allT nd (j:=0) rfl fun nd=>?_
   refine TK.pick [0] nd Dc fun nd=>?_
   refine TK.ret ?_
   try dsimp only[thenQ]
   exact retX (v:= .tup 2 (ofL [OL (α:=Tape_api) b20 ([]:List Tape_api),Enc.v r16.2])) (resN (vs:=[OL (α:=Tape_api) b20 ([]:List Tape_api),Enc.v r16.2]) ⟨rfl,rfl,trivial⟩) (by obtain rfl:=some_in hX;exact ⟨b20,rfl,rfl⟩) nd (inH_tup (l:=[OL (α:=Tape_api) b20 ([]:List Tape_api),Enc.v r16.2]) ⟨inH_rs nd (j:=0) rfl,inH_val (v_val _),trivial⟩) ⟨rowIn_RT (α:=Tape_api) (ty:=54) (t1:=25) (t2:=5) (b:=b20) (pf:=allT) (xs:=([]:List Tape_api)),trivial⟩
  ·have hX:=ite_f hc hX
   refine TK.skip ?_
   refine hK17 _ _ (SR fun K21 hK21=>M rfl rfl (TL.nil (hK21 _ _ ?_)))
   refine TK.ownL (α:=Tape_api) 12 54 nd rfl (.inl rfl) fun b22 nd=>?_
   refine TK.toT (α:=Tape_api) 25 5 allT nd (j:=0) rfl fun nd=>?_
   refine TK.seq_k fun K23 hK23=>?_
   refine SR fun K24 hK24=>M rfl rfl (P1 (p_lenL (xs:=blank2) kd48 rfl) rfl rfl (M rfl rfl (TL.nil (hK24 _ _ ?_))))
   refine TK.block ?_
   obtain ⟨o25,hO25,hA25⟩:=bind_some hX
   have E25:∀(l36:List Tape_api) (env:Env) (h:Hp),(∃b35,keepE [12] env=[(12,true,OL b35 l36)]∧Nd [(b35,RT (α:=Tape_api) 54 25 5 b35 allT l36)]∧HSub [(b35,RT (α:=Tape_api) 54 25 5 b35 allT l36)] h)→X.group_Make_or_e25 l36=some r→K23 env h:=by
    intro l36 env h hE hX
    obtain ⟨b35,henv,nd,hs⟩:=hE
    unfold X.group_Make_or_e25 at hX
    refine hK23 _ _ (TK.keep [12] ?_)
    rw[henv]
    refine TK.subH hs ?_
    refine SR fun K37 hK37=>M rfl rfl (M rfl rfl (M rfl rfl (TL.nil (hK37 _ _ ?_))))
    refine TK.ret ?_
    try dsimp only[thenQ]
    exact retX (v:= .tup 2 (ofL [OL b35 l36,Enc.v ((0:Int):Int)])) (resN (vs:=[OL b35 l36,Enc.v ((0:Int):Int)]) ⟨rfl,rfl,trivial⟩) (by obtain rfl:=some_in hX;exact ⟨b35,rfl,rfl⟩) nd (inH_tup (l:=[OL b35 l36,Enc.v ((0:Int):Int)]) ⟨inH_rs nd (j:=0) rfl,inH_val (v_val _),trivial⟩) ⟨rowIn_RT (α:=Tape_api) (ty:=54) (t1:=25) (t2:=5) (b:=b35) (pf:=allT) (xs:=l36),trivial⟩
   refine TK.iter [0,8,10,12,45,46,47] (fun s env h=>match s with|(c27,c28,c29,c30,c31,out33,x34)=>∃b26 b32,env=[(0,true,Enc.v data1),(8,true,.ref b26 0 5),(10,true,Enc.v (r16.1:(List (List (List UInt8))))),(12,true,OL b32 out33),(45,true,Enc.v blank2),(46,true,Enc.v ((blank2.length:Int):Int)),(47,true,Enc.v x34)]∧Nd [(b26,RV 50 [Enc.v c27,Enc.v c28,Enc.v c29,Enc.v c30,Enc.v c31]),(b32,RT (α:=Tape_api) 54 25 5 b32 allT out33)]∧HSub [(b26,RV 50 [Enc.v c27,Enc.v c28,Enc.v c29,Enc.v c30,Enc.v c31]),(b32,RT (α:=Tape_api) 54 25 5 b32 allT out33)] h) hO25 ⟨b8,b22,rfl,(Nd.pick nd (is:=[1,0]) Dc),(HSub.pick nd (is:=[1,0]) Dc)⟩ ?_
   rintro ⟨c27,c28,c29,c30,c31,out33,x34⟩ env h x25x ⟨b26,b32,rfl,nd,hs⟩ hX hR25
   refine TK.subH hs ?_
   unfold X.group_Make_or_s25 at hX
   try dsimp only at hX
   refine SR fun K38 hK38=>P1 (p_lss rfl rfl) rfl rfl (TL.nil (hK38 _ _ ?_))
   refine TK.seq_k fun K39 hK39=>?_
   refine TK.cond (b:=(decide (x34<(blank2.length:Int)))) rfl (fun hc=>?_) (fun hc=>?_)
   ·have hX:=ite_t hc hX
    refine TK.skip ?_
    refine hK39 _ _ ?_
    refine TK.seq_k fun K40 hK40=>?_
    refine TK.block ?_
    refine SR fun K41 hK41=>M rfl rfl ?_
    obtain ⟨e42,he42,hX⟩:=bind_some hX
    refine P1 (p_iaL (xs:=blank2) kd48 ty54 rfl rfl rfl (fun _=>he42)) rfl rfl (P1 (p_ldE (xs:=blank2) (a:=e42) (e42:Tape_api) ty54 rfl rfl (fun _=>he42) rfl rfl rfl) rfl rfl ?_)
    refine TLc.alO (l:=[Enc.v ((0:Int):Int),Enc.v ((0:Int):Int),.nils,Enc.v false]) nd ty54 ti54_z rfl rfl fun b43 nd=>?_
    refine M rfl rfl ?_
    refine TLc.stV (lu:=Enc.cl (e42:Tape_api)) nd ty54 rfl (j:=0) rfl rfl rfl (Cells_v (e42:Tape_api)) rfl rfl [Enc.v e42.Label,Enc.v e42.Cap,Enc.v e42.Blocks,Enc.v e42.Lost] rfl fun nd=>?_
    refine TL.nil (hK41 _ _ (SR fun K44 hK44=>M rfl rfl (P1 (p_lenL (xs:=data1) kd48 rfl) rfl rfl (M rfl rfl (P1 (p_add rfl rfl) rfl rfl (P1 (p_faV fs50_1 Dc rfl nd (j:=1) rfl rfl) rfl rfl ?_))))))
    refine TLc.stV (lu:=Enc.cl ((wr ((data1.length:Int)+x34)):Int)) nd ty3 rfl (j:=1) rfl rfl rfl (Cells_v ((wr ((data1.length:Int)+x34)):Int)) rfl rfl [Enc.v c27,Enc.v ((wr ((data1.length:Int)+x34)):Int),Enc.v c29,Enc.v c30,Enc.v c31] rfl fun nd=>?_
    refine TL.nil (hK44 _ _ ?_)
    refine TK.seq_k fun K45 hK45=>?_
    have ndS:Nd [(b43,RV 54 [Enc.v e42.Label,Enc.v e42.Cap,Enc.v e42.Blocks,Enc.v e42.Lost]),(b26,RV 50 [Enc.v c27,Enc.v ((wr ((data1.length:Int)+x34)):Int),Enc.v c29,Enc.v c30,Enc.v c31]),(b32,RT (α:=Tape_api) 54 25 5 b32 allT out33)]:=Nd.pick nd (is:=[0,1,2]) Dc
    refine TK.drwB (h:=[]) (hS:=[(b43,RV 54 [Enc.v e42.Label,Enc.v e42.Cap,Enc.v e42.Blocks,Enc.v e42.Lost]),(b26,RV 50 [Enc.v c27,Enc.v ((wr ((data1.length:Int)+x34)):Int),Enc.v c29,Enc.v c30,Enc.v c31]),(b32,RT (α:=Tape_api) 54 25 5 b32 allT out33)]) [(0,0),(0,1),(0,2),(0,3),(0,4),(0,5)] [(2,6),(0,7),(0,8),(0,9),(2,10),(2,11),(0,12)] [(2,10),(2,6),(0,7),(0,8),(0,9),(2,11),(0,12)] 10 mixed (by kernel_rfl) (by kernel_rfl) rfl (HSub_app nd) ?_
    refine DP0 (gc:=true) rfl (vok_p (C:=cx) (p_ldVa (l':=Enc.cl (e42:Tape_api)) ty54 rfl rfl ndS (j:=0) rfl rfl rfl rfl (Nat.le_of_ble_eq_true rfl))) rfl rfl ?_
    refine DP0 (gc:=true) rfl (vok_p (C:=cx) (p_ldVa (l':=Enc.cl ((Seal_api.mk c27 (wr ((data1.length:Int)+x34)) c29 c30 c31):Seal_api)) ty50 rfl rfl ndS (j:=1) rfl rfl rfl rfl (Nat.le_of_ble_eq_true rfl))) rfl rfl ?_
    refine DP0 (gc:=true) rfl (vok_p (C:=cx) (p_mv rfl)) rfl rfl ?_
    refine DP0 (gc:=true) rfl (vok_p (C:=cx) (p_mv rfl)) rfl rfl ?_
    obtain ⟨e46,he46,hX⟩:=bind_some hX
    refine DP0 (gc:=true) rfl (vok_p (C:=cx) (p_iaL (xs:=r16.1) kd111 ty22 rfl rfl rfl (fun _=>he46))) rfl rfl ?_
    refine DP0 (gc:=true) rfl (vok_p (C:=cx) (p_ldE (xs:=r16.1) (a:=e46) (e46:(List (List UInt8))) ty22 rfl rfl (fun _=>he46) rfl rfl rfl)) rfl rfl ?_
    refine DPend ⟨?_,?_⟩
    ·obtain ⟨r47,hr47,hX⟩:=bind_some hX
     refine DR2 rfl rfl ?_
     refine TL.tcX [] [(b43,RV 54 [Enc.v e42.Label,Enc.v e42.Cap,Enc.v e42.Blocks,Enc.v e42.Lost]),(b26,RV 50 [Enc.v c27,Enc.v ((wr ((data1.length:Int)+x34)):Int),Enc.v c29,Enc.v c30,Enc.v c31]),(b32,RT (α:=Tape_api) 54 25 5 b32 allT out33)] rfl nd (dlt rfl) rfl ⟨rfl,⟨rfl,⟨rfl,⟨rfl,trivial⟩⟩⟩⟩ (ok_group_tape_os e42 (Seal_api.mk c27 (wr ((data1.length:Int)+x34)) c29 c30 c31) e46 (Nd.take nd 0 rfl) _ hr47) ?_
     rintro _ _ hQ nd
     obtain ⟨b48,rfl,rfl⟩:=hQ
     refine TL.nil ⟨_,[(b48,RD (β:=UInt8) 25 5 b48 r47.1.Blocks)],rfl,rfl,HSub_app nd,?_⟩
     refine DM rfl rfl rfl ?_
     refine D0 rfl (p_ex rfl rfl Dc) rfl rfl ?_
     refine D0 rfl (p_ex rfl rfl Dc) rfl rfl ?_
     refine DR2 rfl rfl ?_
     refine TLc.alO (l:=[Enc.v ((0:Int):Int),Enc.v ((0:Int):Int),.nils,Enc.v false]) nd ty54 ti54_z rfl rfl fun b49 nd=>?_
     refine TL.nil ⟨_,[(b49,RV 54 [Enc.v ((0:Int):Int),Enc.v ((0:Int):Int),.nils,Enc.v false]),(b48,RD (β:=UInt8) 25 5 b48 r47.1.Blocks)],rfl,rfl,HSub_app nd,?_⟩
     refine DR2n rfl ?_
     refine TLc.stV (lu:=[Enc.v r47.1.Label,Enc.v r47.1.Cap,OL (α:=(List UInt8)) b48 r47.1.Blocks,Enc.v r47.1.Lost]) nd ty54 rfl (j:=0) rfl rfl rfl (Cells_agg rfl (allA.mem ⟨trivial,trivial,oneA_rs (refOK_of nd (j:=1) rfl rfl),trivial,trivial⟩)) rfl rfl [Enc.v r47.1.Label,Enc.v r47.1.Cap,OL (α:=(List UInt8)) b48 r47.1.Blocks,Enc.v r47.1.Lost] rfl fun nd=>?_
     refine TL.nil ⟨.nilp,[(b49,RV 54 [Enc.v r47.1.Label,Enc.v r47.1.Cap,OL (α:=(List UInt8)) b48 r47.1.Blocks,Enc.v r47.1.Lost]),(b48,RD (β:=UInt8) 25 5 b48 r47.1.Blocks)],rfl,rfl,HSub_app nd,?_⟩
     refine DM rfl rfl rfl ?_
     refine DRend ?_
     refine hK45 _ _ ?_
     refine TK.seq_k fun K50 hK50=>?_
     refine SR fun K51 hK51=>M rfl rfl (P1 (p_neq rfl rfl) rfl rfl (TL.nil (hK51 _ _ ?_)))
     refine TK.cond (b:=(r47.2 !=(0:Int))) rfl (fun hc=>?_) (fun hc=>?_)
     ·have hX:=ite_t hc hX
      refine SR fun K52 hK52=>M rfl rfl (M rfl rfl (M rfl rfl (TL.nil (hK52 _ _ ?_))))
      refine TK.ownL (α:=Tape_api) 6 54 nd rfl (.inl rfl) fun b53 nd=>?_
      refine TK.toT (α:=Tape_api) 25 5 allT nd (j:=0) rfl fun nd=>?_
      refine TK.pick [0] nd Dc fun nd=>?_
      refine TK.ret ?_
      obtain rfl:=hR25 _ (some_in hX).symm
      replace hX:=hA25
      try dsimp only[thenQ]
      exact retX (v:= .tup 2 (ofL [OL (α:=Tape_api) b53 ([]:List Tape_api),Enc.v r47.2])) (resN (vs:=[OL (α:=Tape_api) b53 ([]:List Tape_api),Enc.v r47.2]) ⟨rfl,rfl,trivial⟩) (by obtain rfl:=some_in hX;exact ⟨b53,rfl,rfl⟩) nd (inH_tup (l:=[OL (α:=Tape_api) b53 ([]:List Tape_api),Enc.v r47.2]) ⟨inH_rs nd (j:=0) rfl,inH_val (v_val _),trivial⟩) ⟨rowIn_RT (α:=Tape_api) (ty:=54) (t1:=25) (t2:=5) (b:=b53) (pf:=allT) (xs:=([]:List Tape_api)),trivial⟩
     ·have hX:=ite_f hc hX
      refine TK.skip ?_
      refine hK50 _ _ ?_
      refine TK.reg ?_
      refine M rfl rfl (P1 (p_ldVa (l':=[Enc.v r47.1.Label,Enc.v r47.1.Cap,OL (α:=(List UInt8)) b48 r47.1.Blocks,Enc.v r47.1.Lost]) ty54 rfl rfl nd (j:=0) rfl rfl rfl rfl (Nat.le_of_ble_eq_true rfl)) rfl rfl ?_)
      refine TLc.litT (l:=[Enc.v r47.1.Label,Enc.v r47.1.Cap,OL (α:=(List UInt8)) b48 r47.1.Blocks,Enc.v r47.1.Lost]) kd48 ty54 rfl rfl rfl rfl rfl rfl ?_
      obtain ⟨u54,hu54,hX⟩:=bind_some hX
      refine TLc.appT (a:=r47.1) nd kd48 bo48 ty54 rfl rfl (j:=4) rfl (j2:=1) rfl rfl rfl Dc (need_t hu54) rfl rfl fun nd=>?_
      refine M rfl rfl (TL.nil (hK40 _ _ ?_))
      refine TK.pushU (h:=[(b49,RV 54 [Enc.v r47.1.Label,Enc.v r47.1.Cap,OL (α:=(List UInt8)) b48 r47.1.Blocks,Enc.v r47.1.Lost]),(b48,RD (β:=UInt8) 25 5 b48 r47.1.Blocks),(b43,RV 54 [Enc.v e42.Label,Enc.v e42.Cap,Enc.v e42.Blocks,Enc.v e42.Lost]),(b26,RV 50 [Enc.v c27,Enc.v ((wr ((data1.length:Int)+x34)):Int),Enc.v c29,Enc.v c30,Enc.v c31]),(b32,rowC (RT (α:=Tape_api) 54 25 5 b32 allT (out33++([r47.1]:List Tape_api))) (out33.length*Enc.sz Tape_api+DS.o Tape_api) (OL (α:=(List UInt8)) b48 r47.1.Blocks))]) (he:=by repeat first|refine NoE.c ?_|refine NoE.p ?_|infer_instance) nd (j:=4) rfl (j2:=1) rfl rfl rfl rfl fun nd=>?_
      refine TK.reg ?_
      refine P1 (p_add rfl rfl) rfl rfl (M rfl rfl (TL.nil ?_))
      exact ⟨_,(some_in hX).symm,b26,b32,rfl,(Nd.pick nd (is:=[2,3]) Dc),(HSub.pick nd (is:=[2,3]) Dc)⟩
    ·refine DR2 rfl rfl ?_
     refine TLc.alO (l:=[Enc.v ((0:Int):Int),Enc.v ((0:Int):Int),.nils,Enc.v false]) nd ty54 ti54_z rfl rfl fun b47 nd=>?_
     refine TL.nil ⟨_,[(b47,RV 54 [Enc.v ((0:Int):Int),Enc.v ((0:Int):Int),.nils,Enc.v false])],rfl,rfl,HSub_app nd,?_⟩
     obtain ⟨r48,hr48,hX⟩:=bind_some hX
     refine DR2 rfl rfl ?_
     refine TL.tcX [] [(b47,RV 54 [Enc.v ((0:Int):Int),Enc.v ((0:Int):Int),.nils,Enc.v false]),(b43,RV 54 [Enc.v e42.Label,Enc.v e42.Cap,Enc.v e42.Blocks,Enc.v e42.Lost]),(b26,RV 50 [Enc.v c27,Enc.v ((wr ((data1.length:Int)+x34)):Int),Enc.v c29,Enc.v c30,Enc.v c31]),(b32,RT (α:=Tape_api) 54 25 5 b32 allT out33)] rfl nd (dlt rfl) rfl ⟨rfl,⟨rfl,⟨rfl,⟨rfl,trivial⟩⟩⟩⟩ (ok_group_tape_os e42 (Seal_api.mk c27 (wr ((data1.length:Int)+x34)) c29 c30 c31) e46 (Nd.take nd 0 rfl) _ hr48) ?_
     rintro _ _ hQ nd
     obtain ⟨b49,rfl,rfl⟩:=hQ
     refine TL.nil ⟨_,[(b49,RD (β:=UInt8) 25 5 b49 r48.1.Blocks),(b47,RV 54 [Enc.v ((0:Int):Int),Enc.v ((0:Int):Int),.nils,Enc.v false])],rfl,rfl,HSub_app nd,?_⟩
     refine DM rfl rfl rfl ?_
     refine D0 rfl (p_ex rfl rfl Dc) rfl rfl ?_
     refine D0 rfl (p_ex rfl rfl Dc) rfl rfl ?_
     refine DR2n rfl ?_
     refine TLc.stV (lu:=[Enc.v r48.1.Label,Enc.v r48.1.Cap,OL (α:=(List UInt8)) b49 r48.1.Blocks,Enc.v r48.1.Lost]) nd ty54 rfl (j:=1) rfl rfl rfl (Cells_agg rfl (allA.mem ⟨trivial,trivial,oneA_rs (refOK_of nd (j:=0) rfl rfl),trivial,trivial⟩)) rfl rfl [Enc.v r48.1.Label,Enc.v r48.1.Cap,OL (α:=(List UInt8)) b49 r48.1.Blocks,Enc.v r48.1.Lost] rfl fun nd=>?_
     refine TL.nil ⟨.nilp,[(b49,RD (β:=UInt8) 25 5 b49 r48.1.Blocks),(b47,RV 54 [Enc.v r48.1.Label,Enc.v r48.1.Cap,OL (α:=(List UInt8)) b49 r48.1.Blocks,Enc.v r48.1.Lost])],rfl,rfl,HSub_app nd,?_⟩
     refine DM rfl rfl rfl ?_
     refine DRend ?_
     refine hK45 _ _ ?_
     refine TK.seq_k fun K50 hK50=>?_
     refine SR fun K51 hK51=>M rfl rfl (P1 (p_neq rfl rfl) rfl rfl (TL.nil (hK51 _ _ ?_)))
     refine TK.cond (b:=(r48.2 !=(0:Int))) rfl (fun hc=>?_) (fun hc=>?_)
     ·have hX:=ite_t hc hX
      refine SR fun K52 hK52=>M rfl rfl (M rfl rfl (M rfl rfl (TL.nil (hK52 _ _ ?_))))
      refine TK.ownL (α:=Tape_api) 6 54 nd rfl (.inl rfl) fun b53 nd=>?_
      refine TK.toT (α:=Tape_api) 25 5 allT nd (j:=0) rfl fun nd=>?_
      refine TK.pick [0] nd Dc fun nd=>?_
      refine TK.ret ?_
      obtain rfl:=hR25 _ (some_in hX).symm
      replace hX:=hA25
      try dsimp only[thenQ]
      exact retX (v:= .tup 2 (ofL [OL (α:=Tape_api) b53 ([]:List Tape_api),Enc.v r48.2])) (resN (vs:=[OL (α:=Tape_api) b53 ([]:List Tape_api),Enc.v r48.2]) ⟨rfl,rfl,trivial⟩) (by obtain rfl:=some_in hX;exact ⟨b53,rfl,rfl⟩) nd (inH_tup (l:=[OL (α:=Tape_api) b53 ([]:List Tape_api),Enc.v r48.2]) ⟨inH_rs nd (j:=0) rfl,inH_val (v_val _),trivial⟩) ⟨rowIn_RT (α:=Tape_api) (ty:=54) (t1:=25) (t2:=5) (b:=b53) (pf:=allT) (xs:=([]:List Tape_api)),trivial⟩
     ·have hX:=ite_f hc hX
      refine TK.skip ?_
      refine hK50 _ _ ?_
      refine TK.reg ?_
      refine M rfl rfl (P1 (p_ldVa (l':=[Enc.v r48.1.Label,Enc.v r48.1.Cap,OL (α:=(List UInt8)) b49 r48.1.Blocks,Enc.v r48.1.Lost]) ty54 rfl rfl nd (j:=1) rfl rfl rfl rfl (Nat.le_of_ble_eq_true rfl)) rfl rfl ?_)
      refine TLc.litT (l:=[Enc.v r48.1.Label,Enc.v r48.1.Cap,OL (α:=(List UInt8)) b49 r48.1.Blocks,Enc.v r48.1.Lost]) kd48 ty54 rfl rfl rfl rfl rfl rfl ?_
      obtain ⟨u54,hu54,hX⟩:=bind_some hX
      refine TLc.appT (a:=r48.1) nd kd48 bo48 ty54 rfl rfl (j:=4) rfl (j2:=0) rfl rfl rfl Dc (need_t hu54) rfl rfl fun nd=>?_
      refine M rfl rfl (TL.nil (hK40 _ _ ?_))
      refine TK.pushU (h:=[(b49,RD (β:=UInt8) 25 5 b49 r48.1.Blocks),(b47,RV 54 [Enc.v r48.1.Label,Enc.v r48.1.Cap,OL (α:=(List UInt8)) b49 r48.1.Blocks,Enc.v r48.1.Lost]),(b43,RV 54 [Enc.v e42.Label,Enc.v e42.Cap,Enc.v e42.Blocks,Enc.v e42.Lost]),(b26,RV 50 [Enc.v c27,Enc.v ((wr ((data1.length:Int)+x34)):Int),Enc.v c29,Enc.v c30,Enc.v c31]),(b32,rowC (RT (α:=Tape_api) 54 25 5 b32 allT (out33++([r48.1]:List Tape_api))) (out33.length*Enc.sz Tape_api+DS.o Tape_api) (OL (α:=(List UInt8)) b49 r48.1.Blocks))]) (he:=by repeat first|refine NoE.c ?_|refine NoE.p ?_|infer_instance) nd (j:=4) rfl (j2:=0) rfl rfl rfl rfl fun nd=>?_
      refine TK.reg ?_
      refine P1 (p_add rfl rfl) rfl rfl (M rfl rfl (TL.nil ?_))
      exact ⟨_,(some_in hX).symm,b26,b32,rfl,(Nd.pick nd (is:=[2,3]) Dc),(HSub.pick nd (is:=[2,3]) Dc)⟩
   ·have hX:=ite_f hc hX
    refine TK.exit ?_
    obtain rfl:=hR25 _ (some_in hX).symm
    exact E25 out33 _ _ ⟨b32,rfl,(Nd.pick nd (is:=[1]) Dc),(HSub.pick nd (is:=[1]) Dc)⟩ hA25
theorem ok_cartridgelaw14_GroupKnows (parity1:Int) (lost2:(List Int)) (rot3:(List Int)) (r:Bool) (hX:X.cartridgelaw14_GroupKnows parity1 lost2 rot3=some r):Fun Try.prog 10 [Enc.v (parity1:Int),Enc.v (lost2:(List Int)),Enc.v (rot3:(List Int))] (·=Enc.v (r:Bool)):=by
 refine Fun.of b10 (Nat.le_of_ble_eq_true rfl) (allVal.mem ⟨(by exact (v_val _)),(by exact (v_val _)),(by exact (v_val _)),trivial⟩) ?_
 unfold k10
 have nd:Nd []:=Nd_nil
 unfold X.cartridgelaw14_GroupKnows at hX
 refine SR fun K4 hK4=>M rfl rfl (TL.nil (hK4 _ _ (SR fun K5 hK5=>?_)))
 obtain ⟨r6,hr6,hX⟩:=bind_some hX
 refine TL.cvX rfl rfl rfl (fun _=>⟨rfl,trivial⟩) (fun e=>ok_cartridgelaw14_alive _ hr6) ?_
 refine M rfl rfl (TL.nil (hK5 _ _ ?_))
 refine TK.seq_k fun K7 hK7=>?_
 refine SR fun K8 hK8=>M rfl rfl (P1 (p_not rfl) rfl rfl (M rfl rfl ?_))
 refine TLc.p (gc:=(!((!r6)))) (p_mv rfl (hg:=fun e=>rfl)) (gcF1 rfl) rfl ?_
 refine TLc.p (gc:=(!((!r6)))) (p_lss rfl rfl (hg:=fun e=>⟨e,rfl⟩)) (gcF1 rfl) rfl ?_
 refine P1 (p_or rfl rfl (fun e=>⟨rfl,fun h=>(not_t h)⟩)) rfl rfl (M rfl rfl ?_)
 refine TLc.p (gc:=(!(((!r6)||(decide (parity1<(1:Int))))))) (p_mv rfl (hg:=fun e=>rfl)) (gcF1 rfl) rfl ?_
 refine TLc.p (gc:=(!(((!r6)||(decide (parity1<(1:Int))))))) (p_gtr rfl rfl (hg:=fun e=>⟨e,rfl⟩)) (gcF1 rfl) rfl ?_
 refine P1 (p_or rfl rfl (fun e=>⟨rfl,fun h=>(not_t h)⟩)) rfl rfl (M rfl rfl ?_)
 refine TLc.p (gc:=(!((((!r6)||(decide (parity1<(1:Int))))||(decide (parity1>(6:Int))))))) (p_mv rfl (hg:=fun e=>rfl)) (gcF1 rfl) rfl ?_
 refine TLc.p (gc:=(!((((!r6)||(decide (parity1<(1:Int))))||(decide (parity1>(6:Int))))))) (p_lenL (xs:=lost2) kd47 rfl (hg:=fun e=>e)) (gcF1 rfl) rfl ?_
 refine TLc.p (gc:=(!((((!r6)||(decide (parity1<(1:Int))))||(decide (parity1>(6:Int))))))) (p_gtr rfl rfl (hg:=fun e=>⟨e,rfl⟩)) (gcF1 rfl) rfl ?_
 refine P1 (p_or rfl rfl (fun e=>⟨rfl,fun h=>(not_t h)⟩)) rfl rfl (M rfl rfl ?_)
 refine TLc.p (gc:=(!(((((!r6)||(decide (parity1<(1:Int))))||(decide (parity1>(6:Int))))||(decide ((lost2.length:Int)>(10:Int))))))) (p_mv rfl (hg:=fun e=>rfl)) (gcF1 rfl) rfl ?_
 refine TLc.p (gc:=(!(((((!r6)||(decide (parity1<(1:Int))))||(decide (parity1>(6:Int))))||(decide ((lost2.length:Int)>(10:Int))))))) (p_lenL (xs:=rot3) kd47 rfl (hg:=fun e=>e)) (gcF1 rfl) rfl ?_
 refine TLc.p (gc:=(!(((((!r6)||(decide (parity1<(1:Int))))||(decide (parity1>(6:Int))))||(decide ((lost2.length:Int)>(10:Int))))))) (p_gtr rfl rfl (hg:=fun e=>⟨e,rfl⟩)) (gcF1 rfl) rfl ?_
 refine P1 (p_or rfl rfl (fun e=>⟨rfl,fun h=>(not_t h)⟩)) rfl rfl (TL.nil (hK8 _ _ ?_))
 refine TK.cond (b:=(((((!r6)||(decide (parity1<(1:Int))))||(decide (parity1>(6:Int))))||(decide ((lost2.length:Int)>(10:Int))))||(decide ((rot3.length:Int)>(10:Int))))) rfl (fun hc=>?_) (fun hc=>?_)
 ·have hX:=ite_t hc hX
  refine SR fun K9 hK9=>M rfl rfl (M rfl rfl (TL.nil (hK9 _ _ ?_)))
  refine TK.ret ?_
  try dsimp only[thenQ]
  exact R1 rfl hX
 ·have hX:=ite_f hc hX
  refine TK.skip ?_
  refine hK7 _ _ (SR fun K10 hK10=>?_)
  refine TLc.litO nd ([(68:UInt8)]:List UInt8) kd25 ty5 rfl ⟨⟨rfl,rfl⟩,trivial⟩ rfl rfl rfl fun b11 nd=>?_
  refine TLc.cvtF (xs:=([(68:UInt8)]:List UInt8)) nd kd25 kd5 rfl (j:=0) rfl (by simp) rfl fun nd=>?_
  refine P1 (p_bld (l:=Enc.cl ((Unit_api.mk (1:Int) (1:Int) (0:Int) ([(68:UInt8)]:List UInt8)):Unit_api)) ty68 rfl all68 rfl (fun _=>⟨⟨rfl,trivial,rfl⟩,⟨rfl,trivial,rfl⟩,⟨rfl,trivial,rfl⟩,trivial⟩)) rfl rfl ?_
  obtain ⟨r12,hr12,hX⟩:=bind_some hX
  refine TL.cvX rfl rfl rfl (fun _=>⟨rfl,⟨rfl,trivial⟩⟩) (fun e=>ok_cartridgeref1_PutFrame (Unit_api.mk (1:Int) (1:Int) (0:Int) ([(68:UInt8)]:List UInt8)) _ hr12) ?_
  refine M rfl rfl (P1 (p_ex rfl rfl Dc) rfl rfl (P1 (p_ex rfl rfl Dc) rfl rfl (M rfl rfl (M rfl rfl (TL.nil (hK10 _ _ (SR fun K13 hK13=>M rfl rfl (TL.nil (hK13 _ _ ?_)))))))))
  refine TK.ownL (α:=Tape_api) 10 54 nd rfl (.inl rfl) fun b14 nd=>?_
  refine TK.seq_k fun K15 hK15=>?_
  refine SR fun K16 hK16=>M rfl rfl (TL.nil (hK16 _ _ ?_))
  refine TK.block ?_
  obtain ⟨o17,hO17,hA17⟩:=bind_some hX
  have E17:∀(l22:List Tape_api) (env:Env) (h:Hp),(∃b21,keepE [0,1,2,8,10] env=[(0,true,Enc.v parity1),(1,true,Enc.v lost2),(2,true,Enc.v rot3),(8,true,Enc.v r12.1),(10,true,OL b21 l22)]∧Nd [(b21,RL (α:=Tape_api) 54 l22)]∧HSub [(b21,RL (α:=Tape_api) 54 l22)] h)→X.cartridgelaw14_GroupKnows_e17 r12 parity1 lost2 rot3 l22=some r→K15 env h:=by
   intro l22 env h hE hX
   obtain ⟨b21,henv,nd,hs⟩:=hE
   unfold X.cartridgelaw14_GroupKnows_e17 at hX
   refine hK15 _ _ (TK.keep [0,1,2,8,10] ?_)
   rw[henv]
   refine TK.subH hs ?_
   refine SR fun K23 hK23=>M rfl rfl ?_
   refine TLc.lit ([r12.1]:List (List UInt8)) kd22 ty25 rfl ⟨⟨rfl,rfl⟩,trivial⟩ rfl rfl rfl ?_
   refine P1 (p_bld (l:=Enc.cl ((Tape_api.mk (1:Int) (5:Int) ([r12.1]:List (List UInt8)) false):Tape_api)) ty54 rfl all54 rfl (fun _=>⟨⟨rfl,trivial,rfl⟩,⟨rfl,trivial,rfl⟩,⟨rfl,trivial,rfl⟩,trivial⟩)) rfl rfl ?_
   refine TLc.lit ([(Tape_api.mk (1:Int) (5:Int) ([r12.1]:List (List UInt8)) false)]:List Tape_api) kd48 ty54 rfl ⟨⟨rfl,rfl⟩,trivial⟩ rfl rfl rfl ?_
   refine M rfl rfl ?_
   refine TL.lay [(67,L l22)] nd (j:=0) rfl ⟨⟨_,rfl,fix_OL nd (j:=0) rfl,rfl⟩,trivial⟩ fun nd=>?_
   obtain ⟨r24,hr24,hX⟩:=bind_some hX
   refine TL.tcX [] [] rfl nd (dlt rfl) rfl ⟨rfl,⟨rfl,⟨rfl,⟨rfl,trivial⟩⟩⟩⟩ (ok_group_Make_or ([(Tape_api.mk (1:Int) (5:Int) ([r12.1]:List (List UInt8)) false)]:List Tape_api) l22 (4:Int) (Nd.take nd 0 rfl) _ hr24) ?_
   rintro _ _ hQ nd
   obtain ⟨b25,rfl,rfl⟩:=hQ
   refine M rfl rfl (P1 (p_ex rfl rfl Dc) rfl rfl (P1 (p_ex rfl rfl Dc) rfl rfl (M rfl rfl (M rfl rfl (TL.nil (hK23 _ _ ?_))))))
   refine TK.seq_k fun K26 hK26=>?_
   refine SR fun K27 hK27=>M rfl rfl ?_
   obtain ⟨r28,hr28,hX⟩:=bind_some hX
   refine TL.cvX rfl rfl rfl (fun _=>⟨rfl,⟨rfl,trivial⟩⟩) (fun e=>ok_cartridgelaw14_num r24.2 _ hr28) ?_
   refine P1 (p_neq rfl rfl) rfl rfl (M rfl rfl ?_)
   refine TLc.p (gc:=(!((r28 !=(0:Int))))) (p_mv rfl (hg:=fun e=>rfl)) (gcF1 rfl) rfl ?_
   refine TLc.p (gc:=(!((r28 !=(0:Int))))) (p_lenR kd48 rfl (fun _=>refOK_of nd (j:=0) rfl rfl) (hg:=fun e=>e)) (gcF1 rfl) rfl ?_
   refine TLc.p (gc:=(!((r28 !=(0:Int))))) (p_mv rfl (hg:=fun e=>rfl)) (gcF1 rfl) rfl ?_
   refine TLc.p (gc:=(!((r28 !=(0:Int))))) (p_neq rfl rfl (hg:=fun e=>⟨e,e⟩)) (gcF1 rfl) rfl ?_
   refine P1 (p_or rfl rfl (fun e=>⟨rfl,fun h=>(not_t h)⟩)) rfl rfl (TL.nil (hK27 _ _ ?_))
   refine TK.cond (b:=((r28 !=(0:Int))||((r24.1.length:Int) !=parity1))) rfl (fun hc=>?_) (fun hc=>?_)
   ·have hX:=ite_t hc hX
    refine SR fun K29 hK29=>M rfl rfl (TL.nil (hK29 _ _ ?_))
    refine TK.ret ?_
    try dsimp only[thenQ]
    exact R1 rfl hX
   ·have hX:=ite_f hc hX
    refine TK.skip ?_
    refine hK26 _ _ (SR fun K30 hK30=>M rfl rfl ?_)
    obtain ⟨u31,hu31,hX⟩:=bind_some hX
    refine TLc.mkO nd false kd56 ty4 rfl (fun j hj=>by (have:j=0:=by simpa[Enc.sz] using hj);subst this;rfl) rfl rfl Dc (need_t hu31) rfl fun b32 nd=>?_
    refine M rfl rfl (TL.nil (hK30 _ _ ?_))
    refine TK.seq_k fun K33 hK33=>?_
    refine SR fun K34 hK34=>M rfl rfl (TL.nil (hK34 _ _ ?_))
    refine TK.block ?_
    obtain ⟨o35,hO35,hA35⟩:=bind_some hX
    have E35:∀(l42:List Tape_api) (l44:List Bool) (env:Env) (h:Hp),(∃b41 b43,keepE [0,2,12,14] env=[(0,true,Enc.v parity1),(2,true,Enc.v rot3),(12,true,OL b41 l42),(14,true,OL b43 l44)]∧Nd [(b41,RT (α:=Tape_api) 54 25 5 b41 allT l42),(b43,RL (α:=Bool) 4 l44)]∧HSub [(b41,RT (α:=Tape_api) 54 25 5 b41 allT l42),(b43,RL (α:=Bool) 4 l44)] h)→X.cartridgelaw14_GroupKnows_e35 rot3 parity1 l42 l44=some r→K33 env h:=by
     intro l42 l44 env h hE hX
     obtain ⟨b41,b43,henv,nd,hs⟩:=hE
     unfold X.cartridgelaw14_GroupKnows_e35 at hX
     refine hK33 _ _ (TK.keep [0,2,12,14] ?_)
     rw[henv]
     refine TK.subH hs ?_
     refine TK.seq_k fun K45 hK45=>?_
     refine SR fun K46 hK46=>M rfl rfl (TL.nil (hK46 _ _ ?_))
     refine TK.block ?_
     obtain ⟨o47,hO47,hA47⟩:=bind_some hX
     have E47:∀(l54:List Tape_api) (l56:List Bool) (env:Env) (h:Hp),(∃b53 b55,keepE [0,12,14] env=[(0,true,Enc.v parity1),(12,true,OL b53 l54),(14,true,OL b55 l56)]∧Nd [(b53,RT (α:=Tape_api) 54 25 5 b53 allT l54),(b55,RL (α:=Bool) 4 l56)]∧HSub [(b53,RT (α:=Tape_api) 54 25 5 b53 allT l54),(b55,RL (α:=Bool) 4 l56)] h)→X.cartridgelaw14_GroupKnows_e47 parity1 l54 l56=some r→K45 env h:=by
      intro l54 l56 env h hE hX
      obtain ⟨b53,b55,henv,nd,hs⟩:=hE
      unfold X.cartridgelaw14_GroupKnows_e47 at hX
      refine hK45 _ _ (TK.keep [0,12,14] ?_)
      rw[henv]
      refine TK.subH hs ?_
      refine SR fun K57 hK57=>M rfl rfl (TL.nil (hK57 _ _ ?_))
      refine TK.seq_k fun K58 hK58=>?_
      refine SR fun K59 hK59=>M rfl rfl (TL.nil (hK59 _ _ ?_))
      refine TK.block ?_
      obtain ⟨o60,hO60,hA60⟩:=bind_some hX
      have E60:∀(any66:Bool) (env:Env) (h:Hp),(∃b65,keepE [12,19] env=[(12,true,OL b65 l54),(19,true,Enc.v any66)]∧Nd [(b65,RT (α:=Tape_api) 54 25 5 b65 allT l54)]∧HSub [(b65,RT (α:=Tape_api) 54 25 5 b65 allT l54)] h)→X.cartridgelaw14_GroupKnows_e60 l54 any66=some r→K58 env h:=by
       intro any66 env h hE hX
       obtain ⟨b65,henv,nd,hs⟩:=hE
       unfold X.cartridgelaw14_GroupKnows_e60 at hX
       refine hK58 _ _ (TK.keep [12,19] ?_)
       rw[henv]
       refine TK.subH hs ?_
       refine TK.seq_k fun K67 hK67=>?_
       refine TK.layT (h:=[(b65,RT (α:=Tape_api) 54 25 5 b65 allT l54)]) (he:=by repeat first|refine NoE.c ?_|refine NoE.p ?_|infer_instance) [12] nd (j:=0) rfl ⟨⟨rfl,rfl⟩,trivial⟩ fun nd=>?_
       refine TK.reg ?_
       refine M rfl rfl ?_
       obtain ⟨r68,hr68,hX⟩:=bind_some hX
       refine TL.cvX rfl rfl rfl (fun _=>⟨rfl,⟨rfl,trivial⟩⟩) (fun e=>ok_group_Find l54 _ hr68) ?_
       refine M rfl rfl (TL.nil (hK67 _ _ (SR fun K69 hK69=>M rfl rfl (P1 (p_lenL (xs:=r68) kd71 rfl) rfl rfl (P1 (p_eql rfl rfl) rfl rfl (M rfl rfl (P1 (p_eqB kd4 rfl rfl) rfl rfl (M rfl rfl ?_))))))))
       refine TLc.p (gc:=((((r68.length:Int)==(1:Int))==any66))) (p_mv rfl (hg:=fun e=>rfl)) (gcT1 rfl) rfl ?_
       refine TLc.p (gc:=((((r68.length:Int)==(1:Int))==any66))) (p_not rfl (hg:=fun e=>e)) (gcT1 rfl) rfl ?_
       refine TLc.p (gc:=((((r68.length:Int)==(1:Int))==any66))) (p_mv rfl (hg:=fun e=>e)) (gcT1 rfl) rfl ?_
       refine TLc.p (gc:=(((((r68.length:Int)==(1:Int))==any66))&&(!((!any66))))) (p_mv rfl (hg:=fun e=>rfl)) (gcF rfl) rfl ?_
       obtain ⟨e70,he70,hX⟩:=bind_some hX
       refine TLc.p (gc:=(((((r68.length:Int)==(1:Int))==any66))&&(!((!any66))))) (p_iaL (xs:=r68) kd71 ty50 rfl rfl rfl (fun e=>optG_t he70 e) (hg:=fun e=>⟨e,rfl⟩)) (gcF rfl) rfl ?_
       refine TLc.p (gc:=(((((r68.length:Int)==(1:Int))==any66))&&(!((!any66))))) (p_faE fs50_0 Dc rfl (hg:=fun e=>e)) (gcF rfl) rfl ?_
       refine TLc.p (gc:=(((((r68.length:Int)==(1:Int))==any66))&&(!((!any66))))) (p_ldE (xs:=r68) (a:=e70) (e70.Number:Int) ty3 rfl rfl (fun e=>optG_t he70 e) rfl rfl rfl (hg:=fun e=>e)) (gcF rfl) rfl ?_
       refine TLc.p (gc:=(((((r68.length:Int)==(1:Int))==any66))&&(!((!any66))))) (p_eql rfl rfl (hg:=fun e=>⟨e,rfl⟩)) (gcF rfl) rfl ?_
       refine TLc.p (gc:=((((r68.length:Int)==(1:Int))==any66))) (p_or rfl rfl (fun e=>⟨e,fun h=>(and_i e (not_t h))⟩)) (gcT1 rfl) rfl ?_
       refine P1 (p_and rfl rfl (fun e=>⟨rfl,fun h=>h⟩)) rfl rfl (M rfl rfl (TL.nil (hK69 _ _ ?_)))
       refine TK.ret ?_
       try dsimp only[thenQ]
       exact R1 rfl hX
      refine TK.iter [0,12,14,19,20] (fun s env h=>match s with|(any63,i64)=>∃b61 b62,env=[(0,true,Enc.v parity1),(12,true,OL b61 l54),(14,true,OL b62 l56),(19,true,Enc.v any63),(20,true,Enc.v i64)]∧Nd [(b61,RT (α:=Tape_api) 54 25 5 b61 allT l54),(b62,RL (α:=Bool) 4 l56)]∧HSub [(b61,RT (α:=Tape_api) 54 25 5 b61 allT l54),(b62,RL (α:=Bool) 4 l56)] h) hO60 ⟨b53,b55,rfl,(Nd.pick nd (is:=[0,1]) Dc),(HSub.pick nd (is:=[0,1]) Dc)⟩ ?_
      rintro ⟨any63,i64⟩ env h x60x ⟨b61,b62,rfl,nd,hs⟩ hX hR60
      refine TK.subH hs ?_
      unfold X.cartridgelaw14_GroupKnows_s60 at hX
      try dsimp only at hX
      refine TK.seq_k fun K71 hK71=>?_
      refine SR fun K72 hK72=>M rfl rfl (M rfl rfl (P1 (p_lss rfl rfl) rfl rfl (TL.nil (hK72 _ _ ?_))))
      refine TK.cond (b:=(decide (i64<parity1))) rfl (fun hc=>?_) (fun hc=>?_)
      ·have hX:=ite_t hc hX
       refine TK.skip ?_
       refine hK71 _ _ ?_
       refine TK.seq_k fun K73 hK73=>?_
       refine TK.block ?_
       refine TK.reg ?_
       refine M rfl rfl (M rfl rfl ?_)
       refine TLc.p (gc:=(!any63)) (p_mv rfl (hg:=fun e=>rfl)) (gcF1 rfl) rfl ?_
       refine TLc.p (gc:=(!any63)) (p_mv rfl (hg:=fun e=>rfl)) (gcF1 rfl) rfl ?_
       obtain ⟨e74,he74,hX⟩:=bind_some hX
       refine TLc.p (gc:=(!any63)) (p_iaO (xs:=l56) kd56 ty4 rfl rfl rfl nd (j:=1) rfl (fun e=>optG_t he74 e) (hg:=fun e=>⟨e,e⟩)) (gcF1 rfl) rfl ?_
       refine TLc.p (gc:=(!any63)) (p_ldO (xs:=l56) (a:=e74) (e74:Bool) ty4 rfl rfl nd (j:=1) rfl (fun e=>optG_t he74 e) rfl rfl rfl (hg:=fun e=>e)) (gcF1 rfl) rfl ?_
       refine TLc.p (gc:=(!any63)) (p_not rfl (hg:=fun e=>e)) (gcF1 rfl) rfl ?_
       refine P1 (p_or rfl rfl (fun e=>⟨rfl,fun h=>(not_t h)⟩)) rfl rfl (M rfl rfl (TL.nil (hK73 _ _ ?_)))
       refine TK.reg ?_
       refine M rfl rfl (P1 (p_add rfl rfl) rfl rfl (M rfl rfl (TL.nil ?_)))
       exact ⟨_,(some_in hX).symm,b61,b62,rfl,(Nd.pick nd (is:=[0,1]) Dc),(HSub.pick nd (is:=[0,1]) Dc)⟩
      ·have hX:=ite_f hc hX
       refine TK.exit ?_
       obtain rfl:=hR60 _ (some_in hX).symm
       exact E60 any63 _ _ ⟨b61,rfl,(Nd.pick nd (is:=[0]) Dc),(HSub.pick nd (is:=[0]) Dc)⟩ hA60
     refine TK.iter [0,2,12,14,17] (fun s env h=>match s with|(l49,hurt51,i52)=>∃b48 b50,env=[(0,true,Enc.v parity1),(2,true,Enc.v rot3),(12,true,OL b48 l49),(14,true,OL b50 hurt51),(17,true,Enc.v i52)]∧Nd [(b48,RT (α:=Tape_api) 54 25 5 b48 allT l49),(b50,RL (α:=Bool) 4 hurt51)]∧HSub [(b48,RT (α:=Tape_api) 54 25 5 b48 allT l49),(b50,RL (α:=Bool) 4 hurt51)] h) hO47 ⟨b41,b43,rfl,(Nd.pick nd (is:=[0,1]) Dc),(HSub.pick nd (is:=[0,1]) Dc)⟩ ?_
     rintro ⟨l49,hurt51,i52⟩ env h x47x ⟨b48,b50,rfl,nd,hs⟩ hX hR47
     refine TK.subH hs ?_
     unfold X.cartridgelaw14_GroupKnows_s47 at hX
     try dsimp only at hX
     refine TK.seq_k fun K75 hK75=>?_
     refine SR fun K76 hK76=>M rfl rfl (M rfl rfl (P1 (p_lenL (xs:=rot3) kd47 rfl) rfl rfl (P1 (p_lss rfl rfl) rfl rfl (TL.nil (hK76 _ _ ?_)))))
     refine TK.cond (b:=(decide (i52<(rot3.length:Int)))) rfl (fun hc=>?_) (fun hc=>?_)
     ·have hX:=ite_t hc hX
      refine TK.skip ?_
      refine hK75 _ _ ?_
      refine TK.seq_k fun K77 hK77=>?_
      have J77:∀(l79:List Tape_api) (l81:List Bool) (env:Env) (h:Hp),(∃b78 b80,keepE [0,2,12,14,17] env=[(0,true,Enc.v parity1),(2,true,Enc.v rot3),(12,true,OL b78 l79),(14,true,OL b80 l81),(17,true,Enc.v i52)]∧Nd [(b78,RT (α:=Tape_api) 54 25 5 b78 allT l79),(b80,RL (α:=Bool) 4 l81)]∧HSub [(b78,RT (α:=Tape_api) 54 25 5 b78 allT l79),(b80,RL (α:=Bool) 4 l81)] h)→X.cartridgelaw14_GroupKnows_j77 i52 l79 l81=some x47x→K77 env h:=by
       intro l79 l81 env h hE hX
       obtain ⟨b78,b80,henv,nd,hs⟩:=hE
       unfold X.cartridgelaw14_GroupKnows_j77 at hX
       refine hK77 _ _ (TK.keep [0,2,12,14,17] ?_)
       rw[henv]
       refine TK.subH hs ?_
       refine TK.reg ?_
       refine M rfl rfl (P1 (p_add rfl rfl) rfl rfl (M rfl rfl (TL.nil ?_)))
       exact ⟨_,(some_in hX).symm,b78,b80,rfl,(Nd.pick nd (is:=[0,1]) Dc),(HSub.pick nd (is:=[0,1]) Dc)⟩
      refine TK.block ?_
      refine SR fun K82 hK82=>M rfl rfl (M rfl rfl ?_)
      obtain ⟨e83,he83,hX⟩:=bind_some hX
      refine P1 (p_iaL (xs:=rot3) kd47 ty3 rfl rfl rfl (fun _=>he83)) rfl rfl (P1 (p_ldE (xs:=rot3) (a:=e83) (e83:Int) ty3 rfl rfl (fun _=>he83) rfl rfl rfl) rfl rfl (P1 (p_and64 rfl rfl) rfl rfl (M rfl rfl ?_)))
      obtain ⟨u84,hu84,hX⟩:=bind_some hX
      refine P1 (p_rem rfl rfl (fun _=>need_t hu84)) rfl rfl (M rfl rfl (TL.nil (hK82 _ _ ?_)))
      refine TK.seq_k fun K85 hK85=>?_
      refine TK.seq_k fun K86 hK86=>?_
      obtain ⟨e87,he87,hX⟩:=bind_some hX
      refine TK.pullT (h:=[(b48,RT (α:=Tape_api) 54 25 5 b48 allT l49),(b50,RL (α:=Bool) 4 hurt51)]) (he:=by repeat first|refine NoE.c ?_|refine NoE.p ?_|infer_instance) nd ((and64 e83 (1023:Int)).tmod parity1).toNat (j:=0) rfl (getI_in he87).2.2 rfl fun b88 nd=>?_
      obtain ⟨e89,he89,hX⟩:=bind_some hX
      refine TK.pullI (h:=[(b88,RDa (β:=UInt8) 25 5 b48 [((and64 e83 (1023:Int)).tmod parity1).toNat] e87.Blocks),(b48,rowC (RT (α:=Tape_api) 54 25 5 b48 allT l49) ((((and64 e83 (1023:Int)).tmod parity1).toNat)*Enc.sz Tape_api+DS.o Tape_api) (OL (α:=(List UInt8)) b88 e87.Blocks)),(b50,RL (α:=Bool) 4 hurt51)]) (he:=by repeat first|refine NoE.c ?_|refine NoE.p ?_|infer_instance) nd (2:Int).toNat (j:=0) rfl (j2:=1) rfl (getI_in he89).2.2 fun b90 nd=>?_
      refine TK.reg ?_
      refine M rfl rfl (M rfl rfl ?_)
      obtain ⟨e91,he91,hX⟩:=bind_some hX
      refine P1 (p_iaD (xs:=l49) kd48 ty54 rfl rfl rfl nd (j:=2) rfl rfl (fun _=>he91)) rfl rfl (P1 (p_faT (xs:=l49) fs54_2 Dc rfl nd (j:=2) rfl rfl) rfl rfl (P1 (p_ldT (xs:=l49) (i:=((and64 e83 (1023:Int)).tmod parity1)) (o:=2) ty22 rfl rfl nd (j:=2) rfl rfl (fun _=>he91) rfl rfl rfl) rfl rfl (P1 (p_lenR kd22 rfl (fun _=>refOK_of nd (j:=1) rfl rfl)) rfl rfl ?_)))
      refine P1 (p_neq rfl rfl) rfl rfl (M rfl rfl ?_)
      refine TLc.p (gc:=(!(((e87.Blocks.length:Int) !=(3:Int))))) (p_mv rfl (hg:=fun e=>rfl)) (gcF1 rfl) rfl ?_
      refine TLc.p (gc:=(!(((e87.Blocks.length:Int) !=(3:Int))))) (p_mv rfl (hg:=fun e=>rfl)) (gcF1 rfl) rfl ?_
      obtain ⟨e92,he92,hX⟩:=bind_some hX
      refine TLc.p (gc:=(!(((e87.Blocks.length:Int) !=(3:Int))))) (p_iaD (xs:=l49) kd48 ty54 rfl rfl rfl nd (j:=2) rfl rfl (fun e=>optG_t he92 e) (hg:=fun e=>⟨e,e⟩)) (gcF1 rfl) rfl ?_
      refine TLc.p (gc:=(!(((e87.Blocks.length:Int) !=(3:Int))))) (p_faT (xs:=l49) fs54_2 Dc rfl nd (j:=2) rfl rfl (hg:=fun e=>e)) (gcF1 rfl) rfl ?_
      refine TLc.p (gc:=(!(((e87.Blocks.length:Int) !=(3:Int))))) (p_ldT (xs:=l49) (i:=((and64 e83 (1023:Int)).tmod parity1)) (o:=2) ty22 rfl rfl nd (j:=2) rfl rfl (fun e=>optG_t he92 e) rfl rfl rfl (hg:=fun e=>e)) (gcF1 rfl) rfl ?_
      obtain ⟨e93,he93,hX⟩:=bind_some hX
      refine TLc.p (gc:=(!(((e87.Blocks.length:Int) !=(3:Int))))) (p_iaD (xs:=e87.Blocks) kd22 ty25 rfl rfl rfl nd (j:=1) rfl rfl (fun e=>optG_t he93 e) (hg:=fun e=>⟨e,rfl⟩)) (gcF1 rfl) rfl ?_
      refine TLc.p (gc:=(!(((e87.Blocks.length:Int) !=(3:Int))))) (p_ldC (xs:=e87.Blocks) (i:=(2:Int)) ty25 rfl rfl nd (j:=1) rfl rfl (fun e=>optG_t he93 e) rfl rfl (hg:=fun e=>e)) (gcF1 rfl) rfl ?_
      refine TLc.p (gc:=(!(((e87.Blocks.length:Int) !=(3:Int))))) (p_lenR kd25 rfl (fun _=>refOK_of nd (j:=0) rfl rfl) (hg:=fun e=>e)) (gcF1 rfl) rfl ?_
      refine TLc.p (gc:=(!(((e87.Blocks.length:Int) !=(3:Int))))) (p_neq rfl rfl (hg:=fun e=>⟨e,rfl⟩)) (gcF1 rfl) rfl ?_
      refine P1 (p_or rfl rfl (fun e=>⟨rfl,fun h=>(not_t h)⟩)) rfl rfl (TL.nil (hK86 _ _ ?_))
      refine TK.pushI (h:=[(b90,RL (α:=UInt8) 5 e89),(b88,rowC (RDa (β:=UInt8) 25 5 b48 [((and64 e83 (1023:Int)).tmod parity1).toNat] e87.Blocks) ((2:Int).toNat) (OL b90 e89)),(b48,rowC (RT (α:=Tape_api) 54 25 5 b48 allT l49) ((((and64 e83 (1023:Int)).tmod parity1).toNat)*Enc.sz Tape_api+DS.o Tape_api) (OL (α:=(List UInt8)) b88 e87.Blocks)),(b50,RL (α:=Bool) 4 hurt51)]) (he:=by repeat first|refine NoE.c ?_|refine NoE.p ?_|infer_instance) nd ((2:Int).toNat) (j:=1) rfl (j2:=2) rfl (j3:=0) rfl rfl rfl (by simp) (by have:=getI_in he89;omega) fun nd=>?_
      refine TK.cv 119 (OL b88 (e87.Blocks.set ((2:Int).toNat) e89)) rfl (Wk_eq (OL_len (by simp))) ?_
      refine TK.pushT (h:=[(b88,RDa (β:=UInt8) 25 5 b48 [((and64 e83 (1023:Int)).tmod parity1).toNat] (e87.Blocks.set ((2:Int).toNat) e89)),(b48,rowC (RT (α:=Tape_api) 54 25 5 b48 allT l49) ((((and64 e83 (1023:Int)).tmod parity1).toNat)*Enc.sz Tape_api+DS.o Tape_api) (OL (α:=(List UInt8)) b88 e87.Blocks)),(b50,RL (α:=Bool) 4 hurt51)]) (he:=by repeat first|refine NoE.c ?_|refine NoE.p ?_|infer_instance) nd (((and64 e83 (1023:Int)).tmod parity1).toNat) (j:=1) rfl (j2:=0) rfl rfl (by simp) (getI_in he87).2.2 rfl fun nd=>?_
      refine TK.cv 12 (OL b48 (l49.set (((and64 e83 (1023:Int)).tmod parity1).toNat) (Tape_api.mk e87.Label e87.Cap (e87.Blocks.set ((2:Int).toNat) e89) e87.Lost))) rfl (Wk_eq (OL_len (by simp))) ?_
      refine TK.cv 115 (OL b48 (l49.set (((and64 e83 (1023:Int)).tmod parity1).toNat) (Tape_api.mk e87.Label e87.Cap (e87.Blocks.set ((2:Int).toNat) e89) e87.Lost))) rfl (Wk_eq (OL_len (by simp))) ?_
      refine TK.cond (b:=(((e87.Blocks.length:Int) !=(3:Int))||((e89.length:Int) !=(79:Int)))) rfl (fun hc=>?_) (fun hc=>?_)
      ·have hX:=ite_t hc hX
       refine SR fun K94 hK94=>M rfl rfl (TL.nil (hK94 _ _ ?_))
       refine TK.ret ?_
       obtain rfl:=hR47 _ (some_in hX).symm
       replace hX:=hA47
       try dsimp only[thenQ]
       exact R1 rfl hX
      ·have hX:=ite_f hc hX
       refine TK.skip ?_
       refine hK85 _ _ (SR fun K95 hK95=>M rfl rfl (M rfl rfl ?_))
       obtain ⟨e96,he96,hX⟩:=bind_some hX
       refine P1 (p_iaO (xs:=hurt51) kd56 ty4 rfl rfl rfl nd (j:=1) rfl (fun _=>he96)) rfl rfl (P1 (p_ldO (xs:=hurt51) (a:=e96) (e96:Bool) ty4 rfl rfl nd (j:=1) rfl (fun _=>he96) rfl rfl rfl) rfl rfl (P1 (p_not rfl) rfl rfl (TL.nil (hK95 _ _ ?_))))
       refine TK.cond (b:=(!e96)) rfl (fun hc=>?_) (fun hc=>?_)
       ·have hX:=ite_t hc hX
        refine TK.seq_k fun K97 hK97=>?_
        obtain ⟨e98,he98,hX⟩:=bind_some hX
        refine TK.pullT (h:=[(b48,RT (α:=Tape_api) 54 25 5 b48 allT (l49.set (((and64 e83 (1023:Int)).tmod parity1).toNat) (Tape_api.mk e87.Label e87.Cap (e87.Blocks.set ((2:Int).toNat) e89) e87.Lost))),(b50,RL (α:=Bool) 4 hurt51)]) (he:=by repeat first|refine NoE.c ?_|refine NoE.p ?_|infer_instance) nd ((and64 e83 (1023:Int)).tmod parity1).toNat (j:=0) rfl (getI_in he98).2.2 rfl fun b99 nd=>?_
        obtain ⟨e100,he100,hX⟩:=bind_some hX
        refine TK.pullI (h:=[(b99,RDa (β:=UInt8) 25 5 b48 [((and64 e83 (1023:Int)).tmod parity1).toNat] e98.Blocks),(b48,rowC (RT (α:=Tape_api) 54 25 5 b48 allT (l49.set (((and64 e83 (1023:Int)).tmod parity1).toNat) (Tape_api.mk e87.Label e87.Cap (e87.Blocks.set ((2:Int).toNat) e89) e87.Lost))) ((((and64 e83 (1023:Int)).tmod parity1).toNat)*Enc.sz Tape_api+DS.o Tape_api) (OL (α:=(List UInt8)) b99 e98.Blocks)),(b50,RL (α:=Bool) 4 hurt51)]) (he:=by repeat first|refine NoE.c ?_|refine NoE.p ?_|infer_instance) nd (2:Int).toNat (j:=0) rfl (j2:=1) rfl (getI_in he100).2.2 fun b101 nd=>?_
        have ndS:Nd [(b99,rowC (RDa (β:=UInt8) 25 5 b48 [((and64 e83 (1023:Int)).tmod parity1).toNat] e98.Blocks) ((2:Int).toNat) (OL b101 e100)),(b48,rowC (RT (α:=Tape_api) 54 25 5 b48 allT (l49.set (((and64 e83 (1023:Int)).tmod parity1).toNat) (Tape_api.mk e87.Label e87.Cap (e87.Blocks.set ((2:Int).toNat) e89) e87.Lost))) ((((and64 e83 (1023:Int)).tmod parity1).toNat)*Enc.sz Tape_api+DS.o Tape_api) (OL (α:=(List UInt8)) b99 e98.Blocks)),(b50,RL (α:=Bool) 4 hurt51)]:=Nd.pick nd (is:=[1,2,3]) Dc
        refine TK.drwX (h:=[(b101,RL (α:=UInt8) 5 e100)]) (hS:=[(b99,rowC (RDa (β:=UInt8) 25 5 b48 [((and64 e83 (1023:Int)).tmod parity1).toNat] e98.Blocks) ((2:Int).toNat) (OL b101 e100)),(b48,rowC (RT (α:=Tape_api) 54 25 5 b48 allT (l49.set (((and64 e83 (1023:Int)).tmod parity1).toNat) (Tape_api.mk e87.Label e87.Cap (e87.Blocks.set ((2:Int).toNat) e89) e87.Lost))) ((((and64 e83 (1023:Int)).tmod parity1).toNat)*Enc.sz Tape_api+DS.o Tape_api) (OL (α:=(List UInt8)) b99 e98.Blocks)),(b50,RL (α:=Bool) 4 hurt51)]) [(0,0),(0,1),(0,2),(0,3),(0,4),(0,5),(1,6),(0,7),(0,8),(0,9),(0,10),(0,11),(0,12),(1,13),(1,14),(1,15),(0,16),(1,17),(2,18)] mixed (by kernel_rfl) (HSub_app nd) ?_
        refine DM rfl rfl rfl ?_
        refine DM rfl rfl rfl ?_
        obtain ⟨e102,he102,hX⟩:=bind_some hX
        refine D0 rfl (p_iaD (xs:=(l49.set (((and64 e83 (1023:Int)).tmod parity1).toNat) (Tape_api.mk e87.Label e87.Cap (e87.Blocks.set ((2:Int).toNat) e89) e87.Lost))) kd48 ty54 rfl rfl rfl ndS (j:=1) rfl rfl (fun _=>he102)) rfl rfl ?_
        refine D0 rfl (p_faT (xs:=(l49.set (((and64 e83 (1023:Int)).tmod parity1).toNat) (Tape_api.mk e87.Label e87.Cap (e87.Blocks.set ((2:Int).toNat) e89) e87.Lost))) fs54_2 Dc rfl ndS (j:=1) rfl rfl) rfl rfl ?_
        refine D0 rfl (p_ldT (xs:=(l49.set (((and64 e83 (1023:Int)).tmod parity1).toNat) (Tape_api.mk e87.Label e87.Cap (e87.Blocks.set ((2:Int).toNat) e89) e87.Lost))) (i:=((and64 e83 (1023:Int)).tmod parity1)) (o:=2) ty22 rfl rfl ndS (j:=1) rfl rfl (fun _=>he102) rfl rfl rfl) rfl rfl ?_
        obtain ⟨e103,he103,hX⟩:=bind_some hX
        refine D0 rfl (p_iaD (xs:=e98.Blocks) kd22 ty25 rfl rfl rfl ndS (j:=0) rfl rfl (fun _=>he103)) rfl rfl ?_
        refine DR1 (gc:=true) rfl (vok_p (C:=cx) (p_ldC (xs:=e98.Blocks) (i:=(2:Int)) ty25 rfl rfl nd (j:=1) rfl rfl (fun _=>he103) rfl rfl)) rfl rfl ?_
        refine DM rfl rfl rfl ?_
        refine DM rfl rfl rfl ?_
        obtain ⟨e104,he104,hX⟩:=bind_some hX
        refine D0 rfl (p_iaD (xs:=(l49.set (((and64 e83 (1023:Int)).tmod parity1).toNat) (Tape_api.mk e87.Label e87.Cap (e87.Blocks.set ((2:Int).toNat) e89) e87.Lost))) kd48 ty54 rfl rfl rfl ndS (j:=1) rfl rfl (fun _=>he104)) rfl rfl ?_
        refine D0 rfl (p_faT (xs:=(l49.set (((and64 e83 (1023:Int)).tmod parity1).toNat) (Tape_api.mk e87.Label e87.Cap (e87.Blocks.set ((2:Int).toNat) e89) e87.Lost))) fs54_2 Dc rfl ndS (j:=1) rfl rfl) rfl rfl ?_
        refine D0 rfl (p_ldT (xs:=(l49.set (((and64 e83 (1023:Int)).tmod parity1).toNat) (Tape_api.mk e87.Label e87.Cap (e87.Blocks.set ((2:Int).toNat) e89) e87.Lost))) (i:=((and64 e83 (1023:Int)).tmod parity1)) (o:=2) ty22 rfl rfl ndS (j:=1) rfl rfl (fun _=>he104) rfl rfl rfl) rfl rfl ?_
        obtain ⟨e105,he105,hX⟩:=bind_some hX
        refine D0 rfl (p_iaD (xs:=e98.Blocks) kd22 ty25 rfl rfl rfl ndS (j:=0) rfl rfl (fun _=>he105)) rfl rfl ?_
        refine DR1 (gc:=true) rfl (vok_p (C:=cx) (p_ldC (xs:=e98.Blocks) (i:=(2:Int)) ty25 rfl rfl nd (j:=1) rfl rfl (fun _=>he105) rfl rfl)) rfl rfl ?_
        obtain ⟨e106,he106,hX⟩:=bind_some hX
        refine DR1 (gc:=true) rfl (vok_p (C:=cx) (p_iaO (xs:=e100) kd25 ty5 rfl rfl rfl nd (j:=0) rfl (fun _=>he106))) rfl rfl ?_
        refine DR1 (gc:=true) rfl (vok_p (C:=cx) (p_ldO (xs:=e100) (a:=e106) (e106:UInt8) ty5 rfl rfl nd (j:=0) rfl (fun _=>he106) rfl rfl rfl)) rfl rfl ?_
        refine D0 rfl (p8_xor (a:=e106) (b:=(16:UInt8)) rfl rfl) rfl rfl ?_
        obtain ⟨e107,he107,hX⟩:=bind_some hX
        refine DR1 (gc:=true) rfl (vok_p (C:=cx) (p_iaO (xs:=e100) kd25 ty5 rfl rfl rfl nd (j:=0) rfl (fun _=>he107))) rfl rfl ?_
        refine DR2n rfl ?_
        refine TLc.stW (xs:=e100) (i:=(20:Int)) (lu:=Enc.cl ((e106^^^(16:UInt8)):UInt8)) (a':=(e106^^^(16:UInt8))) nd ty5 rfl (j:=0) rfl (by simp[Enc.sz]) (inb_of he107 (by simp)) rfl (Cells_v ((e106^^^(16:UInt8)):UInt8)) rfl (WkL_refl _) fun nd=>?_
        refine TL.nil ⟨.nilp,[(b101,RL (α:=UInt8) 5 (e100.set (20:Int).toNat (e106^^^(16:UInt8))))],rfl,rfl,HSub_app nd,?_⟩
        refine DRend ?_
        refine hK97 _ _ ?_
        refine TK.pushI (h:=[(b101,RL (α:=UInt8) 5 (e100.set (20:Int).toNat (e106^^^(16:UInt8)))),(b99,rowC (RDa (β:=UInt8) 25 5 b48 [((and64 e83 (1023:Int)).tmod parity1).toNat] e98.Blocks) ((2:Int).toNat) (OL b101 e100)),(b48,rowC (RT (α:=Tape_api) 54 25 5 b48 allT (l49.set (((and64 e83 (1023:Int)).tmod parity1).toNat) (Tape_api.mk e87.Label e87.Cap (e87.Blocks.set ((2:Int).toNat) e89) e87.Lost))) ((((and64 e83 (1023:Int)).tmod parity1).toNat)*Enc.sz Tape_api+DS.o Tape_api) (OL (α:=(List UInt8)) b99 e98.Blocks)),(b50,RL (α:=Bool) 4 hurt51)]) (he:=by repeat first|refine NoE.c ?_|refine NoE.p ?_|infer_instance) nd ((2:Int).toNat) (j:=1) rfl (j2:=2) rfl (j3:=0) rfl rfl rfl (by simp) (by have:=getI_in he100;omega) fun nd=>?_
        refine TK.cv 142 (OL b99 (e98.Blocks.set ((2:Int).toNat) (e100.set (20:Int).toNat (e106^^^(16:UInt8))))) rfl (Wk_eq (OL_len (by simp))) ?_
        refine TK.cv 149 (OL b99 (e98.Blocks.set ((2:Int).toNat) (e100.set (20:Int).toNat (e106^^^(16:UInt8))))) rfl (Wk_eq (OL_len (by simp))) ?_
        refine TK.pushT (h:=[(b99,RDa (β:=UInt8) 25 5 b48 [((and64 e83 (1023:Int)).tmod parity1).toNat] (e98.Blocks.set ((2:Int).toNat) (e100.set (20:Int).toNat (e106^^^(16:UInt8))))),(b48,rowC (RT (α:=Tape_api) 54 25 5 b48 allT (l49.set (((and64 e83 (1023:Int)).tmod parity1).toNat) (Tape_api.mk e87.Label e87.Cap (e87.Blocks.set ((2:Int).toNat) e89) e87.Lost))) ((((and64 e83 (1023:Int)).tmod parity1).toNat)*Enc.sz Tape_api+DS.o Tape_api) (OL (α:=(List UInt8)) b99 e98.Blocks)),(b50,RL (α:=Bool) 4 hurt51)]) (he:=by repeat first|refine NoE.c ?_|refine NoE.p ?_|infer_instance) nd (((and64 e83 (1023:Int)).tmod parity1).toNat) (j:=1) rfl (j2:=0) rfl rfl (by simp) (getI_in he98).2.2 rfl fun nd=>?_
        refine TK.cv 12 (OL b48 ((l49.set (((and64 e83 (1023:Int)).tmod parity1).toNat) (Tape_api.mk e87.Label e87.Cap (e87.Blocks.set ((2:Int).toNat) e89) e87.Lost)).set (((and64 e83 (1023:Int)).tmod parity1).toNat) (Tape_api.mk e98.Label e98.Cap (e98.Blocks.set ((2:Int).toNat) (e100.set (20:Int).toNat (e106^^^(16:UInt8)))) e98.Lost))) rfl (Wk_eq (OL_len (by simp))) ?_
        refine TK.cv 115 (OL b48 ((l49.set (((and64 e83 (1023:Int)).tmod parity1).toNat) (Tape_api.mk e87.Label e87.Cap (e87.Blocks.set ((2:Int).toNat) e89) e87.Lost)).set (((and64 e83 (1023:Int)).tmod parity1).toNat) (Tape_api.mk e98.Label e98.Cap (e98.Blocks.set ((2:Int).toNat) (e100.set (20:Int).toNat (e106^^^(16:UInt8)))) e98.Lost))) rfl (Wk_eq (OL_len (by simp))) ?_
        refine TK.cv 138 (OL b48 ((l49.set (((and64 e83 (1023:Int)).tmod parity1).toNat) (Tape_api.mk e87.Label e87.Cap (e87.Blocks.set ((2:Int).toNat) e89) e87.Lost)).set (((and64 e83 (1023:Int)).tmod parity1).toNat) (Tape_api.mk e98.Label e98.Cap (e98.Blocks.set ((2:Int).toNat) (e100.set (20:Int).toNat (e106^^^(16:UInt8)))) e98.Lost))) rfl (Wk_eq (OL_len (by simp))) ?_
        refine TK.cv 145 (OL b48 ((l49.set (((and64 e83 (1023:Int)).tmod parity1).toNat) (Tape_api.mk e87.Label e87.Cap (e87.Blocks.set ((2:Int).toNat) e89) e87.Lost)).set (((and64 e83 (1023:Int)).tmod parity1).toNat) (Tape_api.mk e98.Label e98.Cap (e98.Blocks.set ((2:Int).toNat) (e100.set (20:Int).toNat (e106^^^(16:UInt8)))) e98.Lost))) rfl (Wk_eq (OL_len (by simp))) ?_
        refine TK.reg ?_
        refine M rfl rfl (M rfl rfl ?_)
        obtain ⟨e108,he108,hX⟩:=bind_some hX
        refine P1 (p_iaO (xs:=hurt51) kd56 ty4 rfl rfl rfl nd (j:=1) rfl (fun _=>he108)) rfl rfl ?_
        refine TLc.stW (xs:=hurt51) (i:=((and64 e83 (1023:Int)).tmod parity1)) (lu:=Enc.cl (true:Bool)) (a':=true) nd ty4 rfl (j:=1) rfl (by simp[Enc.sz]) (inb_of he108 (by simp)) rfl (Cells_v (true:Bool)) rfl (WkL_refl _) fun nd=>?_
        refine TL.cv 14 (OL b50 (hurt51.set ((and64 e83 (1023:Int)).tmod parity1).toNat true)) rfl (Wk_eq (OL_len (by simp))) ?_
        refine TL.nil ?_
        exact J77 ((l49.set (((and64 e83 (1023:Int)).tmod parity1).toNat) (Tape_api.mk e87.Label e87.Cap (e87.Blocks.set ((2:Int).toNat) e89) e87.Lost)).set (((and64 e83 (1023:Int)).tmod parity1).toNat) (Tape_api.mk e98.Label e98.Cap (e98.Blocks.set ((2:Int).toNat) (e100.set (20:Int).toNat (e106^^^(16:UInt8)))) e98.Lost)) (hurt51.set ((and64 e83 (1023:Int)).tmod parity1).toNat true) _ _ ⟨b48,b50,rfl,(Nd.pick nd (is:=[0,1]) Dc),(HSub.pick nd (is:=[0,1]) Dc)⟩ hX
       ·have hX:=ite_f hc hX
        refine TK.skip ?_
        exact J77 (l49.set (((and64 e83 (1023:Int)).tmod parity1).toNat) (Tape_api.mk e87.Label e87.Cap (e87.Blocks.set ((2:Int).toNat) e89) e87.Lost)) hurt51 _ _ ⟨b48,b50,rfl,(Nd.pick nd (is:=[0,1]) Dc),(HSub.pick nd (is:=[0,1]) Dc)⟩ hX
     ·have hX:=ite_f hc hX
      refine TK.exit ?_
      obtain rfl:=hR47 _ (some_in hX).symm
      exact E47 l49 hurt51 _ _ ⟨b48,b50,rfl,(Nd.pick nd (is:=[0,1]) Dc),(HSub.pick nd (is:=[0,1]) Dc)⟩ hA47
    refine TK.iter [0,1,2,12,14,15] (fun s env h=>match s with|(l37,hurt39,i40)=>∃b36 b38,env=[(0,true,Enc.v parity1),(1,true,Enc.v lost2),(2,true,Enc.v rot3),(12,true,OL b36 l37),(14,true,OL b38 hurt39),(15,true,Enc.v i40)]∧Nd [(b36,RT (α:=Tape_api) 54 25 5 b36 allT l37),(b38,RL (α:=Bool) 4 hurt39)]∧HSub [(b36,RT (α:=Tape_api) 54 25 5 b36 allT l37),(b38,RL (α:=Bool) 4 hurt39)] h) hO35 ⟨b25,b32,rfl,(Nd.pick nd (is:=[1,0]) Dc),(HSub.pick nd (is:=[1,0]) Dc)⟩ ?_
    rintro ⟨l37,hurt39,i40⟩ env h x35x ⟨b36,b38,rfl,nd,hs⟩ hX hR35
    refine TK.subH hs ?_
    unfold X.cartridgelaw14_GroupKnows_s35 at hX
    try dsimp only at hX
    refine TK.seq_k fun K109 hK109=>?_
    refine SR fun K110 hK110=>M rfl rfl (M rfl rfl (P1 (p_lenL (xs:=lost2) kd47 rfl) rfl rfl (P1 (p_lss rfl rfl) rfl rfl (TL.nil (hK110 _ _ ?_)))))
    refine TK.cond (b:=(decide (i40<(lost2.length:Int)))) rfl (fun hc=>?_) (fun hc=>?_)
    ·have hX:=ite_t hc hX
     refine TK.skip ?_
     refine hK109 _ _ ?_
     refine TK.seq_k fun K111 hK111=>?_
     refine TK.block ?_
     refine SR fun K112 hK112=>M rfl rfl (M rfl rfl ?_)
     obtain ⟨e113,he113,hX⟩:=bind_some hX
     refine P1 (p_iaL (xs:=lost2) kd47 ty3 rfl rfl rfl (fun _=>he113)) rfl rfl (P1 (p_ldE (xs:=lost2) (a:=e113) (e113:Int) ty3 rfl rfl (fun _=>he113) rfl rfl rfl) rfl rfl (P1 (p_and64 rfl rfl) rfl rfl (M rfl rfl ?_)))
     obtain ⟨u114,hu114,hX⟩:=bind_some hX
     refine P1 (p_rem rfl rfl (fun _=>need_t hu114)) rfl rfl (M rfl rfl (TL.nil (hK112 _ _ (SR fun K115 hK115=>M rfl rfl (M rfl rfl ?_)))))
     obtain ⟨e116,he116,hX⟩:=bind_some hX
     refine P1 (p_iaD (xs:=l37) kd48 ty54 rfl rfl rfl nd (j:=0) rfl rfl (fun _=>he116)) rfl rfl (P1 (p_faT (xs:=l37) fs54_3 Dc rfl nd (j:=0) rfl rfl) rfl rfl ?_)
     refine TLc.stT (i:=((and64 e113 (1023:Int)).tmod parity1)) (xs:=l37) (a':=(Tape_api.mk e116.Label e116.Cap e116.Blocks true)) (d:=3) nd ty4 rfl (j:=0) rfl rfl he116 rfl (Cells_v (true:Bool)) rfl rfl rfl rfl rfl fun nd=>?_
     refine TL.cv 12 (OL b36 (l37.set ((and64 e113 (1023:Int)).tmod parity1).toNat (Tape_api.mk e116.Label e116.Cap e116.Blocks true))) rfl (Wk_eq (OL_len (by simp))) ?_
     refine TL.nil (hK115 _ _ ?_)
     refine TK.reg ?_
     refine M rfl rfl (M rfl rfl ?_)
     obtain ⟨e117,he117,hX⟩:=bind_some hX
     refine P1 (p_iaO (xs:=hurt39) kd56 ty4 rfl rfl rfl nd (j:=1) rfl (fun _=>he117)) rfl rfl ?_
     refine TLc.stW (xs:=hurt39) (i:=((and64 e113 (1023:Int)).tmod parity1)) (lu:=Enc.cl (true:Bool)) (a':=true) nd ty4 rfl (j:=1) rfl (by simp[Enc.sz]) (inb_of he117 (by simp)) rfl (Cells_v (true:Bool)) rfl (WkL_refl _) fun nd=>?_
     refine TL.cv 14 (OL b38 (hurt39.set ((and64 e113 (1023:Int)).tmod parity1).toNat true)) rfl (Wk_eq (OL_len (by simp))) ?_
     refine TL.nil (hK111 _ _ ?_)
     refine TK.reg ?_
     refine M rfl rfl (P1 (p_add rfl rfl) rfl rfl (M rfl rfl (TL.nil ?_)))
     exact ⟨_,(some_in hX).symm,b36,b38,rfl,(Nd.pick nd (is:=[0,1]) Dc),(HSub.pick nd (is:=[0,1]) Dc)⟩
    ·have hX:=ite_f hc hX
     refine TK.exit ?_
     obtain rfl:=hR35 _ (some_in hX).symm
     exact E35 l37 hurt39 _ _ ⟨b36,b38,rfl,(Nd.pick nd (is:=[0,1]) Dc),(HSub.pick nd (is:=[0,1]) Dc)⟩ hA35
  refine TK.iter [0,1,2,8,10,11] (fun s env h=>match s with|(blank19,i20)=>∃b18,env=[(0,true,Enc.v parity1),(1,true,Enc.v lost2),(2,true,Enc.v rot3),(8,true,Enc.v r12.1),(10,true,OL b18 blank19),(11,true,Enc.v i20)]∧Nd [(b18,RL (α:=Tape_api) 54 blank19)]∧HSub [(b18,RL (α:=Tape_api) 54 blank19)] h) hO17 ⟨b14,rfl,(Nd.pick nd (is:=[0]) Dc),(HSub.pick nd (is:=[0]) Dc)⟩ ?_
  rintro ⟨blank19,i20⟩ env h x17x ⟨b18,rfl,nd,hs⟩ hX hR17
  refine TK.subH hs ?_
  unfold X.cartridgelaw14_GroupKnows_s17 at hX
  try dsimp only at hX
  refine TK.seq_k fun K118 hK118=>?_
  refine SR fun K119 hK119=>M rfl rfl (M rfl rfl (P1 (p_lss rfl rfl) rfl rfl (TL.nil (hK119 _ _ ?_))))
  refine TK.cond (b:=(decide (i20<parity1))) rfl (fun hc=>?_) (fun hc=>?_)
  ·have hX:=ite_t hc hX
   refine TK.skip ?_
   refine hK118 _ _ ?_
   refine TK.seq_k fun K120 hK120=>?_
   refine TK.block ?_
   refine TK.reg ?_
   refine M rfl rfl (M rfl rfl (P1 (p_add rfl rfl) rfl rfl ?_))
   refine TLc.p (gc:=true) (p_bld (l:=[Enc.v ((wr ((2:Int)+i20)):Int),Enc.v ((5:Int):Int),.nils,Enc.v false]) ty54 rfl all54 rfl (fun _=>⟨⟨rfl,trivial,rfl⟩,⟨rfl,trivial,rfl⟩,trivial⟩)) rfl rfl (TL.wk (v':=Enc.v ((Tape_api.mk (wr ((2:Int)+i20)) (5:Int) ([]:(List (List UInt8))) false):Tape_api)) (Wk_agg ⟨Wk.refl _,Wk.refl _,Wk_nil,Wk.refl _,trivial⟩) ?_)
   refine TLc.lit ([(Tape_api.mk (wr ((2:Int)+i20)) (5:Int) ([]:(List (List UInt8))) false)]:List Tape_api) kd48 ty54 rfl ⟨⟨rfl,rfl⟩,trivial⟩ rfl rfl rfl ?_
   obtain ⟨u121,hu121,hX⟩:=bind_some hX
   refine TLc.appO nd kd48 bo48 ty54 rfl rfl (j:=0) rfl rfl (Src_L _) Dc (need_t hu121) rfl fun nd=>?_
   refine M rfl rfl (TL.nil (hK120 _ _ ?_))
   refine TK.reg ?_
   refine M rfl rfl (P1 (p_add rfl rfl) rfl rfl (M rfl rfl (TL.nil ?_)))
   exact ⟨_,(some_in hX).symm,b18,rfl,(Nd.pick nd (is:=[0]) Dc),(HSub.pick nd (is:=[0]) Dc)⟩
  ·have hX:=ite_f hc hX
   refine TK.exit ?_
   obtain rfl:=hR17 _ (some_in hX).symm
   exact E17 blank19 _ _ ⟨b18,rfl,(Nd.pick nd (is:=[0]) Dc),(HSub.pick nd (is:=[0]) Dc)⟩ hA17
end Go.Proofs.Ytndjbcnpgggddaa
