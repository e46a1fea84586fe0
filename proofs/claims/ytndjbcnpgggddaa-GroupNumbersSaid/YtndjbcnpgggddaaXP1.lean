import Derived.Test.YtndjbcnpgggddaaXFn
import Derived.Test.YtndjbcnpgggddaaXS
import Derived.Test.YtndjbcnpgggddaaAmK0
import Derived.Test.YtndjbcnpgggddaaXP0
namespace Go.Proofs.Ytndjbcnpgggddaa
open Go.AM Go.AX
set_option linter.unusedVariables false
set_option maxRecDepth 20000
theorem bc_group_tape:BodyC cx 69 72 [.c 6 54,.t 7] k69:=⟨Enters.of Try.func69 (by kernel_rfl) (by kernel_rfl),_,_,Try.func69,rfl,by kernel_rfl,rfl,rfl⟩
theorem ok_group_tape (t1:Tape_api) (s2:Seal_api) (rows3:(List (List UInt8))) (r:(Tape_api×Int)) (hX:X.group_tape t1 s2 rows3=some r):Fun Try.prog 69 [Enc.v (t1:Tape_api),Enc.v (s2:Seal_api),Enc.v (rows3:(List (List UInt8)))] (·= .tup 2 (ofL [Enc.v r.1,Enc.v r.2])):=by
 refine Fun.ofC (C:=cx) bc_group_tape (Nat.le_of_ble_eq_true rfl) (allVal.mem ⟨(by exact (v_val _)),(by exact (v_val _)),(by exact (v_val _)),trivial⟩) ?_
 unfold k69
 have nd:Nd []:=Nd_nil
 unfold X.group_tape at hX
 refine SR fun K4 hK4=>?_
 refine TLc.boxV (lu:=[Enc.v t1.Label,Enc.v t1.Cap,Enc.v t1.Blocks,Enc.v t1.Lost]) nd rfl (Cells_v (t1:Tape_api)) rfl ?_
 refine TLc.boxV (lu:=[Enc.v s2.Number,Enc.v s2.Index,Enc.v s2.Data,Enc.v s2.Parity,Enc.v s2.Labels]) nd rfl (Cells_v (s2:Seal_api)) rfl ?_
 refine TLc.alO (l:=[Enc.v ((0:Int):Int),Enc.v ((0:Int):Int),.nils,Enc.v false]) nd ty54 ti54_z rfl rfl fun b5 nd=>?_
 refine M rfl rfl (TL.nil (hK4 _ _ ?_))
 refine TK.ownC (α:=(List UInt8)) nd (j:=0) rfl 2 25 (.inl rfl) fun b6 nd=>?_
 refine SR fun K7 hK7=>?_
 refine TLc.litO nd ([(80:UInt8)]:List UInt8) kd25 ty5 rfl ⟨⟨rfl,rfl⟩,trivial⟩ rfl rfl rfl fun b8 nd=>?_
 refine TLc.cvtF (xs:=([(80:UInt8)]:List UInt8)) nd kd25 kd5 rfl (j:=0) rfl (by simp) rfl fun nd=>?_
 refine P1 (p_bld (l:=Enc.cl ((Unit_api.mk (1:Int) (0:Int) (0:Int) ([(80:UInt8)]:List UInt8)):Unit_api)) ty68 rfl all68 rfl (fun _=>⟨⟨rfl,trivial,rfl⟩,⟨rfl,trivial,rfl⟩,trivial⟩)) rfl rfl ?_
 refine TLc.litO nd ([(Unit_api.mk (1:Int) (0:Int) (0:Int) ([(80:UInt8)]:List UInt8))]:List Unit_api) kd151 ty68 rfl ⟨⟨rfl,rfl⟩,trivial⟩ rfl rfl rfl fun b9 nd=>?_
 refine M rfl rfl (TL.nil (hK7 _ _ ?_))
 refine TK.seq_k fun K10 hK10=>?_
 refine SR fun K11 hK11=>M rfl rfl (P1 (p_lenL (xs:=rows3) kd22 rfl) rfl rfl (M rfl rfl (TL.nil (hK11 _ _ ?_))))
 refine TK.block ?_
 obtain ⟨o12,hO12,hA12⟩:=bind_some hX
 have E12:∀(l21:List Unit_api) (env:Env) (h:Hp),(∃b19 b18 b20,keepE [3,4,6,8] env=[(3,true,.vref (ofL [Enc.v t1.Label,Enc.v t1.Cap,Enc.v t1.Blocks,Enc.v t1.Lost]) 4 0),(4,true,.vref (ofL [Enc.v s2.Number,Enc.v s2.Index,Enc.v s2.Data,Enc.v s2.Parity,Enc.v s2.Labels]) 5 0),(6,true,.ref b18 0 4),(8,true,OL b20 l21)]∧Nd [(b19,RL (α:=(List UInt8)) 25 ([]:List (List UInt8))),(b18,RV 54 [Enc.v ((0:Int):Int),Enc.v ((0:Int):Int),OL (α:=(List UInt8)) b19 ([]:List (List UInt8)),Enc.v false]),(b20,RL (α:=Unit_api) 68 l21)]∧HSub [(b19,RL (α:=(List UInt8)) 25 ([]:List (List UInt8))),(b18,RV 54 [Enc.v ((0:Int):Int),Enc.v ((0:Int):Int),OL (α:=(List UInt8)) b19 ([]:List (List UInt8)),Enc.v false]),(b20,RL (α:=Unit_api) 68 l21)] h)→X.group_tape_e12 s2 t1 l21=some r→K10 env h:=by
  intro l21 env h hE hX
  obtain ⟨b19,b18,b20,henv,nd,hs⟩:=hE
  unfold X.group_tape_e12 at hX
  refine hK10 _ _ (TK.keep [3,4,6,8] ?_)
  rw[henv]
  refine TK.subH hs ?_
  refine SR fun K22 hK22=>M rfl rfl (P1 (p_ldRa (l':=Enc.cl (s2:Seal_api)) ty50 rfl rfl rfl rfl rfl (Nat.le_of_ble_eq_true rfl)) rfl rfl ?_)
  obtain ⟨r23,hr23,hX⟩:=bind_some hX
  refine TL.cvX rfl rfl rfl (fun _=>⟨rfl,⟨rfl,trivial⟩⟩) (fun e=>ok_record_SealBytes s2 _ hr23) ?_
  refine P1 (p_bld (l:=Enc.cl ((Unit_api.mk (5:Int) (0:Int) (0:Int) r23):Unit_api)) ty68 rfl all68 rfl (fun _=>⟨⟨rfl,trivial,rfl⟩,⟨rfl,trivial,rfl⟩,trivial⟩)) rfl rfl ?_
  refine TLc.lit ([(Unit_api.mk (5:Int) (0:Int) (0:Int) r23)]:List Unit_api) kd151 ty68 rfl ⟨⟨rfl,rfl⟩,trivial⟩ rfl rfl rfl ?_
  obtain ⟨u24,hu24,hX⟩:=bind_some hX
  refine TLc.appO nd kd151 bo151 ty68 rfl rfl (j:=2) rfl rfl (Src_L _) Dc (need_t hu24) rfl fun nd=>?_
  refine M rfl rfl (TL.nil (hK22 _ _ (SR fun K25 hK25=>P1 (p_faR fs54_0 Dc rfl) rfl rfl (P1 (p_ldR (v:=Enc.v t1.Label) ty3 rfl rfl rfl rfl rfl rfl) rfl rfl (P1 (p_faR fs54_1 Dc rfl) rfl rfl (P1 (p_ldR (v:=Enc.v t1.Cap) ty3 rfl rfl rfl rfl rfl rfl) rfl rfl ?_))))))
  refine P1 (p_bld (l:=[Enc.v t1.Label,Enc.v t1.Cap,.nils,Enc.v false]) ty54 rfl all54 rfl (fun _=>⟨⟨rfl,trivial,rfl⟩,⟨rfl,trivial,rfl⟩,trivial⟩)) rfl rfl ?_
  refine TLc.alO (l:=[Enc.v ((0:Int):Int),Enc.v ((0:Int):Int),.nils,Enc.v false]) nd ty54 ti54_z rfl rfl fun b26 nd=>?_
  refine TLc.stV (lu:=[Enc.v t1.Label,Enc.v t1.Cap,.nils,Enc.v false]) nd ty54 rfl (j:=0) rfl rfl rfl (Cells_agg rfl (allA.mem ⟨trivial,trivial,trivial,trivial,trivial⟩)) rfl rfl [Enc.v t1.Label,Enc.v t1.Cap,.nils,Enc.v false] rfl fun nd=>?_
  refine TL.nil (hK25 _ _ ?_)
  refine TK.ownC (α:=(List UInt8)) nd (j:=0) rfl 2 25 (.inl rfl) fun b27 nd=>?_
  refine TK.seq_k fun K28 hK28=>?_
  refine SR fun K29 hK29=>M rfl rfl (P1 (p_lenR kd151 rfl (fun _=>refOK_of nd (j:=4) rfl rfl)) rfl rfl (M rfl rfl (TL.nil (hK29 _ _ ?_))))
  refine TK.block ?_
  obtain ⟨o30,hO30,hA30⟩:=bind_some hX
  have E30:∀(c44:Int) (c45:Int) (l47:List (List UInt8)) (c48:Bool) (env:Env) (h:Hp),(∃b42 b41 b46 b43,keepE [6,11] env=[(6,true,.ref b41 0 4),(11,true,.ref b43 0 4)]∧Nd [(b42,RL (α:=(List UInt8)) 25 ([]:List (List UInt8))),(b41,RV 54 [Enc.v ((0:Int):Int),Enc.v ((0:Int):Int),OL (α:=(List UInt8)) b42 ([]:List (List UInt8)),Enc.v false]),(b46,RL (α:=(List UInt8)) 25 l47),(b43,RV 54 [Enc.v c44,Enc.v c45,OL b46 l47,Enc.v c48])]∧HSub [(b42,RL (α:=(List UInt8)) 25 ([]:List (List UInt8))),(b41,RV 54 [Enc.v ((0:Int):Int),Enc.v ((0:Int):Int),OL (α:=(List UInt8)) b42 ([]:List (List UInt8)),Enc.v false]),(b46,RL (α:=(List UInt8)) 25 l47),(b43,RV 54 [Enc.v c44,Enc.v c45,OL b46 l47,Enc.v c48])] h)→X.group_tape_e30 c44 c45 l47 c48=some r→K28 env h:=by
   intro c44 c45 l47 c48 env h hE hX
   obtain ⟨b42,b41,b46,b43,henv,nd,hs⟩:=hE
   unfold X.group_tape_e30 at hX
   refine hK28 _ _ (TK.keep [6,11] ?_)
   rw[henv]
   refine TK.subH hs ?_
   refine SR fun K49 hK49=>?_
   refine TL.layR (l2':=[Enc.v c44,Enc.v c45,Enc.v l47,Enc.v c48]) [] nd (j:=2) rfl 3 rfl rfl ⟨fix_id _,fix_id _,fix_OL nd (j:=2) rfl,fix_id _,trivial⟩ trivial fun nd=>?_
   refine P1 (p_ldVa (l':=Enc.cl ((Tape_api.mk c44 c45 l47 c48):Tape_api)) ty54 rfl rfl nd (j:=2) rfl rfl rfl rfl (Nat.le_of_ble_eq_true rfl)) rfl rfl ?_
   refine TLc.stV (lu:=Enc.cl ((Tape_api.mk c44 c45 l47 c48):Tape_api)) nd ty54 rfl (j:=1) rfl rfl rfl (Cells_v ((Tape_api.mk c44 c45 l47 c48):Tape_api)) rfl rfl [Enc.v ((Tape_api.mk c44 c45 l47 c48).Label:Int),Enc.v ((Tape_api.mk c44 c45 l47 c48).Cap:Int),Enc.v ((Tape_api.mk c44 c45 l47 c48).Blocks:(List (List UInt8))),Enc.v ((Tape_api.mk c44 c45 l47 c48).Lost:Bool)] rfl fun nd=>?_
   refine M rfl rfl (TL.nil (hK49 _ _ ?_))
   refine TK.ret ?_
   try dsimp only[thenQ]
   exact retC [Enc.v ((Tape_api.mk c44 c45 l47 c48):Tape_api),Enc.v ((0:Int):Int)] ⟨p_ldVa (l':=Enc.cl ((Tape_api.mk c44 c45 l47 c48):Tape_api)) ty54 rfl rfl nd (j:=1) rfl rfl rfl rfl (Nat.le_of_ble_eq_true rfl),p_mv rfl,trivial⟩ (by obtain rfl:=some_in hX;rfl) (tup_val (allVal.mem ⟨v_val _,v_val _,trivial⟩))
  refine TK.iter [3,6,11,43,44,45] (fun s env h=>match s with|(c34,c35,l37,c38,x40)=>∃b32 b31 b36 b33 b39,env=[(3,true,.vref (ofL [Enc.v t1.Label,Enc.v t1.Cap,Enc.v t1.Blocks,Enc.v t1.Lost]) 4 0),(6,true,.ref b31 0 4),(11,true,.ref b33 0 4),(43,true,OL (α:=Unit_api) b39 (l21++([(Unit_api.mk (5:Int) (0:Int) (0:Int) r23)]:List Unit_api))),(44,true,Enc.v (((l21++([(Unit_api.mk (5:Int) (0:Int) (0:Int) r23)]:List Unit_api)).length:Int):Int)),(45,true,Enc.v x40)]∧Nd [(b32,RL (α:=(List UInt8)) 25 ([]:List (List UInt8))),(b31,RV 54 [Enc.v ((0:Int):Int),Enc.v ((0:Int):Int),OL (α:=(List UInt8)) b32 ([]:List (List UInt8)),Enc.v false]),(b36,RL (α:=(List UInt8)) 25 l37),(b33,RV 54 [Enc.v c34,Enc.v c35,OL b36 l37,Enc.v c38]),(b39,RL (α:=Unit_api) 68 (l21++([(Unit_api.mk (5:Int) (0:Int) (0:Int) r23)]:List Unit_api)))]∧HSub [(b32,RL (α:=(List UInt8)) 25 ([]:List (List UInt8))),(b31,RV 54 [Enc.v ((0:Int):Int),Enc.v ((0:Int):Int),OL (α:=(List UInt8)) b32 ([]:List (List UInt8)),Enc.v false]),(b36,RL (α:=(List UInt8)) 25 l37),(b33,RV 54 [Enc.v c34,Enc.v c35,OL b36 l37,Enc.v c38]),(b39,RL (α:=Unit_api) 68 (l21++([(Unit_api.mk (5:Int) (0:Int) (0:Int) r23)]:List Unit_api)))] h) hO30 ⟨b19,b18,b27,b26,b20,rfl,(Nd.pick nd (is:=[2,3,0,1,4]) Dc),(HSub.pick nd (is:=[2,3,0,1,4]) Dc)⟩ ?_
  rintro ⟨c34,c35,l37,c38,x40⟩ env h x30x ⟨b32,b31,b36,b33,b39,rfl,nd,hs⟩ hX hR30
  refine TK.subH hs ?_
  unfold X.group_tape_s30 at hX
  try dsimp only at hX
  refine SR fun K50 hK50=>P1 (p_lss rfl rfl) rfl rfl (TL.nil (hK50 _ _ ?_))
  refine TK.seq_k fun K51 hK51=>?_
  refine TK.cond (b:=(decide (x40<((l21++([(Unit_api.mk (5:Int) (0:Int) (0:Int) r23)]:List Unit_api)).length:Int)))) rfl (fun hc=>?_) (fun hc=>?_)
  ·have hX:=ite_t hc hX
   refine TK.skip ?_
   refine hK51 _ _ ?_
   refine TK.seq_k fun K52 hK52=>?_
   refine TK.block ?_
   refine SR fun K53 hK53=>M rfl rfl ?_
   obtain ⟨e54,he54,hX⟩:=bind_some hX
   refine P1 (p_iaO (xs:=(l21++([(Unit_api.mk (5:Int) (0:Int) (0:Int) r23)]:List Unit_api))) kd151 ty68 rfl rfl rfl nd (j:=4) rfl (fun _=>he54)) rfl rfl (P1 (p_ldO (xs:=(l21++([(Unit_api.mk (5:Int) (0:Int) (0:Int) r23)]:List Unit_api))) (a:=e54) (e54:Unit_api) ty68 rfl rfl nd (j:=4) rfl (fun _=>he54) rfl rfl rfl) rfl rfl ?_)
   refine TLc.alO (l:=[Enc.v ((0:Int):Int),Enc.v ((0:Int):Int),Enc.v ((0:Int):Int),.nils]) nd ty68 ti68_z rfl rfl fun b55 nd=>?_
   refine M rfl rfl ?_
   refine TLc.stV (lu:=Enc.cl (e54:Unit_api)) nd ty68 rfl (j:=0) rfl rfl rfl (Cells_v (e54:Unit_api)) rfl rfl [Enc.v e54.Kind,Enc.v e54.Label,Enc.v e54.Number,Enc.v e54.Load] rfl fun nd=>?_
   refine TL.nil (hK53 _ _ (SR fun K56 hK56=>P1 (p_faR fs54_0 Dc rfl) rfl rfl (P1 (p_ldR (v:=Enc.v t1.Label) ty3 rfl rfl rfl rfl rfl rfl) rfl rfl (M rfl rfl (P1 (p_faV fs68_1 Dc rfl nd (j:=0) rfl rfl) rfl rfl ?_)))))
   refine TLc.stV (lu:=Enc.cl (t1.Label:Int)) nd ty3 rfl (j:=0) rfl rfl rfl (Cells_v (t1.Label:Int)) rfl rfl [Enc.v e54.Kind,Enc.v t1.Label,Enc.v e54.Number,Enc.v e54.Load] rfl fun nd=>?_
   refine P1 (p_faV fs68_2 Dc rfl nd (j:=0) rfl rfl) rfl rfl ?_
   refine TLc.stV (lu:=Enc.cl (x40:Int)) nd ty3 rfl (j:=0) rfl rfl rfl (Cells_v (x40:Int)) rfl rfl [Enc.v e54.Kind,Enc.v t1.Label,Enc.v x40,Enc.v e54.Load] rfl fun nd=>?_
   refine TL.nil (hK56 _ _ (SR fun K57 hK57=>P1 (p_ldVa (l':=Enc.cl ((Unit_api.mk e54.Kind t1.Label x40 e54.Load):Unit_api)) ty68 rfl rfl nd (j:=0) rfl rfl rfl rfl (Nat.le_of_ble_eq_true rfl)) rfl rfl ?_))
   obtain ⟨r58,hr58,hX⟩:=bind_some hX
   refine TL.cvX rfl rfl rfl (fun _=>⟨rfl,⟨rfl,trivial⟩⟩) (fun e=>ok_frame_Put (Unit_api.mk e54.Kind t1.Label x40 e54.Load) _ hr58) ?_
   refine M rfl rfl (P1 (p_ex rfl rfl Dc) rfl rfl (P1 (p_ex rfl rfl Dc) rfl rfl (M rfl rfl (M rfl rfl (TL.nil (hK57 _ _ ?_))))))
   refine TK.seq_k fun K59 hK59=>?_
   refine SR fun K60 hK60=>M rfl rfl (P1 (p_neq rfl rfl) rfl rfl (TL.nil (hK60 _ _ ?_)))
   refine TK.cond (b:=(r58.2 !=(0:Int))) rfl (fun hc=>?_) (fun hc=>?_)
   ·have hX:=ite_t hc hX
    refine SR fun K61 hK61=>P1 (p_bld (l:=[Enc.v ((0:Int):Int),Enc.v ((0:Int):Int),.nils,Enc.v false]) ty54 rfl all54 rfl (fun _=>trivial)) rfl rfl (M rfl rfl ?_)
    refine TLc.stV (lu:=[Enc.v ((0:Int):Int),Enc.v ((0:Int):Int),.nils,Enc.v false]) nd ty54 rfl (j:=2) rfl rfl rfl (Cells_agg rfl (allA.mem ⟨trivial,trivial,trivial,trivial,trivial⟩)) rfl rfl [Enc.v ((0:Int):Int),Enc.v ((0:Int):Int),.nils,Enc.v false] rfl fun nd=>?_
    refine M rfl rfl (TL.nil (hK61 _ _ ?_))
    refine TK.ownC (α:=(List UInt8)) nd (j:=2) rfl 2 25 (.inl rfl) fun b62 nd=>?_
    refine TK.layR (l2':=[Enc.v ((0:Int):Int),Enc.v ((0:Int):Int),Enc.v (([]:List (List UInt8)):(List (List UInt8))),Enc.v false]) [] nd (j:=0) rfl 3 rfl rfl ⟨fix_id _,fix_id _,fix_OL nd (j:=0) rfl,fix_id _,trivial⟩ trivial fun nd=>?_
    refine TK.ret ?_
    obtain rfl:=hR30 _ (some_in hX).symm
    replace hX:=hA30
    try dsimp only[thenQ]
    exact retC [Enc.v ((Tape_api.mk (0:Int) (0:Int) ([]:List (List UInt8)) false):Tape_api),Enc.v r58.2] ⟨p_ldVa (l':=Enc.cl ((Tape_api.mk (0:Int) (0:Int) ([]:List (List UInt8)) false):Tape_api)) ty54 rfl rfl nd (j:=2) rfl rfl rfl rfl (Nat.le_of_ble_eq_true rfl),p_mv rfl,trivial⟩ (by obtain rfl:=some_in hX;rfl) (tup_val (allVal.mem ⟨v_val _,v_val _,trivial⟩))
   ·have hX:=ite_f hc hX
    refine TK.skip ?_
    refine hK59 _ _ ?_
    refine TK.reg ?_
    refine P1 (p_faV fs54_2 Dc rfl nd (j:=4) rfl rfl) rfl rfl (P1 (p_ldV (v:=OL b36 l37) ty22 rfl rfl nd (j:=4) rfl rfl rfl rfl rfl) rfl rfl (M rfl rfl ?_))
    refine TLc.lit ([r58.1]:List (List UInt8)) kd22 ty25 rfl ⟨⟨rfl,rfl⟩,trivial⟩ rfl rfl rfl ?_
    obtain ⟨u63,hu63,hX⟩:=bind_some hX
    refine TLc.appO nd kd22 bo22 ty25 rfl rfl (j:=3) rfl rfl (Src_L _) Dc (need_t hu63) rfl fun nd=>?_
    refine P1 (p_faV fs54_2 Dc rfl nd (j:=4) rfl rfl) rfl rfl ?_
    refine TLc.stV (lu:=[OL (α:=(List UInt8)) b36 (l37++([r58.1]:List (List UInt8)))]) nd ty22 rfl (j:=4) rfl rfl rfl (Cells_rs (refOK_of nd (j:=3) rfl rfl)) rfl rfl [Enc.v c34,Enc.v c35,OL (α:=(List UInt8)) b36 (l37++([r58.1]:List (List UInt8))),Enc.v c38] rfl fun nd=>?_
    refine TL.nil (hK52 _ _ ?_)
    refine TK.reg ?_
    refine P1 (p_add rfl rfl) rfl rfl (M rfl rfl (TL.nil ?_))
    exact ⟨_,(some_in hX).symm,b32,b31,b36,b33,b39,rfl,(Nd.pick nd (is:=[1,2,3,4,5]) Dc),(HSub.pick nd (is:=[1,2,3,4,5]) Dc)⟩
  ·have hX:=ite_f hc hX
   refine TK.exit ?_
   obtain rfl:=hR30 _ (some_in hX).symm
   exact E30 c34 c35 l37 c38 _ _ ⟨b32,b31,b36,b33,rfl,(Nd.pick nd (is:=[0,1,2,3]) Dc),(HSub.pick nd (is:=[0,1,2,3]) Dc)⟩ hA30
 refine TK.iter [3,4,6,8,20,21,22] (fun s env h=>match s with|(l16,x17)=>∃b14 b13 b15,env=[(3,true,.vref (ofL [Enc.v t1.Label,Enc.v t1.Cap,Enc.v t1.Blocks,Enc.v t1.Lost]) 4 0),(4,true,.vref (ofL [Enc.v s2.Number,Enc.v s2.Index,Enc.v s2.Data,Enc.v s2.Parity,Enc.v s2.Labels]) 5 0),(6,true,.ref b13 0 4),(8,true,OL b15 l16),(20,true,Enc.v rows3),(21,true,Enc.v ((rows3.length:Int):Int)),(22,true,Enc.v x17)]∧Nd [(b14,RL (α:=(List UInt8)) 25 ([]:List (List UInt8))),(b13,RV 54 [Enc.v ((0:Int):Int),Enc.v ((0:Int):Int),OL (α:=(List UInt8)) b14 ([]:List (List UInt8)),Enc.v false]),(b15,RL (α:=Unit_api) 68 l16)]∧HSub [(b14,RL (α:=(List UInt8)) 25 ([]:List (List UInt8))),(b13,RV 54 [Enc.v ((0:Int):Int),Enc.v ((0:Int):Int),OL (α:=(List UInt8)) b14 ([]:List (List UInt8)),Enc.v false]),(b15,RL (α:=Unit_api) 68 l16)] h) hO12 ⟨b6,b5,b9,rfl,(Nd.pick nd (is:=[1,2,0]) Dc),(HSub.pick nd (is:=[1,2,0]) Dc)⟩ ?_
 rintro ⟨l16,x17⟩ env h x12x ⟨b14,b13,b15,rfl,nd,hs⟩ hX hR12
 refine TK.subH hs ?_
 unfold X.group_tape_s12 at hX
 try dsimp only at hX
 refine SR fun K64 hK64=>P1 (p_lss rfl rfl) rfl rfl (TL.nil (hK64 _ _ ?_))
 refine TK.seq_k fun K65 hK65=>?_
 refine TK.cond (b:=(decide (x17<(rows3.length:Int)))) rfl (fun hc=>?_) (fun hc=>?_)
 ·have hX:=ite_t hc hX
  refine TK.skip ?_
  refine hK65 _ _ ?_
  refine TK.seq_k fun K66 hK66=>?_
  refine TK.block ?_
  refine SR fun K67 hK67=>?_
  obtain ⟨e68,he68,hX⟩:=bind_some hX
  refine P1 (p_iaL (xs:=rows3) kd22 ty25 rfl rfl rfl (fun _=>he68)) rfl rfl (P1 (p_ldE (xs:=rows3) (a:=e68) (e68:(List UInt8)) ty25 rfl rfl (fun _=>he68) rfl rfl rfl) rfl rfl (M rfl rfl (TL.nil (hK67 _ _ ?_))))
  refine TK.reg ?_
  refine M rfl rfl (M rfl rfl (P1 (p_bld (l:=Enc.cl ((Unit_api.mk (6:Int) (0:Int) (0:Int) e68):Unit_api)) ty68 rfl all68 rfl (fun _=>⟨⟨rfl,trivial,rfl⟩,⟨rfl,trivial,rfl⟩,trivial⟩)) rfl rfl ?_))
  refine TLc.lit ([(Unit_api.mk (6:Int) (0:Int) (0:Int) e68)]:List Unit_api) kd151 ty68 rfl ⟨⟨rfl,rfl⟩,trivial⟩ rfl rfl rfl ?_
  obtain ⟨u69,hu69,hX⟩:=bind_some hX
  refine TLc.appO nd kd151 bo151 ty68 rfl rfl (j:=2) rfl rfl (Src_L _) Dc (need_t hu69) rfl fun nd=>?_
  refine M rfl rfl (TL.nil (hK66 _ _ ?_))
  refine TK.reg ?_
  refine P1 (p_add rfl rfl) rfl rfl (M rfl rfl (TL.nil ?_))
  exact ⟨_,(some_in hX).symm,b14,b13,b15,rfl,(Nd.pick nd (is:=[0,1,2]) Dc),(HSub.pick nd (is:=[0,1,2]) Dc)⟩
 ·have hX:=ite_f hc hX
  refine TK.exit ?_
  obtain rfl:=hR12 _ (some_in hX).symm
  exact E12 l16 _ _ ⟨b14,b13,b15,rfl,(Nd.pick nd (is:=[0,1,2]) Dc),(HSub.pick nd (is:=[0,1,2]) Dc)⟩ hA12
theorem ok_group_Make (data1:(List Tape_api)) (blank2:(List Tape_api)) (number3:Int) (r:((List Tape_api)×Int)) (hX:X.group_Make data1 blank2 number3=some r):Fun Try.prog 38 [Enc.v (data1:(List Tape_api)),Enc.v (blank2:(List Tape_api)),Enc.v (number3:Int)] (·= .tup 2 (ofL [Enc.v r.1,Enc.v r.2])):=by
 refine Fun.of b38 (Nat.le_of_ble_eq_true rfl) (allVal.mem ⟨(by exact (v_val _)),(by exact (v_val _)),(by exact (v_val _)),trivial⟩) ?_
 unfold k38
 have nd:Nd []:=Nd_nil
 unfold X.group_Make at hX
 refine SR fun K4 hK4=>M rfl rfl (M rfl rfl (TL.nil (hK4 _ _ (SR fun K5 hK5=>M rfl rfl (M rfl rfl (P1 (p_lenL (xs:=data1) kd48 rfl) rfl rfl (M rfl rfl (P1 (p_lenL (xs:=blank2) kd48 rfl) rfl rfl (M rfl rfl (M rfl rfl ?_))))))))))
 refine TLc.lit ([data1,blank2]:List (List Tape_api)) kd147 ty48 rfl ⟨⟨rfl,rfl⟩,⟨rfl,rfl⟩,trivial⟩ rfl rfl rfl ?_
 obtain ⟨r6,hr6,hX⟩:=bind_some hX
 refine TL.cvX rfl rfl rfl (fun _=>⟨rfl,⟨rfl,trivial⟩⟩) (fun e=>ok_slices_Concat_Lapi_Tape_api_Tape ([data1,blank2]:List (List Tape_api)) _ hr6) ?_
 obtain ⟨r7,hr7,hX⟩:=bind_some hX
 refine TL.cvX rfl rfl rfl (fun _=>⟨rfl,⟨rfl,trivial⟩⟩) (fun e=>ok_group_labels r6 _ hr7) ?_
 refine P1 (p_bld (l:=Enc.cl ((Seal_api.mk number3 (0:Int) (data1.length:Int) (blank2.length:Int) r7):Seal_api)) ty50 rfl all50 rfl (fun _=>⟨⟨rfl,trivial,rfl⟩,⟨rfl,trivial,rfl⟩,⟨rfl,trivial,rfl⟩,⟨rfl,trivial,rfl⟩,trivial⟩)) rfl rfl ?_
 refine TLc.alO (l:=[Enc.v ((0:Int):Int),Enc.v ((0:Int):Int),Enc.v ((0:Int):Int),Enc.v ((0:Int):Int),.nils]) nd ty50 ti50_z rfl rfl fun b8 nd=>?_
 refine TLc.stV (lu:=Enc.cl ((Seal_api.mk number3 (0:Int) (data1.length:Int) (blank2.length:Int) r7):Seal_api)) nd ty50 rfl (j:=0) rfl rfl rfl (Cells_v ((Seal_api.mk number3 (0:Int) (data1.length:Int) (blank2.length:Int) r7):Seal_api)) rfl rfl [Enc.v ((Seal_api.mk number3 (0:Int) (data1.length:Int) (blank2.length:Int) r7).Number:Int),Enc.v ((Seal_api.mk number3 (0:Int) (data1.length:Int) (blank2.length:Int) r7).Index:Int),Enc.v ((Seal_api.mk number3 (0:Int) (data1.length:Int) (blank2.length:Int) r7).Data:Int),Enc.v ((Seal_api.mk number3 (0:Int) (data1.length:Int) (blank2.length:Int) r7).Parity:Int),Enc.v ((Seal_api.mk number3 (0:Int) (data1.length:Int) (blank2.length:Int) r7).Labels:(List Int))] rfl fun nd=>?_
 refine TL.nil (hK5 _ _ ?_)
 refine TK.seq_k fun K9 hK9=>?_
 refine SR fun K10 hK10=>M rfl rfl (M rfl rfl (P1 (p_ldVa (l':=Enc.cl ((Seal_api.mk number3 (0:Int) (data1.length:Int) (blank2.length:Int) r7):Seal_api)) ty50 rfl rfl nd (j:=0) rfl rfl rfl rfl (Nat.le_of_ble_eq_true rfl)) rfl rfl ?_))
 obtain ⟨r11,hr11,hX⟩:=bind_some hX
 refine TL.cvX rfl rfl rfl (fun _=>⟨rfl,⟨rfl,⟨rfl,⟨rfl,trivial⟩⟩⟩⟩) (fun e=>ok_group_check data1 blank2 (Seal_api.mk number3 (0:Int) (data1.length:Int) (blank2.length:Int) r7) _ hr11) ?_
 refine M rfl rfl (TL.nil (hK10 _ _ (SR fun K12 hK12=>M rfl rfl (P1 (p_neq rfl rfl) rfl rfl (TL.nil (hK12 _ _ ?_))))))
 refine TK.cond (b:=(r11 !=(0:Int))) rfl (fun hc=>?_) (fun hc=>?_)
 ·have hX:=ite_t hc hX
  refine SR fun K13 hK13=>M rfl rfl (M rfl rfl (M rfl rfl (TL.nil (hK13 _ _ ?_))))
  refine TK.wk 6 (L ([]:(List Tape_api))) rfl Wk_nil ?_
  refine TK.ret ?_
  try dsimp only[thenQ]
  exact retN (vs:=[Enc.v (([]:(List Tape_api)):(List Tape_api)),Enc.v r11]) ⟨rfl,rfl,trivial⟩ (by obtain rfl:=some_in hX;rfl) (allVal.mem ⟨v_val _,v_val _,trivial⟩)
 ·have hX:=ite_f hc hX
  refine TK.skip ?_
  refine hK9 _ _ (SR fun K14 hK14=>M rfl rfl (M rfl rfl (P1 (p_lenL (xs:=blank2) kd48 rfl) rfl rfl ?_)))
  obtain ⟨r15,hr15,hX⟩:=bind_some hX
  refine TL.cvX rfl rfl rfl (fun _=>⟨rfl,⟨rfl,⟨rfl,trivial⟩⟩⟩) (fun e=>ok_stripe_Parity data1 (blank2.length:Int) _ hr15) ?_
  refine M rfl rfl (P1 (p_ex rfl rfl Dc) rfl rfl (P1 (p_ex rfl rfl Dc) rfl rfl (M rfl rfl (M rfl rfl (TL.nil (hK14 _ _ ?_))))))
  refine TK.seq_k fun K16 hK16=>?_
  refine SR fun K17 hK17=>M rfl rfl (P1 (p_neq rfl rfl) rfl rfl (TL.nil (hK17 _ _ ?_)))
  refine TK.cond (b:=(r15.2 !=(0:Int))) rfl (fun hc=>?_) (fun hc=>?_)
  ·have hX:=ite_t hc hX
   refine SR fun K18 hK18=>M rfl rfl (M rfl rfl (M rfl rfl (TL.nil (hK18 _ _ ?_))))
   refine TK.wk 6 (L ([]:(List Tape_api))) rfl Wk_nil ?_
   refine TK.ret ?_
   try dsimp only[thenQ]
   exact retN (vs:=[Enc.v (([]:(List Tape_api)):(List Tape_api)),Enc.v r15.2]) ⟨rfl,rfl,trivial⟩ (by obtain rfl:=some_in hX;rfl) (allVal.mem ⟨v_val _,v_val _,trivial⟩)
  ·have hX:=ite_f hc hX
   refine TK.skip ?_
   refine hK16 _ _ (SR fun K19 hK19=>M rfl rfl (TL.nil (hK19 _ _ ?_)))
   refine TK.ownL (α:=Tape_api) 12 54 nd rfl (.inl rfl) fun b20 nd=>?_
   refine TK.seq_k fun K21 hK21=>?_
   refine SR fun K22 hK22=>M rfl rfl (P1 (p_lenL (xs:=blank2) kd48 rfl) rfl rfl (M rfl rfl (TL.nil (hK22 _ _ ?_))))
   refine TK.block ?_
   obtain ⟨o23,hO23,hA23⟩:=bind_some hX
   have E23:∀(l34:List Tape_api) (env:Env) (h:Hp),(∃b33,keepE [12] env=[(12,true,OL b33 l34)]∧Nd [(b33,RL (α:=Tape_api) 54 l34)]∧HSub [(b33,RL (α:=Tape_api) 54 l34)] h)→X.group_Make_e23 l34=some r→K21 env h:=by
    intro l34 env h hE hX
    obtain ⟨b33,henv,nd,hs⟩:=hE
    unfold X.group_Make_e23 at hX
    refine hK21 _ _ (TK.keep [12] ?_)
    rw[henv]
    refine TK.subH hs ?_
    refine SR fun K35 hK35=>M rfl rfl (M rfl rfl (M rfl rfl (TL.nil (hK35 _ _ ?_))))
    refine TK.lay [(6,L l34)] nd (j:=0) rfl ⟨⟨_,rfl,fix_OL nd (j:=0) rfl,rfl⟩,trivial⟩ fun nd=>?_
    refine TK.ret ?_
    try dsimp only[thenQ]
    exact retN (vs:=[Enc.v l34,Enc.v ((0:Int):Int)]) ⟨rfl,rfl,trivial⟩ (by obtain rfl:=some_in hX;rfl) (allVal.mem ⟨v_val _,v_val _,trivial⟩)
   refine TK.iter [0,8,10,12,45,46,47] (fun s env h=>match s with|(c25,c26,c27,c28,c29,out31,x32)=>∃b24 b30,env=[(0,true,Enc.v data1),(8,true,.ref b24 0 5),(10,true,Enc.v (r15.1:(List (List (List UInt8))))),(12,true,OL b30 out31),(45,true,Enc.v blank2),(46,true,Enc.v ((blank2.length:Int):Int)),(47,true,Enc.v x32)]∧Nd [(b24,RV 50 [Enc.v c25,Enc.v c26,Enc.v c27,Enc.v c28,Enc.v c29]),(b30,RL (α:=Tape_api) 54 out31)]∧HSub [(b24,RV 50 [Enc.v c25,Enc.v c26,Enc.v c27,Enc.v c28,Enc.v c29]),(b30,RL (α:=Tape_api) 54 out31)] h) hO23 ⟨b8,b20,rfl,(Nd.pick nd (is:=[1,0]) Dc),(HSub.pick nd (is:=[1,0]) Dc)⟩ ?_
   rintro ⟨c25,c26,c27,c28,c29,out31,x32⟩ env h x23x ⟨b24,b30,rfl,nd,hs⟩ hX hR23
   refine TK.subH hs ?_
   unfold X.group_Make_s23 at hX
   try dsimp only at hX
   refine SR fun K36 hK36=>P1 (p_lss rfl rfl) rfl rfl (TL.nil (hK36 _ _ ?_))
   refine TK.seq_k fun K37 hK37=>?_
   refine TK.cond (b:=(decide (x32<(blank2.length:Int)))) rfl (fun hc=>?_) (fun hc=>?_)
   ·have hX:=ite_t hc hX
    refine TK.skip ?_
    refine hK37 _ _ ?_
    refine TK.seq_k fun K38 hK38=>?_
    refine TK.block ?_
    refine SR fun K39 hK39=>M rfl rfl ?_
    obtain ⟨e40,he40,hX⟩:=bind_some hX
    refine P1 (p_iaL (xs:=blank2) kd48 ty54 rfl rfl rfl (fun _=>he40)) rfl rfl (P1 (p_ldE (xs:=blank2) (a:=e40) (e40:Tape_api) ty54 rfl rfl (fun _=>he40) rfl rfl rfl) rfl rfl ?_)
    refine TLc.alO (l:=[Enc.v ((0:Int):Int),Enc.v ((0:Int):Int),.nils,Enc.v false]) nd ty54 ti54_z rfl rfl fun b41 nd=>?_
    refine M rfl rfl ?_
    refine TLc.stV (lu:=Enc.cl (e40:Tape_api)) nd ty54 rfl (j:=0) rfl rfl rfl (Cells_v (e40:Tape_api)) rfl rfl [Enc.v e40.Label,Enc.v e40.Cap,Enc.v e40.Blocks,Enc.v e40.Lost] rfl fun nd=>?_
    refine TL.nil (hK39 _ _ (SR fun K42 hK42=>M rfl rfl (P1 (p_lenL (xs:=data1) kd48 rfl) rfl rfl (M rfl rfl (P1 (p_add rfl rfl) rfl rfl (P1 (p_faV fs50_1 Dc rfl nd (j:=1) rfl rfl) rfl rfl ?_))))))
    refine TLc.stV (lu:=Enc.cl ((wr ((data1.length:Int)+x32)):Int)) nd ty3 rfl (j:=1) rfl rfl rfl (Cells_v ((wr ((data1.length:Int)+x32)):Int)) rfl rfl [Enc.v c25,Enc.v ((wr ((data1.length:Int)+x32)):Int),Enc.v c27,Enc.v c28,Enc.v c29] rfl fun nd=>?_
    refine TL.nil (hK42 _ _ ?_)
    refine TK.seq_k fun K43 hK43=>?_
    have ndS:Nd [(b41,RV 54 [Enc.v e40.Label,Enc.v e40.Cap,Enc.v e40.Blocks,Enc.v e40.Lost]),(b24,RV 50 [Enc.v c25,Enc.v ((wr ((data1.length:Int)+x32)):Int),Enc.v c27,Enc.v c28,Enc.v c29]),(b30,RL (α:=Tape_api) 54 out31)]:=Nd.pick nd (is:=[0,1,2]) Dc
    refine TK.drwX (h:=[]) (hS:=[(b41,RV 54 [Enc.v e40.Label,Enc.v e40.Cap,Enc.v e40.Blocks,Enc.v e40.Lost]),(b24,RV 50 [Enc.v c25,Enc.v ((wr ((data1.length:Int)+x32)):Int),Enc.v c27,Enc.v c28,Enc.v c29]),(b30,RL (α:=Tape_api) 54 out31)]) [(0,0),(0,1),(0,2),(0,3),(0,4),(0,5),(0,6),(0,7),(0,8),(0,9),(2,10),(2,11),(0,12)] mixed (by kernel_rfl) (HSub_app nd) ?_
    refine D0 rfl (p_ldVa (l':=Enc.cl (e40:Tape_api)) ty54 rfl rfl ndS (j:=0) rfl rfl rfl rfl (Nat.le_of_ble_eq_true rfl)) rfl rfl ?_
    refine D0 rfl (p_ldVa (l':=Enc.cl ((Seal_api.mk c25 (wr ((data1.length:Int)+x32)) c27 c28 c29):Seal_api)) ty50 rfl rfl ndS (j:=1) rfl rfl rfl rfl (Nat.le_of_ble_eq_true rfl)) rfl rfl ?_
    refine DM rfl rfl rfl ?_
    refine DM rfl rfl rfl ?_
    obtain ⟨e44,he44,hX⟩:=bind_some hX
    refine D0 rfl (p_iaL (xs:=r15.1) kd111 ty22 rfl rfl rfl (fun _=>he44)) rfl rfl ?_
    refine D0 rfl (p_ldE (xs:=r15.1) (a:=e44) (e44:(List (List UInt8))) ty22 rfl rfl (fun _=>he44) rfl rfl rfl) rfl rfl ?_
    obtain ⟨r45,hr45,hX⟩:=bind_some hX
    refine DR0 (gc:=true) rfl (vok_c rfl (fun _=>⟨rfl,⟨rfl,⟨rfl,⟨rfl,trivial⟩⟩⟩⟩) (fun e=>ok_group_tape e40 (Seal_api.mk c25 (wr ((data1.length:Int)+x32)) c27 c28 c29) e44 _ hr45)) rfl rfl ?_
    refine DM rfl rfl rfl ?_
    refine D0 rfl (p_ex rfl rfl Dc) rfl rfl ?_
    refine D0 rfl (p_ex rfl rfl Dc) rfl rfl ?_
    refine DR2 rfl rfl ?_
    refine TLc.alO (l:=[Enc.v ((0:Int):Int),Enc.v ((0:Int):Int),.nils,Enc.v false]) nd ty54 ti54_z rfl rfl fun b46 nd=>?_
    refine TL.nil ⟨_,[(b46,RV 54 [Enc.v ((0:Int):Int),Enc.v ((0:Int):Int),.nils,Enc.v false])],rfl,rfl,HSub_app nd,?_⟩
    refine DR2n rfl ?_
    refine TLc.stV (lu:=Enc.cl (r45.1:Tape_api)) nd ty54 rfl (j:=0) rfl rfl rfl (Cells_v (r45.1:Tape_api)) rfl rfl [Enc.v r45.1.Label,Enc.v r45.1.Cap,Enc.v r45.1.Blocks,Enc.v r45.1.Lost] rfl fun nd=>?_
    refine TL.nil ⟨.nilp,[(b46,RV 54 [Enc.v r45.1.Label,Enc.v r45.1.Cap,Enc.v r45.1.Blocks,Enc.v r45.1.Lost])],rfl,rfl,HSub_app nd,?_⟩
    refine DM rfl rfl rfl ?_
    refine DRend ?_
    refine hK43 _ _ ?_
    refine TK.seq_k fun K47 hK47=>?_
    refine SR fun K48 hK48=>M rfl rfl (P1 (p_neq rfl rfl) rfl rfl (TL.nil (hK48 _ _ ?_)))
    refine TK.cond (b:=(r45.2 !=(0:Int))) rfl (fun hc=>?_) (fun hc=>?_)
    ·have hX:=ite_t hc hX
     refine SR fun K49 hK49=>M rfl rfl (M rfl rfl (M rfl rfl (TL.nil (hK49 _ _ ?_))))
     refine TK.wk 6 (L ([]:(List Tape_api))) rfl Wk_nil ?_
     refine TK.ret ?_
     obtain rfl:=hR23 _ (some_in hX).symm
     replace hX:=hA23
     try dsimp only[thenQ]
     exact retN (vs:=[Enc.v (([]:(List Tape_api)):(List Tape_api)),Enc.v r45.2]) ⟨rfl,rfl,trivial⟩ (by obtain rfl:=some_in hX;rfl) (allVal.mem ⟨v_val _,v_val _,trivial⟩)
    ·have hX:=ite_f hc hX
     refine TK.skip ?_
     refine hK47 _ _ ?_
     refine TK.reg ?_
     refine M rfl rfl (P1 (p_ldVa (l':=Enc.cl (r45.1:Tape_api)) ty54 rfl rfl nd (j:=0) rfl rfl rfl rfl (Nat.le_of_ble_eq_true rfl)) rfl rfl ?_)
     refine TLc.lit ([r45.1]:List Tape_api) kd48 ty54 rfl ⟨⟨rfl,rfl⟩,trivial⟩ rfl rfl rfl ?_
     obtain ⟨u50,hu50,hX⟩:=bind_some hX
     refine TLc.appO nd kd48 bo48 ty54 rfl rfl (j:=3) rfl rfl (Src_L _) Dc (need_t hu50) rfl fun nd=>?_
     refine M rfl rfl (TL.nil (hK38 _ _ ?_))
     refine TK.reg ?_
     refine P1 (p_add rfl rfl) rfl rfl (M rfl rfl (TL.nil ?_))
     exact ⟨_,(some_in hX).symm,b24,b30,rfl,(Nd.pick nd (is:=[2,3]) Dc),(HSub.pick nd (is:=[2,3]) Dc)⟩
   ·have hX:=ite_f hc hX
    refine TK.exit ?_
    obtain rfl:=hR23 _ (some_in hX).symm
    exact E23 out31 _ _ ⟨b30,rfl,(Nd.pick nd (is:=[1]) Dc),(HSub.pick nd (is:=[1]) Dc)⟩ hA23
theorem ok_code_Reader_Left (b1:(List UInt8)) (bad2:Bool) (r:Int) (hX:X.code_Reader_Left b1 bad2=some r):Fun Try.prog 160 [.vref (ofL [Enc.v (b1:(List UInt8)),Enc.v (bad2:Bool)]) 2 0] (·=Enc.v (r:Int)):=by
 refine Fun.of b160 (Nat.le_of_ble_eq_true rfl) (allVal.mem ⟨(by exact (vref_val (l:=[Enc.v (b1:(List UInt8)),Enc.v (bad2:Bool)]) rfl ⟨(v_val _),(v_val _),trivial⟩)),trivial⟩) ?_
 unfold k160
 have nd:Nd []:=Nd_nil
 unfold X.code_Reader_Left at hX
 refine SR fun K3 hK3=>M rfl rfl (TL.nil (hK3 _ _ ?_))
 refine TK.seq_k fun K4 hK4=>?_
 refine SR fun K5 hK5=>M rfl rfl (P1 (p_eqV kd192 rfl rfl) rfl rfl (TL.nil (hK5 _ _ ?_)))
 refine TK.cond (b:=false) rfl (fun hc=>by simp at hc) (fun _=>?_)
 refine TK.skip ?_
 refine hK4 _ _ (SR fun K6 hK6=>M rfl rfl (P1 (p_ncV rfl) rfl rfl (P1 (p_faR fs215_0 Dc rfl) rfl rfl (P1 (p_ldR (v:=Enc.v b1) ty25 rfl rfl rfl rfl rfl rfl) rfl rfl (P1 (p_lenL (xs:=b1) kd25 rfl) rfl rfl (M rfl rfl (TL.nil (hK6 _ _ ?_))))))))
 refine TK.ret ?_
 try dsimp only[thenQ]
 exact R1 rfl hX
theorem bc_record_ReadSeal:BodyC cx 116 47 [.c 2 50,.t 3] k116:=⟨Enters.of Try.func116 (by kernel_rfl) (by kernel_rfl),_,_,Try.func116,rfl,by kernel_rfl,rfl,rfl⟩
theorem ok_record_ReadSeal (b1:(List UInt8)) (r:(Seal_api×Int)) (hX:X.record_ReadSeal b1=some r):Fun Try.prog 116 [Enc.v (b1:(List UInt8))] (·= .tup 2 (ofL [Enc.v r.1,Enc.v r.2])):=by
 refine Fun.ofC (C:=cx) bc_record_ReadSeal (Nat.le_of_ble_eq_true rfl) (allVal.mem ⟨(by exact (v_val _)),trivial⟩) ?_
 unfold k116
 have nd:Nd []:=Nd_nil
 unfold X.record_ReadSeal at hX
 refine SR fun K2 hK2=>?_
 refine TLc.alO (l:=[Enc.v ((0:Int):Int),Enc.v ((0:Int):Int),Enc.v ((0:Int):Int),Enc.v ((0:Int):Int),.nils]) nd ty50 ti50_z rfl rfl fun b3 nd=>?_
 refine M rfl rfl (TL.nil (hK2 _ _ ?_))
 refine TK.ownC (α:=Int) nd (j:=0) rfl 4 3 (.inl rfl) fun b4 nd=>?_
 refine SR fun K5 hK5=>M rfl rfl ?_
 obtain ⟨r6,hr6,hX⟩:=bind_some hX
 refine TL.tcX [] [(b4,RL (α:=Int) 3 ([]:List Int)),(b3,RV 50 [Enc.v ((0:Int):Int),Enc.v ((0:Int):Int),Enc.v ((0:Int):Int),Enc.v ((0:Int):Int),OL (α:=Int) b4 ([]:List Int)])] rfl nd (dlt rfl) rfl ⟨rfl,⟨rfl,trivial⟩⟩ (ok_code_NewReader b1 (Nd.take nd 0 rfl) _ hr6) ?_
 rintro _ _ hQ nd
 obtain ⟨b7,rfl,rfl⟩:=hQ
 refine M rfl rfl (TL.nil (hK5 _ _ (SR fun K8 hK8=>M rfl rfl ?_)))
 obtain ⟨r9,hr9,hX⟩:=bind_some hX
 refine TL.tcX [(b7,RV 215 [Enc.v r6.1,Enc.v r6.2])] [(b4,RL (α:=Int) 3 ([]:List Int)),(b3,RV 50 [Enc.v ((0:Int):Int),Enc.v ((0:Int):Int),Enc.v ((0:Int):Int),Enc.v ((0:Int):Int),OL (α:=Int) b4 ([]:List Int)])] rfl nd (dlt rfl) rfl ⟨rfl,⟨rfl,trivial⟩⟩ (ok_code_Reader_Int r6.1 r6.2 b7 (Nd.take nd 1 rfl) _ hr9) ?_
 rintro _ _ hQ nd
 obtain ⟨rfl,rfl⟩:=hQ
 refine P1 (p_bld (l:=[Enc.v r9.1,Enc.v ((0:Int):Int),Enc.v ((0:Int):Int),Enc.v ((0:Int):Int),.nils]) ty50 rfl all50 rfl (fun _=>⟨⟨rfl,trivial,rfl⟩,trivial⟩)) rfl rfl ?_
 refine TLc.alO (l:=[Enc.v ((0:Int):Int),Enc.v ((0:Int):Int),Enc.v ((0:Int):Int),Enc.v ((0:Int):Int),.nils]) nd ty50 ti50_z rfl rfl fun b11 nd=>?_
 refine TLc.stV (lu:=[Enc.v r9.1,Enc.v ((0:Int):Int),Enc.v ((0:Int):Int),Enc.v ((0:Int):Int),.nils]) nd ty50 rfl (j:=0) rfl rfl rfl (Cells_agg rfl (allA.mem ⟨trivial,trivial,trivial,trivial,trivial,trivial⟩)) rfl rfl [Enc.v r9.1,Enc.v ((0:Int):Int),Enc.v ((0:Int):Int),Enc.v ((0:Int):Int),.nils] rfl fun nd=>?_
 refine TL.nil (hK8 _ _ ?_)
 refine TK.ownC (α:=Int) nd (j:=0) rfl 4 3 (.inl rfl) fun b12 nd=>?_
 refine TK.seq_k fun K13 hK13=>?_
 refine SR fun K14 hK14=>P1 (p_faV fs50_1 Dc rfl nd (j:=1) rfl rfl) rfl rfl (P1 (p_faV fs50_2 Dc rfl nd (j:=1) rfl rfl) rfl rfl (P1 (p_faV fs50_3 Dc rfl nd (j:=1) rfl rfl) rfl rfl ?_))
 refine TLc.litR [.ref b11 1 5,.ref b11 2 5,.ref b11 3 5] kd195 ty194 rfl ⟨⟨rfl,rfl,refOK_of nd (j:=1) rfl rfl⟩,⟨rfl,rfl,refOK_of nd (j:=1) rfl rfl⟩,⟨rfl,rfl,refOK_of nd (j:=1) rfl rfl⟩,trivial⟩ rfl rfl rfl ?_
 refine P1 (p_lenR' kd195 rfl) rfl rfl (M rfl rfl (TL.nil (hK14 _ _ ?_)))
 refine TK.block ?_
 refine TK.unroll 16 ?_
 refine unr_s ?_
 refine SR fun K16 hK16=>P1 (p_lss rfl rfl) rfl rfl (TL.nil (hK16 _ _ ?_))
 refine TK.seq_k fun K17 hK17=>?_
 refine TK.cond (b:=true) rfl (fun _=>?_) (fun hc=>by simp at hc)
 refine TK.skip ?_
 refine hK17 _ _ ?_
 refine TK.seq_k fun K18 hK18=>?_
 refine TK.block ?_
 refine SR fun K19 hK19=>P1 (p_iaR kd195 ty194 rfl rfl rfl Dc Dc) rfl rfl (P1 (p_ldR (v:= .ref b11 1 5) ty194 rfl rfl rfl rfl rfl rfl) rfl rfl (M rfl rfl (TL.nil (hK19 _ _ ?_))))
 refine TK.reg ?_
 refine M rfl rfl (M rfl rfl ?_)
 obtain ⟨r20,hr20,hX⟩:=bind_some hX
 refine TL.pick [2,0,1,3,4] nd Dc fun nd=>?_
 refine TL.tcX [(b7,RV 215 [Enc.v r9.2.1,Enc.v r9.2.2])] [(b12,RL (α:=Int) 3 ([]:List Int)),(b11,RV 50 [Enc.v r9.1,Enc.v ((0:Int):Int),Enc.v ((0:Int):Int),Enc.v ((0:Int):Int),OL (α:=Int) b12 ([]:List Int)]),(b4,RL (α:=Int) 3 ([]:List Int)),(b3,RV 50 [Enc.v ((0:Int):Int),Enc.v ((0:Int):Int),Enc.v ((0:Int):Int),Enc.v ((0:Int):Int),OL (α:=Int) b4 ([]:List Int)])] rfl nd (dlt rfl) rfl ⟨rfl,⟨rfl,trivial⟩⟩ (ok_code_Reader_Byte r9.2.1 r9.2.2 b7 (Nd.take nd 1 rfl) _ hr20) ?_
 rintro _ _ hQ nd
 obtain ⟨rfl,rfl⟩:=hQ
 refine P1 (p_cvt src5 kd3 rfl (cv_8 r20.1)) rfl rfl (P1 (p_ncR rfl (fun _=>refOK_of nd (j:=2) rfl rfl)) rfl rfl ?_)
 refine TLc.stV (lu:=Enc.cl ((r20.1.toNat:Int):Int)) nd ty3 rfl (j:=2) rfl rfl rfl (Cells_v ((r20.1.toNat:Int):Int)) rfl rfl [Enc.v r9.1,Enc.v ((r20.1.toNat:Int):Int),Enc.v ((0:Int):Int),Enc.v ((0:Int):Int),OL (α:=Int) b12 ([]:List Int)] rfl fun nd=>?_
 refine TL.nil (hK18 _ _ ?_)
 refine TK.reg ?_
 refine P1 (p_add rfl rfl) rfl rfl (M rfl rfl (TL.nil ?_))
 try dsimp only[thenQ]
 refine unr_s ?_
 refine SR fun K22 hK22=>P1 (p_lss rfl rfl) rfl rfl (TL.nil (hK22 _ _ ?_))
 refine TK.seq_k fun K23 hK23=>?_
 refine TK.cond (b:=true) rfl (fun _=>?_) (fun hc=>by simp at hc)
 refine TK.skip ?_
 refine hK23 _ _ ?_
 refine TK.seq_k fun K24 hK24=>?_
 refine TK.block ?_
 refine SR fun K25 hK25=>P1 (p_iaR kd195 ty194 rfl rfl rfl Dc Dc) rfl rfl (P1 (p_ldR (v:= .ref b11 2 5) ty194 rfl rfl rfl rfl rfl rfl) rfl rfl (M rfl rfl (TL.nil (hK25 _ _ ?_))))
 refine TK.reg ?_
 refine M rfl rfl (M rfl rfl ?_)
 obtain ⟨r26,hr26,hX⟩:=bind_some hX
 refine TL.tcX [(b7,RV 215 [Enc.v r20.2.1,Enc.v r20.2.2])] [(b12,RL (α:=Int) 3 ([]:List Int)),(b11,RV 50 [Enc.v r9.1,Enc.v ((r20.1.toNat:Int):Int),Enc.v ((0:Int):Int),Enc.v ((0:Int):Int),OL (α:=Int) b12 ([]:List Int)]),(b4,RL (α:=Int) 3 ([]:List Int)),(b3,RV 50 [Enc.v ((0:Int):Int),Enc.v ((0:Int):Int),Enc.v ((0:Int):Int),Enc.v ((0:Int):Int),OL (α:=Int) b4 ([]:List Int)])] rfl nd (dlt rfl) rfl ⟨rfl,⟨rfl,trivial⟩⟩ (ok_code_Reader_Byte r20.2.1 r20.2.2 b7 (Nd.take nd 1 rfl) _ hr26) ?_
 rintro _ _ hQ nd
 obtain ⟨rfl,rfl⟩:=hQ
 refine P1 (p_cvt src5 kd3 rfl (cv_8 r26.1)) rfl rfl (P1 (p_ncR rfl (fun _=>refOK_of nd (j:=2) rfl rfl)) rfl rfl ?_)
 refine TLc.stV (lu:=Enc.cl ((r26.1.toNat:Int):Int)) nd ty3 rfl (j:=2) rfl rfl rfl (Cells_v ((r26.1.toNat:Int):Int)) rfl rfl [Enc.v r9.1,Enc.v ((r20.1.toNat:Int):Int),Enc.v ((r26.1.toNat:Int):Int),Enc.v ((0:Int):Int),OL (α:=Int) b12 ([]:List Int)] rfl fun nd=>?_
 refine TL.nil (hK24 _ _ ?_)
 refine TK.reg ?_
 refine P1 (p_add rfl rfl) rfl rfl (M rfl rfl (TL.nil ?_))
 try dsimp only[thenQ]
 refine unr_s ?_
 refine SR fun K28 hK28=>P1 (p_lss rfl rfl) rfl rfl (TL.nil (hK28 _ _ ?_))
 refine TK.seq_k fun K29 hK29=>?_
 refine TK.cond (b:=true) rfl (fun _=>?_) (fun hc=>by simp at hc)
 refine TK.skip ?_
 refine hK29 _ _ ?_
 refine TK.seq_k fun K30 hK30=>?_
 refine TK.block ?_
 refine SR fun K31 hK31=>P1 (p_iaR kd195 ty194 rfl rfl rfl Dc Dc) rfl rfl (P1 (p_ldR (v:= .ref b11 3 5) ty194 rfl rfl rfl rfl rfl rfl) rfl rfl (M rfl rfl (TL.nil (hK31 _ _ ?_))))
 refine TK.reg ?_
 refine M rfl rfl (M rfl rfl ?_)
 obtain ⟨r32,hr32,hX⟩:=bind_some hX
 refine TL.tcX [(b7,RV 215 [Enc.v r26.2.1,Enc.v r26.2.2])] [(b12,RL (α:=Int) 3 ([]:List Int)),(b11,RV 50 [Enc.v r9.1,Enc.v ((r20.1.toNat:Int):Int),Enc.v ((r26.1.toNat:Int):Int),Enc.v ((0:Int):Int),OL (α:=Int) b12 ([]:List Int)]),(b4,RL (α:=Int) 3 ([]:List Int)),(b3,RV 50 [Enc.v ((0:Int):Int),Enc.v ((0:Int):Int),Enc.v ((0:Int):Int),Enc.v ((0:Int):Int),OL (α:=Int) b4 ([]:List Int)])] rfl nd (dlt rfl) rfl ⟨rfl,⟨rfl,trivial⟩⟩ (ok_code_Reader_Byte r26.2.1 r26.2.2 b7 (Nd.take nd 1 rfl) _ hr32) ?_
 rintro _ _ hQ nd
 obtain ⟨rfl,rfl⟩:=hQ
 refine P1 (p_cvt src5 kd3 rfl (cv_8 r32.1)) rfl rfl (P1 (p_ncR rfl (fun _=>refOK_of nd (j:=2) rfl rfl)) rfl rfl ?_)
 refine TLc.stV (lu:=Enc.cl ((r32.1.toNat:Int):Int)) nd ty3 rfl (j:=2) rfl rfl rfl (Cells_v ((r32.1.toNat:Int):Int)) rfl rfl [Enc.v r9.1,Enc.v ((r20.1.toNat:Int):Int),Enc.v ((r26.1.toNat:Int):Int),Enc.v ((r32.1.toNat:Int):Int),OL (α:=Int) b12 ([]:List Int)] rfl fun nd=>?_
 refine TL.nil (hK30 _ _ ?_)
 refine TK.reg ?_
 refine P1 (p_add rfl rfl) rfl rfl (M rfl rfl (TL.nil ?_))
 try dsimp only[thenQ]
 refine unr_s ?_
 refine SR fun K34 hK34=>P1 (p_lss rfl rfl) rfl rfl (TL.nil (hK34 _ _ ?_))
 refine TK.seq_k fun K35 hK35=>?_
 refine TK.cond (b:=false) rfl (fun hc=>by simp at hc) (fun _=>?_)
 refine TK.exit ?_
 refine hK13 _ _ ?_
 refine TK.seq_k fun K36 hK36=>?_
 refine TK.block ?_
 obtain ⟨o37,hO37,hA37⟩:=bind_some hX
 have E37:∀(c53:(List UInt8)) (c54:Bool) (c56:Int) (c57:Int) (c58:Int) (c59:Int) (l61:List Int) (env:Env) (h:Hp),(∃b51 b50 b52 b60 b55,keepE [2,4,5] env=[(2,true,.ref b50 0 5),(4,true,.ref b52 0 2),(5,true,.ref b55 0 5)]∧Nd [(b51,RL (α:=Int) 3 ([]:List Int)),(b50,RV 50 [Enc.v ((0:Int):Int),Enc.v ((0:Int):Int),Enc.v ((0:Int):Int),Enc.v ((0:Int):Int),OL (α:=Int) b51 ([]:List Int)]),(b52,RV 215 [Enc.v c53,Enc.v c54]),(b60,RL (α:=Int) 3 l61),(b55,RV 50 [Enc.v c56,Enc.v c57,Enc.v c58,Enc.v c59,OL b60 l61])]∧HSub [(b51,RL (α:=Int) 3 ([]:List Int)),(b50,RV 50 [Enc.v ((0:Int):Int),Enc.v ((0:Int):Int),Enc.v ((0:Int):Int),Enc.v ((0:Int):Int),OL (α:=Int) b51 ([]:List Int)]),(b52,RV 215 [Enc.v c53,Enc.v c54]),(b60,RL (α:=Int) 3 l61),(b55,RV 50 [Enc.v c56,Enc.v c57,Enc.v c58,Enc.v c59,OL b60 l61])] h)→X.record_ReadSeal_e37 c53 c54 c56 c57 c58 c59 l61=some r→K36 env h:=by
  intro c53 c54 c56 c57 c58 c59 l61 env h hE hX
  obtain ⟨b51,b50,b52,b60,b55,henv,nd,hs⟩:=hE
  unfold X.record_ReadSeal_e37 at hX
  refine hK36 _ _ (TK.keep [2,4,5] ?_)
  rw[henv]
  refine TK.subH hs ?_
  refine TK.seq_k fun K62 hK62=>?_
  refine SR fun K63 hK63=>M rfl rfl ?_
  obtain ⟨r64,hr64,hX⟩:=bind_some hX
  refine TL.lookX [.vref (ofL [Enc.v c53,Enc.v c54]) 2 0] rfl rfl rfl (fun _=>⟨rfl,⟨rfl,trivial⟩⟩) ⟨look_ref (l:=[Enc.v c53,Enc.v c54]) nd (j:=2) rfl ⟨look_v (v:=Enc.v c53) (v_val _),look_v (v:=Enc.v c54) (v_val _),trivial⟩,trivial⟩ (fun e=>ok_code_Reader_Bad c53 c54 _ hr64) (trivial) ?_
  refine M rfl rfl ?_
  refine TL.layR (l2':=[Enc.v c56,Enc.v c57,Enc.v c58,Enc.v c59,Enc.v l61]) [] nd (j:=3) rfl 4 rfl rfl ⟨fix_id _,fix_id _,fix_id _,fix_id _,fix_OL nd (j:=3) rfl,trivial⟩ trivial fun nd=>?_
  refine TLc.p (gc:=(!r64)) (p_ldVa (l':=Enc.cl ((Seal_api.mk c56 c57 c58 c59 l61):Seal_api)) ty50 rfl rfl nd (j:=3) rfl rfl rfl rfl (Nat.le_of_ble_eq_true rfl) (hg:=fun e=>rfl)) (gcF1 rfl) rfl ?_
  obtain ⟨r65,hr65,hX⟩:=bind_some hX
  refine TL.cvX (gcF1 rfl) rfl rfl (fun e=>⟨rfl,⟨e,trivial⟩⟩) (fun e=>ok_record_RightSeal (Seal_api.mk c56 c57 c58 c59 l61) _ (optG_t hr65 e)) ?_
  refine TLc.p (gc:=(!r64)) (p_not rfl (hg:=fun e=>e)) (gcF1 rfl) rfl ?_
  refine P1 (p_or rfl rfl (fun e=>⟨rfl,fun h=>(not_t h)⟩)) rfl rfl (TL.nil (hK63 _ _ ?_))
  refine TK.cond (b:=(r64||(!r65))) rfl (fun hc=>?_) (fun hc=>?_)
  ·have hX:=ite_t hc hX
   refine SR fun K66 hK66=>P1 (p_bld (l:=[Enc.v ((0:Int):Int),Enc.v ((0:Int):Int),Enc.v ((0:Int):Int),Enc.v ((0:Int):Int),.nils]) ty50 rfl all50 rfl (fun _=>trivial)) rfl rfl ?_
   refine TLc.stV (lu:=[Enc.v ((0:Int):Int),Enc.v ((0:Int):Int),Enc.v ((0:Int):Int),Enc.v ((0:Int):Int),.nils]) nd ty50 rfl (j:=1) rfl rfl rfl (Cells_agg rfl (allA.mem ⟨trivial,trivial,trivial,trivial,trivial,trivial⟩)) rfl rfl [Enc.v ((0:Int):Int),Enc.v ((0:Int):Int),Enc.v ((0:Int):Int),Enc.v ((0:Int):Int),.nils] rfl fun nd=>?_
   refine M rfl rfl (TL.nil (hK66 _ _ ?_))
   refine TK.ownC (α:=Int) nd (j:=1) rfl 4 3 (.inl rfl) fun b67 nd=>?_
   refine TK.layR (l2':=[Enc.v ((0:Int):Int),Enc.v ((0:Int):Int),Enc.v ((0:Int):Int),Enc.v ((0:Int):Int),Enc.v (([]:List Int):(List Int))]) [] nd (j:=0) rfl 2 rfl rfl ⟨fix_id _,fix_id _,fix_id _,fix_id _,fix_OL nd (j:=0) rfl,trivial⟩ trivial fun nd=>?_
   refine TK.ret ?_
   try dsimp only[thenQ]
   exact retC [Enc.v ((Seal_api.mk (0:Int) (0:Int) (0:Int) (0:Int) ([]:List Int)):Seal_api),Enc.v ((2:Int):Int)] ⟨p_ldVa (l':=Enc.cl ((Seal_api.mk (0:Int) (0:Int) (0:Int) (0:Int) ([]:List Int)):Seal_api)) ty50 rfl rfl nd (j:=1) rfl rfl rfl rfl (Nat.le_of_ble_eq_true rfl),p_mv rfl,trivial⟩ (by obtain rfl:=some_in hX;rfl) (tup_val (allVal.mem ⟨v_val _,v_val _,trivial⟩))
  ·have hX:=ite_f hc hX
   refine TK.skip ?_
   refine hK62 _ _ (SR fun K68 hK68=>P1 (p_ldVa (l':=Enc.cl ((Seal_api.mk c56 c57 c58 c59 l61):Seal_api)) ty50 rfl rfl nd (j:=3) rfl rfl rfl rfl (Nat.le_of_ble_eq_true rfl)) rfl rfl ?_)
   refine TLc.stV (lu:=Enc.cl ((Seal_api.mk c56 c57 c58 c59 l61):Seal_api)) nd ty50 rfl (j:=1) rfl rfl rfl (Cells_v ((Seal_api.mk c56 c57 c58 c59 l61):Seal_api)) rfl rfl [Enc.v ((Seal_api.mk c56 c57 c58 c59 l61).Number:Int),Enc.v ((Seal_api.mk c56 c57 c58 c59 l61).Index:Int),Enc.v ((Seal_api.mk c56 c57 c58 c59 l61).Data:Int),Enc.v ((Seal_api.mk c56 c57 c58 c59 l61).Parity:Int),Enc.v ((Seal_api.mk c56 c57 c58 c59 l61).Labels:(List Int))] rfl fun nd=>?_
   refine M rfl rfl (TL.nil (hK68 _ _ ?_))
   refine TK.ret ?_
   try dsimp only[thenQ]
   exact retC [Enc.v ((Seal_api.mk c56 c57 c58 c59 l61):Seal_api),Enc.v ((0:Int):Int)] ⟨p_ldVa (l':=Enc.cl ((Seal_api.mk c56 c57 c58 c59 l61):Seal_api)) ty50 rfl rfl nd (j:=1) rfl rfl rfl rfl (Nat.le_of_ble_eq_true rfl),p_mv rfl,trivial⟩ (by obtain rfl:=some_in hX;rfl) (tup_val (allVal.mem ⟨v_val _,v_val _,trivial⟩))
 refine TK.iter [2,4,5] (fun s env h=>match s with|(c41,c42,c44,c45,c46,c47,l49)=>∃b39 b38 b40 b48 b43,env=[(2,true,.ref b38 0 5),(4,true,.ref b40 0 2),(5,true,.ref b43 0 5)]∧Nd [(b39,RL (α:=Int) 3 ([]:List Int)),(b38,RV 50 [Enc.v ((0:Int):Int),Enc.v ((0:Int):Int),Enc.v ((0:Int):Int),Enc.v ((0:Int):Int),OL (α:=Int) b39 ([]:List Int)]),(b40,RV 215 [Enc.v c41,Enc.v c42]),(b48,RL (α:=Int) 3 l49),(b43,RV 50 [Enc.v c44,Enc.v c45,Enc.v c46,Enc.v c47,OL b48 l49])]∧HSub [(b39,RL (α:=Int) 3 ([]:List Int)),(b38,RV 50 [Enc.v ((0:Int):Int),Enc.v ((0:Int):Int),Enc.v ((0:Int):Int),Enc.v ((0:Int):Int),OL (α:=Int) b39 ([]:List Int)]),(b40,RV 215 [Enc.v c41,Enc.v c42]),(b48,RL (α:=Int) 3 l49),(b43,RV 50 [Enc.v c44,Enc.v c45,Enc.v c46,Enc.v c47,OL b48 l49])] h) hO37 ⟨b4,b3,b7,b12,b11,rfl,(Nd.pick nd (is:=[3,4,0,1,2]) Dc),(HSub.pick nd (is:=[3,4,0,1,2]) Dc)⟩ ?_
 rintro ⟨c41,c42,c44,c45,c46,c47,l49⟩ env h x37x ⟨b39,b38,b40,b48,b43,rfl,nd,hs⟩ hX hR37
 refine TK.subH hs ?_
 unfold X.record_ReadSeal_s37 at hX
 try dsimp only at hX
 refine TK.seq_k fun K69 hK69=>?_
 refine SR fun K70 hK70=>M rfl rfl ?_
 obtain ⟨r71,hr71,hX⟩:=bind_some hX
 refine TL.lookX [.vref (ofL [Enc.v c41,Enc.v c42]) 2 0] rfl rfl rfl (fun _=>⟨rfl,⟨rfl,trivial⟩⟩) ⟨look_ref (l:=[Enc.v c41,Enc.v c42]) nd (j:=2) rfl ⟨look_v (v:=Enc.v c41) (v_val _),look_v (v:=Enc.v c42) (v_val _),trivial⟩,trivial⟩ (fun e=>ok_code_Reader_Left c41 c42 _ hr71) (trivial) ?_
 refine P1 (p_gtr rfl rfl) rfl rfl (TL.nil (hK70 _ _ ?_))
 refine TK.cond (b:=(decide (r71>(0:Int)))) rfl (fun hc=>?_) (fun hc=>?_)
 ·have hX:=ite_t hc hX
  refine TK.skip ?_
  refine hK69 _ _ ?_
  refine TK.block ?_
  refine TK.pick [2,3,0,1,4] nd Dc fun nd=>?_
  have ndS:Nd [(b39,RL (α:=Int) 3 ([]:List Int)),(b38,RV 50 [Enc.v ((0:Int):Int),Enc.v ((0:Int):Int),Enc.v ((0:Int):Int),Enc.v ((0:Int):Int),OL (α:=Int) b39 ([]:List Int)]),(b43,RV 50 [Enc.v c44,Enc.v c45,Enc.v c46,Enc.v c47,OL b48 l49])]:=Nd.pick nd (is:=[2,3,4]) Dc
  refine TK.drwX (h:=[(b40,RV 215 [Enc.v c41,Enc.v c42]),(b48,RL (α:=Int) 3 l49)]) (hS:=[(b39,RL (α:=Int) 3 ([]:List Int)),(b38,RV 50 [Enc.v ((0:Int):Int),Enc.v ((0:Int):Int),Enc.v ((0:Int):Int),Enc.v ((0:Int):Int),OL (α:=Int) b39 ([]:List Int)]),(b43,RV 50 [Enc.v c44,Enc.v c45,Enc.v c46,Enc.v c47,OL b48 l49])]) [(0,0),(0,1),(0,2),(2,3),(0,4),(2,5),(0,6),(3,7)] mixed (by kernel_rfl) (HSub_app nd) ?_
  refine D0 rfl (p_faV fs50_4 Dc rfl ndS (j:=2) rfl rfl) rfl rfl ?_
  refine D0 rfl (p_ldV (v:=OL b48 l49) ty47 rfl rfl ndS (j:=2) rfl rfl rfl rfl rfl) rfl rfl ?_
  refine DM rfl rfl rfl ?_
  obtain ⟨r72,hr72,hX⟩:=bind_some hX
  refine DR2 rfl rfl ?_
  refine TL.tcX [(b40,RV 215 [Enc.v c41,Enc.v c42])] [(b48,RL (α:=Int) 3 l49),(b39,RL (α:=Int) 3 ([]:List Int)),(b38,RV 50 [Enc.v ((0:Int):Int),Enc.v ((0:Int):Int),Enc.v ((0:Int):Int),Enc.v ((0:Int):Int),OL (α:=Int) b39 ([]:List Int)]),(b43,RV 50 [Enc.v c44,Enc.v c45,Enc.v c46,Enc.v c47,OL b48 l49])] rfl nd (dlt rfl) rfl ⟨rfl,⟨rfl,trivial⟩⟩ (ok_code_Reader_Int c41 c42 b40 (Nd.take nd 1 rfl) _ hr72) ?_
  rintro _ _ hQ nd
  obtain ⟨rfl,rfl⟩:=hQ
  refine TL.nil ⟨_,[(b40,RV 215 [Enc.v r72.2.1,Enc.v r72.2.2]),(b48,RL (α:=Int) 3 l49)],rfl,rfl,HSub_app nd,?_⟩
  refine DR0 (gc:=true) rfl (vok_lit (C:=cx) ([r72.1]:List Int) kd47 ty3 rfl ⟨⟨rfl,rfl⟩,trivial⟩ rfl rfl) rfl rfl ?_
  obtain ⟨u74,hu74,hX⟩:=bind_some hX
  refine DR2 rfl rfl ?_
  refine TLc.appO nd kd47 bo47 ty3 rfl rfl (j:=1) rfl rfl (Src_L _) Dc (need_t hu74) rfl fun nd=>?_
  refine TL.nil ⟨_,[(b40,RV 215 [Enc.v r72.2.1,Enc.v r72.2.2]),(b48,RL (α:=Int) 3 (l49++([r72.1]:List Int)))],rfl,rfl,HSub_app nd,?_⟩
  refine D0 rfl (p_faV fs50_4 Dc rfl ndS (j:=2) rfl rfl) rfl rfl ?_
  refine DR3n rfl ?_
  refine TLc.stV (lu:=[OL (α:=Int) b48 (l49++([r72.1]:List Int))]) nd ty47 rfl (j:=4) rfl rfl rfl (Cells_rs (refOK_of nd (j:=1) rfl rfl)) rfl rfl [Enc.v c44,Enc.v c45,Enc.v c46,Enc.v c47,OL (α:=Int) b48 (l49++([r72.1]:List Int))] rfl fun nd=>?_
  refine TL.nil ⟨rfl,?_⟩
  refine DRende ?_
  exact ⟨_,(some_in hX).symm,b39,b38,b40,b48,b43,rfl,(Nd.pick nd (is:=[2,3,0,1,4]) Dc),(HSub.pick nd (is:=[2,3,0,1,4]) Dc)⟩
 ·have hX:=ite_f hc hX
  refine TK.exit ?_
  obtain rfl:=hR37 _ (some_in hX).symm
  exact E37 c41 c42 c44 c45 c46 c47 l49 _ _ ⟨b39,b38,b40,b48,b43,rfl,(Nd.pick nd (is:=[0,1,2,3,4]) Dc),(HSub.pick nd (is:=[0,1,2,3,4]) Dc)⟩ hA37
theorem bc_volume_Sealed:BodyC cx 70 34 [.c 2 50,.t 3] k70:=⟨Enters.of Try.func70 (by kernel_rfl) (by kernel_rfl),_,_,Try.func70,rfl,by kernel_rfl,rfl,rfl⟩
theorem ok_volume_Sealed (t1:Tape_api) (r:(Seal_api×Bool)) (hX:X.volume_Sealed t1=some r):Fun Try.prog 70 [Enc.v (t1:Tape_api)] (·= .tup 2 (ofL [Enc.v r.1,Enc.v r.2])):=by
 refine Fun.ofC (C:=cx) bc_volume_Sealed (Nat.le_of_ble_eq_true rfl) (allVal.mem ⟨(by exact (v_val _)),trivial⟩) ?_
 unfold k70
 have nd:Nd []:=Nd_nil
 unfold X.volume_Sealed at hX
 refine SR fun K2 hK2=>?_
 refine TLc.boxV (lu:=[Enc.v t1.Label,Enc.v t1.Cap,Enc.v t1.Blocks,Enc.v t1.Lost]) nd rfl (Cells_v (t1:Tape_api)) rfl ?_
 refine TLc.alO (l:=[Enc.v ((0:Int):Int),Enc.v ((0:Int):Int),Enc.v ((0:Int):Int),Enc.v ((0:Int):Int),.nils]) nd ty50 ti50_z rfl rfl fun b3 nd=>?_
 refine M rfl rfl (TL.nil (hK2 _ _ ?_))
 refine TK.cvR nd (j:=0) rfl (l':=[Enc.v ((0:Int):Int),Enc.v ((0:Int):Int),Enc.v ((0:Int):Int),Enc.v ((0:Int):Int),Enc.v (([]:(List Int)):(List Int))]) ⟨Wk.refl _,Wk.refl _,Wk.refl _,Wk.refl _,Wk_nil,trivial⟩ fun nd=>?_
 refine SR fun K4 hK4=>P1 (p_ldRa (l':=Enc.cl (t1:Tape_api)) ty54 rfl rfl rfl rfl rfl (Nat.le_of_ble_eq_true rfl)) rfl rfl (P1 (p_faR fs54_2 Dc rfl) rfl rfl (P1 (p_ldR (v:=Enc.v t1.Blocks) ty22 rfl rfl rfl rfl rfl rfl) rfl rfl (P1 (p_lenL (xs:=t1.Blocks) kd22 rfl) rfl rfl (P1 (p_sub rfl rfl) rfl rfl ?_))))
 obtain ⟨r5,hr5,hX⟩:=bind_some hX
 refine TL.cvX rfl rfl rfl (fun _=>⟨rfl,⟨rfl,⟨rfl,trivial⟩⟩⟩) (fun e=>ok_volume_Good t1 (wr ((t1.Blocks.length:Int)-(1:Int))) _ hr5) ?_
 refine M rfl rfl (P1 (p_ex rfl rfl Dc) rfl rfl (P1 (p_ex rfl rfl Dc) rfl rfl ?_))
 refine TLc.alO (l:=[Enc.v ((0:Int):Int),Enc.v ((0:Int):Int),Enc.v ((0:Int):Int),.nils]) nd ty68 ti68_z rfl rfl fun b6 nd=>?_
 refine TLc.stV (lu:=Enc.cl (r5.1:Unit_api)) nd ty68 rfl (j:=0) rfl rfl rfl (Cells_v (r5.1:Unit_api)) rfl rfl [Enc.v r5.1.Kind,Enc.v r5.1.Label,Enc.v r5.1.Number,Enc.v r5.1.Load] rfl fun nd=>?_
 refine M rfl rfl (TL.nil (hK4 _ _ ?_))
 refine TK.seq_k fun K7 hK7=>?_
 refine SR fun K8 hK8=>M rfl rfl (P1 (p_not rfl) rfl rfl (M rfl rfl ?_))
 refine TLc.p (gc:=(!((!r5.2)))) (p_faV fs68_0 Dc rfl nd (j:=0) rfl rfl (hg:=fun e=>rfl)) (gcF1 rfl) rfl ?_
 refine TLc.p (gc:=(!((!r5.2)))) (p_ldV (v:=Enc.v r5.1.Kind) ty3 rfl rfl nd (j:=0) rfl rfl rfl rfl rfl (hg:=fun e=>e)) (gcF1 rfl) rfl ?_
 refine TLc.p (gc:=(!((!r5.2)))) (p_neq rfl rfl (hg:=fun e=>⟨e,rfl⟩)) (gcF1 rfl) rfl ?_
 refine P1 (p_or rfl rfl (fun e=>⟨rfl,fun h=>(not_t h)⟩)) rfl rfl (TL.nil (hK8 _ _ ?_))
 refine TK.cond (b:=((!r5.2)||(r5.1.Kind !=(5:Int)))) rfl (fun hc=>?_) (fun hc=>?_)
 ·have hX:=ite_t hc hX
  refine SR fun K9 hK9=>?_
  refine TLc.p (gc:=true) (p_bld (l:=[Enc.v ((0:Int):Int),Enc.v ((0:Int):Int),Enc.v ((0:Int):Int),Enc.v ((0:Int):Int),.nils]) ty50 rfl all50 rfl (fun _=>trivial)) rfl rfl (TL.wk (v':=Enc.v ((Seal_api.mk (0:Int) (0:Int) (0:Int) (0:Int) ([]:(List Int))):Seal_api)) (Wk_agg ⟨Wk.refl _,Wk.refl _,Wk.refl _,Wk.refl _,Wk_nil,trivial⟩) ?_)
  refine TLc.stV (lu:=Enc.cl ((Seal_api.mk (0:Int) (0:Int) (0:Int) (0:Int) ([]:(List Int))):Seal_api)) nd ty50 rfl (j:=1) rfl rfl rfl (Cells_v ((Seal_api.mk (0:Int) (0:Int) (0:Int) (0:Int) ([]:(List Int))):Seal_api)) rfl rfl [Enc.v ((Seal_api.mk (0:Int) (0:Int) (0:Int) (0:Int) ([]:(List Int))).Number:Int),Enc.v ((Seal_api.mk (0:Int) (0:Int) (0:Int) (0:Int) ([]:(List Int))).Index:Int),Enc.v ((Seal_api.mk (0:Int) (0:Int) (0:Int) (0:Int) ([]:(List Int))).Data:Int),Enc.v ((Seal_api.mk (0:Int) (0:Int) (0:Int) (0:Int) ([]:(List Int))).Parity:Int),Enc.v ((Seal_api.mk (0:Int) (0:Int) (0:Int) (0:Int) ([]:(List Int))).Labels:(List Int))] rfl fun nd=>?_
  refine M rfl rfl (TL.nil (hK9 _ _ ?_))
  refine TK.ret ?_
  try dsimp only[thenQ]
  exact retC [Enc.v ((Seal_api.mk (0:Int) (0:Int) (0:Int) (0:Int) ([]:(List Int))):Seal_api),Enc.v false] ⟨p_ldVa (l':=Enc.cl ((Seal_api.mk (0:Int) (0:Int) (0:Int) (0:Int) ([]:(List Int))):Seal_api)) ty50 rfl rfl nd (j:=1) rfl rfl rfl rfl (Nat.le_of_ble_eq_true rfl),p_mv rfl,trivial⟩ (by obtain rfl:=some_in hX;rfl) (tup_val (allVal.mem ⟨v_val _,v_val _,trivial⟩))
 ·have hX:=ite_f hc hX
  refine TK.skip ?_
  refine hK7 _ _ (SR fun K10 hK10=>P1 (p_faV fs68_3 Dc rfl nd (j:=0) rfl rfl) rfl rfl (P1 (p_ldV (v:=Enc.v r5.1.Load) ty25 rfl rfl nd (j:=0) rfl rfl rfl rfl rfl) rfl rfl ?_))
  obtain ⟨r11,hr11,hX⟩:=bind_some hX
  refine TL.cvX rfl rfl rfl (fun _=>⟨rfl,⟨rfl,trivial⟩⟩) (fun e=>ok_record_ReadSeal r5.1.Load _ hr11) ?_
  refine M rfl rfl (P1 (p_ex rfl rfl Dc) rfl rfl (P1 (p_ex rfl rfl Dc) rfl rfl ?_))
  refine TLc.alO (l:=[Enc.v ((0:Int):Int),Enc.v ((0:Int):Int),Enc.v ((0:Int):Int),Enc.v ((0:Int):Int),.nils]) nd ty50 ti50_z rfl rfl fun b12 nd=>?_
  refine TLc.stV (lu:=Enc.cl (r11.1:Seal_api)) nd ty50 rfl (j:=0) rfl rfl rfl (Cells_v (r11.1:Seal_api)) rfl rfl [Enc.v r11.1.Number,Enc.v r11.1.Index,Enc.v r11.1.Data,Enc.v r11.1.Parity,Enc.v r11.1.Labels] rfl fun nd=>?_
  refine M rfl rfl (TL.nil (hK10 _ _ (SR fun K13 hK13=>P1 (p_ldVa (l':=Enc.cl (r11.1:Seal_api)) ty50 rfl rfl nd (j:=0) rfl rfl rfl rfl (Nat.le_of_ble_eq_true rfl)) rfl rfl (M rfl rfl (P1 (p_eql rfl rfl) rfl rfl ?_)))))
  refine TLc.stV (lu:=Enc.cl (r11.1:Seal_api)) nd ty50 rfl (j:=2) rfl rfl rfl (Cells_v (r11.1:Seal_api)) rfl rfl [Enc.v r11.1.Number,Enc.v r11.1.Index,Enc.v r11.1.Data,Enc.v r11.1.Parity,Enc.v r11.1.Labels] rfl fun nd=>?_
  refine M rfl rfl (TL.nil (hK13 _ _ ?_))
  refine TK.ret ?_
  try dsimp only[thenQ]
  exact retC [Enc.v r11.1,Enc.v ((r11.2==(0:Int)):Bool)] ⟨p_ldVa (l':=Enc.cl (r11.1:Seal_api)) ty50 rfl rfl nd (j:=2) rfl rfl rfl rfl (Nat.le_of_ble_eq_true rfl),p_mv rfl,trivial⟩ (by obtain rfl:=some_in hX;rfl) (tup_val (allVal.mem ⟨v_val _,v_val _,trivial⟩))
theorem ok_slices_IndexFunc_Lapi_Seal_api_Seal (s1:(List Seal_api)) (g2:Seal_api→Option Bool) (r:Int) (hX:X.slices_IndexFunc_Lapi_Seal_api_Seal s1 g2=some r) {g2V:AV} (hg2V:∃f m c,g2V= .fn f m c∧(∀i,i<m→(c i).val)∧∀(a0:Seal_api) r,g2 a0=some r→Fun Try.prog f ([Enc.v a0]++(List.range m).map c) (·=Enc.v r)):Fun Try.prog 117 [Enc.v (s1:(List Seal_api)),g2V] (·=Enc.v (r:Int)):=by
 obtain ⟨g2f,g2m,g2c,rfl,hg2v,hg2⟩:=hg2V
 refine Fun.of b117 (Nat.le_of_ble_eq_true rfl) (allVal.mem ⟨(by exact (v_val _)),hg2v,trivial⟩) ?_
 unfold k117
 have nd:Nd []:=Nd_nil
 unfold X.slices_IndexFunc_Lapi_Seal_api_Seal at hX
 refine SR fun K3 hK3=>M rfl rfl (TL.nil (hK3 _ _ ?_))
 refine TK.seq_k fun K4 hK4=>?_
 refine SR fun K5 hK5=>M rfl rfl (P1 (p_lenL (xs:=s1) kd71 rfl) rfl rfl (M rfl rfl (TL.nil (hK5 _ _ ?_))))
 refine TK.block ?_
 obtain ⟨o6,hO6,hA6⟩:=bind_some hX
 have E6:∀(env:Env) (h:Hp),(∃_u:Unit,keepE [] env=[]∧Nd []∧HSub [] h)→X.slices_IndexFunc_Lapi_Seal_api_Seal_e6=some r→K4 env h:=by
  intro env h hE hX
  obtain ⟨_u,henv,nd,hs⟩:=hE
  unfold X.slices_IndexFunc_Lapi_Seal_api_Seal_e6 at hX
  refine hK4 _ _ (TK.keep [] ?_)
  rw[henv]
  refine TK.subH hs ?_
  refine SR fun K8 hK8=>M rfl rfl (TL.nil (hK8 _ _ ?_))
  refine TK.ret ?_
  try dsimp only[thenQ]
  exact R1 rfl hX
 refine TK.iter [0,1,7,8] (fun s env h=>match s with|x7=>∃_u:Unit,env=[(0,true,Enc.v s1),(1,true,.fn g2f g2m g2c),(7,true,Enc.v ((s1.length:Int):Int)),(8,true,Enc.v x7)]∧Nd []∧HSub [] h) hO6 ⟨(),rfl,Nd_nil,HSub.refl _⟩ ?_
 rintro x7 env h x6x ⟨_u,rfl,nd,hs⟩ hX hR6
 refine TK.subH hs ?_
 unfold X.slices_IndexFunc_Lapi_Seal_api_Seal_s6 at hX
 try dsimp only at hX
 refine SR fun K9 hK9=>P1 (p_lss rfl rfl) rfl rfl (TL.nil (hK9 _ _ ?_))
 refine TK.seq_k fun K10 hK10=>?_
 refine TK.cond (b:=(decide (x7<(s1.length:Int)))) rfl (fun hc=>?_) (fun hc=>?_)
 ·have hX:=ite_t hc hX
  refine TK.skip ?_
  refine hK10 _ _ ?_
  refine TK.seq_k fun K11 hK11=>?_
  refine TK.block ?_
  refine SR fun K12 hK12=>M rfl rfl (M rfl rfl (TL.nil (hK12 _ _ (SR fun K13 hK13=>M rfl rfl (M rfl rfl (M rfl rfl ?_))))))
  obtain ⟨e14,he14,hX⟩:=bind_some hX
  refine P1 (p_iaL (xs:=s1) kd71 ty50 rfl rfl rfl (fun _=>he14)) rfl rfl (P1 (p_ldE (xs:=s1) (a:=e14) (e14:Seal_api) ty50 rfl rfl (fun _=>he14) rfl rfl rfl) rfl rfl ?_)
  obtain ⟨r15,hr15,hX⟩:=bind_some hX
  refine TL.cvX rfl rfl rfl (fun _=>⟨rfl,⟨rfl,trivial⟩⟩) (fun e=>hg2 e14 _ hr15) ?_
  refine TL.nil (hK13 _ _ ?_)
  refine TK.cond (b:=r15) rfl (fun hc=>?_) (fun hc=>?_)
  ·have hX:=ite_t hc hX
   refine SR fun K16 hK16=>M rfl rfl (M rfl rfl (TL.nil (hK16 _ _ ?_)))
   refine TK.ret ?_
   obtain rfl:=hR6 _ (some_in hX).symm
   replace hX:=hA6
   try dsimp only[thenQ]
   exact R1 rfl hX
  ·have hX:=ite_f hc hX
   refine TK.skip ?_
   refine hK11 _ _ ?_
   refine TK.reg ?_
   refine P1 (p_add rfl rfl) rfl rfl (M rfl rfl (TL.nil ?_))
   exact ⟨_,(some_in hX).symm,(),rfl,Nd_nil,HSub.refl _⟩
 ·have hX:=ite_f hc hX
  refine TK.exit ?_
  obtain rfl:=hR6 _ (some_in hX).symm
  exact E6 _ _ ⟨(),rfl,Nd_nil,HSub.refl _⟩ hA6
theorem ok_slices_ContainsFunc_Lapi_Seal_api_Seal (s1:(List Seal_api)) (g2:Seal_api→Option Bool) (r:Bool) (hX:X.slices_ContainsFunc_Lapi_Seal_api_Seal s1 g2=some r) {g2V:AV} (hg2V:∃f m c,g2V= .fn f m c∧(∀i,i<m→(c i).val)∧∀(a0:Seal_api) r,g2 a0=some r→Fun Try.prog f ([Enc.v a0]++(List.range m).map c) (·=Enc.v r)):Fun Try.prog 71 [Enc.v (s1:(List Seal_api)),g2V] (·=Enc.v (r:Bool)):=by
 obtain ⟨g2f,g2m,g2c,rfl,hg2v,hg2⟩:=hg2V
 refine Fun.of b71 (Nat.le_of_ble_eq_true rfl) (allVal.mem ⟨(by exact (v_val _)),hg2v,trivial⟩) ?_
 unfold k71
 have nd:Nd []:=Nd_nil
 unfold X.slices_ContainsFunc_Lapi_Seal_api_Seal at hX
 refine SR fun K3 hK3=>M rfl rfl (TL.nil (hK3 _ _ (SR fun K4 hK4=>M rfl rfl (M rfl rfl ?_))))
 obtain ⟨r5,hr5,hX⟩:=bind_some hX
 refine TL.cvX rfl rfl rfl (fun _=>⟨rfl,⟨rfl,⟨rfl,trivial⟩⟩⟩) (fun e=>ok_slices_IndexFunc_Lapi_Seal_api_Seal s1 g2 _ hr5 ⟨_,_,_,rfl,hg2v,hg2⟩) ?_
 refine P1 (p_geq rfl rfl) rfl rfl (M rfl rfl (TL.nil (hK4 _ _ ?_)))
 refine TK.ret ?_
 try dsimp only[thenQ]
 exact R1 rfl hX
theorem ok_group_Find_c1 (x1:Seal_api) (c2:Int) (c3:Int) (c4:Int) (c5:Int) (c6:(List Int)) (r:Bool) (hX:X.group_Find_c1 x1 c2 c3 c4 c5 c6=some r):Fun Try.prog 72 [Enc.v (x1:Seal_api),.vref (ofL [Enc.v (c2:Int),Enc.v (c3:Int),Enc.v (c4:Int),Enc.v (c5:Int),Enc.v (c6:(List Int))]) 5 0] (·=Enc.v (r:Bool)):=by
 refine Fun.of b72 (Nat.le_of_ble_eq_true rfl) (allVal.mem ⟨(by exact (v_val _)),(by exact (vref_val (l:=[Enc.v (c2:Int),Enc.v (c3:Int),Enc.v (c4:Int),Enc.v (c5:Int),Enc.v (c6:(List Int))]) rfl ⟨(v_val _),(v_val _),(v_val _),(v_val _),(v_val _),trivial⟩)),trivial⟩) ?_
 unfold k72
 have nd:Nd []:=Nd_nil
 unfold X.group_Find_c1 at hX
 refine SR fun K7 hK7=>?_
 refine TLc.boxV (lu:=[Enc.v x1.Number,Enc.v x1.Index,Enc.v x1.Data,Enc.v x1.Parity,Enc.v x1.Labels]) nd rfl (Cells_v (x1:Seal_api)) rfl ?_
 refine M rfl rfl (TL.nil (hK7 _ _ (SR fun K8 hK8=>P1 (p_faR fs50_0 Dc rfl) rfl rfl (P1 (p_ldR (v:=Enc.v x1.Number) ty3 rfl rfl rfl rfl rfl rfl) rfl rfl (P1 (p_faR fs50_0 Dc rfl) rfl rfl (P1 (p_ldR (v:=Enc.v c2) ty3 rfl rfl rfl rfl rfl rfl) rfl rfl (P1 (p_eql rfl rfl) rfl rfl (M rfl rfl (TL.nil (hK8 _ _ ?_))))))))))
 refine TK.ret ?_
 try dsimp only[thenQ]
 exact R1 rfl hX
theorem ok_math_bits_Len64 (x1:UInt64) (r:Int) (hX:X.math_bits_Len64 x1=some r):Fun Try.prog 138 [Enc.v (x1:UInt64)] (·=Enc.v (r:Int)):=by
 refine Fun.of b138 (Nat.le_of_ble_eq_true rfl) (allVal.mem ⟨(by exact (v_val _)),trivial⟩) ?_
 unfold k138
 have nd:Nd []:=Nd_nil
 unfold X.math_bits_Len64 at hX
 refine SR fun K2 hK2=>M rfl rfl (TL.nil (hK2 _ _ ?_))
 refine TK.seq_k fun K3 hK3=>?_
 have J3:∀(x4:UInt64) (n5:Int) (env:Env) (h:Hp),(∃_u:Unit,keepE [0,2] env=[(0,true,Enc.v x4),(2,true,Enc.v n5)]∧Nd []∧HSub [] h)→X.math_bits_Len64_j3 x4 n5=some r→K3 env h:=by
  intro x4 n5 env h hE hX
  obtain ⟨_u,henv,nd,hs⟩:=hE
  unfold X.math_bits_Len64_j3 at hX
  refine hK3 _ _ (TK.keep [0,2] ?_)
  rw[henv]
  refine TK.subH hs ?_
  refine TK.seq_k fun K6 hK6=>?_
  have J6:∀(x7:UInt64) (n8:Int) (env:Env) (h:Hp),(∃_u:Unit,keepE [0,2] env=[(0,true,Enc.v x7),(2,true,Enc.v n8)]∧Nd []∧HSub [] h)→X.math_bits_Len64_j6 x7 n8=some r→K6 env h:=by
   intro x7 n8 env h hE hX
   obtain ⟨_u,henv,nd,hs⟩:=hE
   unfold X.math_bits_Len64_j6 at hX
   refine hK6 _ _ (TK.keep [0,2] ?_)
   rw[henv]
   refine TK.subH hs ?_
   refine TK.seq_k fun K9 hK9=>?_
   have J9:∀(x10:UInt64) (n11:Int) (env:Env) (h:Hp),(∃_u:Unit,keepE [0,2] env=[(0,true,Enc.v x10),(2,true,Enc.v n11)]∧Nd []∧HSub [] h)→X.math_bits_Len64_j9 x10 n11=some r→K9 env h:=by
    intro x10 n11 env h hE hX
    obtain ⟨_u,henv,nd,hs⟩:=hE
    unfold X.math_bits_Len64_j9 at hX
    refine hK9 _ _ (TK.keep [0,2] ?_)
    rw[henv]
    refine TK.subH hs ?_
    refine SR fun K12 hK12=>M rfl rfl (M rfl rfl (P1 (p_cvt src145 kd5 rfl (cv_u8 _)) rfl rfl ?_))
    obtain ⟨x13,hx13,hX⟩:=bind_some hX
    refine P1 (p_ix kd9 rfl rfl (fun _=>hx13)) rfl rfl (P1 (p_cvt src5 kd3 rfl (cv_8 x13)) rfl rfl (P1 (p_add rfl rfl) rfl rfl (M rfl rfl (TL.nil (hK12 _ _ ?_)))))
    refine TK.ret ?_
    try dsimp only[thenQ]
    exact R1 rfl hX
   refine SR fun K14 hK14=>M rfl rfl (P1 (pu64_geq (a:=x7) (b:=(256:UInt64)) rfl rfl) rfl rfl (TL.nil (hK14 _ _ ?_)))
   refine TK.cond (b:=(decide (x7≥(256:UInt64)))) rfl (fun hc=>?_) (fun hc=>?_)
   ·have hX:=ite_t hc hX
    refine SR fun K15 hK15=>M rfl rfl (P1 (pu64_shr (a:=x7) (b:=8) rfl rfl) rfl rfl (M rfl rfl (TL.nil (hK15 _ _ ?_))))
    refine TK.reg ?_
    refine M rfl rfl (P1 (p_add rfl rfl) rfl rfl (M rfl rfl (TL.nil ?_)))
    exact J9 (shru64 x7 8) (wr (n8+(8:Int))) _ _ ⟨(),rfl,Nd_nil,HSub.refl _⟩ hX
   ·have hX:=ite_f hc hX
    refine TK.skip ?_
    exact J9 x7 n8 _ _ ⟨(),rfl,Nd_nil,HSub.refl _⟩ hX
  refine SR fun K16 hK16=>M rfl rfl (P1 (pu64_geq (a:=x4) (b:=(65536:UInt64)) rfl rfl) rfl rfl (TL.nil (hK16 _ _ ?_)))
  refine TK.cond (b:=(decide (x4≥(65536:UInt64)))) rfl (fun hc=>?_) (fun hc=>?_)
  ·have hX:=ite_t hc hX
   refine SR fun K17 hK17=>M rfl rfl (P1 (pu64_shr (a:=x4) (b:=16) rfl rfl) rfl rfl (M rfl rfl (TL.nil (hK17 _ _ ?_))))
   refine TK.reg ?_
   refine M rfl rfl (P1 (p_add rfl rfl) rfl rfl (M rfl rfl (TL.nil ?_)))
   exact J6 (shru64 x4 16) (wr (n5+(16:Int))) _ _ ⟨(),rfl,Nd_nil,HSub.refl _⟩ hX
  ·have hX:=ite_f hc hX
   refine TK.skip ?_
   exact J6 x4 n5 _ _ ⟨(),rfl,Nd_nil,HSub.refl _⟩ hX
 refine SR fun K18 hK18=>M rfl rfl (P1 (pu64_geq (a:=x1) (b:=(4294967296:UInt64)) rfl rfl) rfl rfl (TL.nil (hK18 _ _ ?_)))
 refine TK.cond (b:=(decide (x1≥(4294967296:UInt64)))) rfl (fun hc=>?_) (fun hc=>?_)
 ·have hX:=ite_t hc hX
  refine SR fun K19 hK19=>M rfl rfl (P1 (pu64_shr (a:=x1) (b:=32) rfl rfl) rfl rfl (M rfl rfl (TL.nil (hK19 _ _ ?_))))
  refine TK.reg ?_
  refine M rfl rfl (TL.nil ?_)
  exact J3 (shru64 x1 32) (32:Int) _ _ ⟨(),rfl,Nd_nil,HSub.refl _⟩ hX
 ·have hX:=ite_f hc hX
  refine TK.skip ?_
  exact J3 x1 (0:Int) _ _ ⟨(),rfl,Nd_nil,HSub.refl _⟩ hX
theorem ok_math_bits_Len (x1:UInt64) (r:Int) (hX:X.math_bits_Len x1=some r):Fun Try.prog 86 [Enc.v (x1:UInt64)] (·=Enc.v (r:Int)):=by
 refine Fun.of b86 (Nat.le_of_ble_eq_true rfl) (allVal.mem ⟨(by exact (v_val _)),trivial⟩) ?_
 unfold k86
 have nd:Nd []:=Nd_nil
 unfold X.math_bits_Len at hX
 refine SR fun K2 hK2=>M rfl rfl (TL.nil (hK2 _ _ ?_))
 refine TK.seq_k fun K3 hK3=>?_
 refine TK.cond (b:=false) rfl (fun hc=>by simp at hc) (fun _=>?_)
 refine TK.skip ?_
 refine hK3 _ _ (SR fun K4 hK4=>M rfl rfl ?_)
 obtain ⟨r5,hr5,hX⟩:=bind_some hX
 refine TL.cvX rfl rfl rfl (fun _=>⟨rfl,⟨rfl,trivial⟩⟩) (fun e=>ok_math_bits_Len64 x1 _ hr5) ?_
 refine M rfl rfl (TL.nil (hK4 _ _ ?_))
 refine TK.ret ?_
 try dsimp only[thenQ]
 exact R1 rfl hX
theorem ok_slices_insertionSortCmpFunc_api_Seal (a3:Int) (b4:Int) (g5:Seal_api→Seal_api→Option Int) (data1:(List Seal_api)) (b2:Nat) (nd:Nd [(b2,RL (α:=Seal_api) 50 data1)]) (r:(List Seal_api)) (hX:X.slices_insertionSortCmpFunc_api_Seal a3 b4 g5 data1=some r) {g5V:AV} (hg5V:∃f m c,g5V= .fn f m c∧(∀i,i<m→(c i).val)∧∀(a0:Seal_api) (a1:Seal_api) r,g5 a0 a1=some r→Fun Try.prog f ([Enc.v a0,Enc.v a1]++(List.range m).map c) (·=Enc.v r)):TCX Try.prog 162 [OL (α:=Seal_api) b2 data1,Enc.v (a3:Int),Enc.v (b4:Int),g5V] [(b2,RL (α:=Seal_api) 50 data1)] (fun rv h'=>rv= .tup 0 (ofL [])∧h'=[(b2,RL (α:=Seal_api) 50 r)]):=by
 obtain ⟨g5f,g5m,g5c,rfl,hg5v,hg5⟩:=hg5V
 refine TCX.of b162 (Nat.le_of_ble_eq_true rfl) ?_
 unfold k162
 unfold X.slices_insertionSortCmpFunc_api_Seal at hX
 refine TK.endK fun KE hKE=>?_
 refine SR fun K6 hK6=>M rfl rfl (P1 (p_add rfl rfl) rfl rfl (M rfl rfl (TL.nil (hK6 _ _ ?_))))
 refine TK.block ?_
 obtain ⟨o7,hO7,hA7⟩:=bind_some hX
 have E7:∀(l12:List Seal_api) (env:Env) (h:Hp),(∃_u:Unit,keepE [0] env=[(0,true,OL b2 l12)]∧Nd [(b2,RL (α:=Seal_api) 50 l12)]∧HSub [(b2,RL (α:=Seal_api) 50 l12)] h)→X.slices_insertionSortCmpFunc_api_Seal_e7 l12=some r→KE env h:=by
  intro l12 env h hE hX
  obtain ⟨_u,henv,nd,hs⟩:=hE
  unfold X.slices_insertionSortCmpFunc_api_Seal_e7 at hX
  refine hKE _ _ (TL.keep [0] ?_)
  rw[henv]
  refine TL.subH hs ?_
  refine TL.nil ?_
  try dsimp only[thenQ]
  refine RetQ_end ?_
  exact retX (v:= .tup 0 (ofL [])) res0 (by obtain rfl:=some_in hX;exact ⟨rfl,rfl⟩) nd (inH_tup (l:=[]) trivial) ⟨rowIn_RL,trivial⟩
 refine TK.iter [0,1,2,3,8] (fun s env h=>match s with|(data9,i10)=>∃_u:Unit,env=[(0,true,OL b2 data9),(1,true,Enc.v a3),(2,true,Enc.v b4),(3,true,.fn g5f g5m g5c),(8,true,Enc.v i10)]∧Nd [(b2,RL (α:=Seal_api) 50 data9)]∧HSub [(b2,RL (α:=Seal_api) 50 data9)] h) hO7 ⟨(),rfl,(Nd.pick nd (is:=[0]) Dc),(HSub.pick nd (is:=[0]) Dc)⟩ ?_
 rintro ⟨data9,i10⟩ env h x7x ⟨_u,rfl,nd,hs⟩ hX hR7
 refine TK.subH hs ?_
 unfold X.slices_insertionSortCmpFunc_api_Seal_s7 at hX
 try dsimp only at hX
 refine TK.seq_k fun K13 hK13=>?_
 refine SR fun K14 hK14=>M rfl rfl (M rfl rfl (P1 (p_lss rfl rfl) rfl rfl (TL.nil (hK14 _ _ ?_))))
 refine TK.cond (b:=(decide (i10<b4))) rfl (fun hc=>?_) (fun hc=>?_)
 ·have hX:=ite_t hc hX
  refine TK.skip ?_
  refine hK13 _ _ ?_
  refine TK.seq_k fun K15 hK15=>?_
  refine TK.block ?_
  refine SR fun K16 hK16=>M rfl rfl (M rfl rfl (TL.nil (hK16 _ _ ?_)))
  refine TK.block ?_
  obtain ⟨o17,hO17,hA17⟩:=bind_some hX
  have E17:∀(l22:List Seal_api) (env:Env) (h:Hp),(∃_u:Unit,keepE [0,1,2,3,8] env=[(0,true,OL b2 l22),(1,true,Enc.v a3),(2,true,Enc.v b4),(3,true,.fn g5f g5m g5c),(8,true,Enc.v i10)]∧Nd [(b2,RL (α:=Seal_api) 50 l22)]∧HSub [(b2,RL (α:=Seal_api) 50 l22)] h)→X.slices_insertionSortCmpFunc_api_Seal_e17 i10 l22=some x7x→K15 env h:=by
   intro l22 env h hE hX
   obtain ⟨_u,henv,nd,hs⟩:=hE
   unfold X.slices_insertionSortCmpFunc_api_Seal_e17 at hX
   refine hK15 _ _ (TK.keep [0,1,2,3,8] ?_)
   rw[henv]
   refine TK.subH hs ?_
   refine TK.reg ?_
   refine M rfl rfl (P1 (p_add rfl rfl) rfl rfl (M rfl rfl (TL.nil ?_)))
   exact ⟨_,(some_in hX).symm,(),rfl,(Nd.pick nd (is:=[0]) Dc),(HSub.pick nd (is:=[0]) Dc)⟩
  refine TK.iter [0,1,2,3,8,9] (fun s env h=>match s with|(data19,j20)=>∃_u:Unit,env=[(0,true,OL b2 data19),(1,true,Enc.v a3),(2,true,Enc.v b4),(3,true,.fn g5f g5m g5c),(8,true,Enc.v i10),(9,true,Enc.v j20)]∧Nd [(b2,RL (α:=Seal_api) 50 data19)]∧HSub [(b2,RL (α:=Seal_api) 50 data19)] h) hO17 ⟨(),rfl,(Nd.pick nd (is:=[0]) Dc),(HSub.pick nd (is:=[0]) Dc)⟩ ?_
  rintro ⟨data19,j20⟩ env h x17x ⟨_u,rfl,nd,hs⟩ hX hR17
  refine TK.subH hs ?_
  unfold X.slices_insertionSortCmpFunc_api_Seal_s17 at hX
  try dsimp only at hX
  refine TK.seq_k fun K23 hK23=>?_
  refine TK.seq_k fun K24 hK24=>?_
  have ndS:Nd [(b2,RL (α:=Seal_api) 50 data19)]:=Nd.pick nd (is:=[0]) Dc
  refine TK.drwX (h:=[]) (hS:=[(b2,RL (α:=Seal_api) 50 data19)]) [(0,0),(0,1),(0,2),(0,3),(0,4),(0,5),(0,6),(0,7),(0,8),(0,9),(0,10),(0,11),(0,12),(0,13),(0,14),(0,15),(0,16)] mixed (by kernel_rfl) (HSub_app nd) ?_
  refine DM rfl rfl rfl ?_
  refine DM rfl rfl rfl ?_
  refine D0 rfl (p_gtr rfl rfl) rfl rfl ?_
  refine DM rfl rfl rfl ?_
  refine DR0 (gc:=((decide (j20>a3)))) rfl (vok_p (C:=cx) (p_mv rfl (hg:=fun e=>rfl))) (gcT1 rfl) rfl ?_
  refine DR0 (gc:=((decide (j20>a3)))) rfl (vok_p (C:=cx) (p_mv rfl (hg:=fun e=>rfl))) (gcT1 rfl) rfl ?_
  refine DR0 (gc:=((decide (j20>a3)))) rfl (vok_p (C:=cx) (p_mv rfl (hg:=fun e=>rfl))) (gcT1 rfl) rfl ?_
  obtain ⟨e25,he25,hX⟩:=bind_some hX
  refine DR0 (gc:=((decide (j20>a3)))) rfl (vok_p (C:=cx) (p_iaO (xs:=data19) kd71 ty50 rfl rfl rfl ndS (j:=0) rfl (fun e=>optG_t he25 e) (hg:=fun e=>⟨e,e⟩))) (gcT1 rfl) rfl ?_
  refine DR0 (gc:=((decide (j20>a3)))) rfl (vok_p (C:=cx) (p_ldO (xs:=data19) (a:=e25) (e25:Seal_api) ty50 rfl rfl ndS (j:=0) rfl (fun e=>optG_t he25 e) rfl rfl rfl (hg:=fun e=>e))) (gcT1 rfl) rfl ?_
  refine DR0 (gc:=((decide (j20>a3)))) rfl (vok_p (C:=cx) (p_mv rfl (hg:=fun e=>rfl))) (gcT1 rfl) rfl ?_
  refine DR0 (gc:=((decide (j20>a3)))) rfl (vok_p (C:=cx) (p_mv rfl (hg:=fun e=>rfl))) (gcT1 rfl) rfl ?_
  refine DR0 (gc:=((decide (j20>a3)))) rfl (vok_p (C:=cx) (p_sub rfl rfl (hg:=fun e=>⟨e,rfl⟩))) (gcT1 rfl) rfl ?_
  obtain ⟨e26,he26,hX⟩:=bind_some hX
  refine DR0 (gc:=((decide (j20>a3)))) rfl (vok_p (C:=cx) (p_iaO (xs:=data19) kd71 ty50 rfl rfl rfl ndS (j:=0) rfl (fun e=>optG_t he26 e) (hg:=fun e=>⟨e,e⟩))) (gcT1 rfl) rfl ?_
  refine DR0 (gc:=((decide (j20>a3)))) rfl (vok_p (C:=cx) (p_ldO (xs:=data19) (a:=e26) (e26:Seal_api) ty50 rfl rfl ndS (j:=0) rfl (fun e=>optG_t he26 e) rfl rfl rfl (hg:=fun e=>e))) (gcT1 rfl) rfl ?_
  obtain ⟨r27,hr27,hX⟩:=bind_some hX
  refine DR0 (gc:=((decide (j20>a3)))) rfl (vok_c rfl (fun e=>⟨e,⟨e,⟨e,trivial⟩⟩⟩) (fun e=>hg5 e25 e26 _ (optG_t hr27 e))) (gcT1 rfl) rfl ?_
  refine DR0 (gc:=((decide (j20>a3)))) rfl (vok_p (C:=cx) (p_lss rfl rfl (hg:=fun e=>⟨e,rfl⟩))) (gcT1 rfl) rfl ?_
  refine D0 rfl (p_and rfl rfl (fun e=>⟨rfl,fun h=>h⟩)) rfl rfl ?_
  refine DRend ?_
  refine hK24 _ _ ?_
  refine TK.cond (b:=((decide (j20>a3))&&(decide (r27<(0:Int))))) rfl (fun hc=>?_) (fun hc=>?_)
  ·have hX:=ite_t hc hX
   refine TK.skip ?_
   refine hK23 _ _ ?_
   refine TK.seq_k fun K28 hK28=>?_
   refine TK.block ?_
   have ndS:Nd []:=Nd.pick nd (is:=[]) Dc
   refine TK.endK fun KD hKD=>?_
   refine TK.drwX (h:=[(b2,RL (α:=Seal_api) 50 data19)]) (hS:=[]) [(0,0),(0,1),(0,2),(0,3),(0,4),(0,5),(0,6),(0,7),(1,8),(1,9),(0,10),(0,11),(1,12),(1,13),(1,14),(2,15),(1,16),(2,17)] mixed (by kernel_rfl) (HSub_app nd) ?_
   refine DM rfl rfl rfl ?_
   refine DM rfl rfl rfl ?_
   refine DM rfl rfl rfl ?_
   refine DM rfl rfl rfl ?_
   refine D0 rfl (p_sub rfl rfl) rfl rfl ?_
   refine DM rfl rfl rfl ?_
   refine DM rfl rfl rfl ?_
   refine D0 rfl (p_sub rfl rfl) rfl rfl ?_
   obtain ⟨e29,he29,hX⟩:=bind_some hX
   refine DR1 (gc:=true) rfl (vok_p (C:=cx) (p_iaO (xs:=data19) kd71 ty50 rfl rfl rfl nd (j:=0) rfl (fun _=>he29))) rfl rfl ?_
   refine DR1 (gc:=true) rfl (vok_p (C:=cx) (p_ldO (xs:=data19) (a:=e29) (e29:Seal_api) ty50 rfl rfl nd (j:=0) rfl (fun _=>he29) rfl rfl rfl)) rfl rfl ?_
   refine DM rfl rfl rfl ?_
   refine DM rfl rfl rfl ?_
   obtain ⟨e30,he30,hX⟩:=bind_some hX
   refine DR1 (gc:=true) rfl (vok_p (C:=cx) (p_iaO (xs:=data19) kd71 ty50 rfl rfl rfl nd (j:=0) rfl (fun _=>he30))) rfl rfl ?_
   refine DR1 (gc:=true) rfl (vok_p (C:=cx) (p_ldO (xs:=data19) (a:=e30) (e30:Seal_api) ty50 rfl rfl nd (j:=0) rfl (fun _=>he30) rfl rfl rfl)) rfl rfl ?_
   obtain ⟨e31,he31,hX⟩:=bind_some hX
   refine DR1 (gc:=true) rfl (vok_p (C:=cx) (p_iaO (xs:=data19) kd71 ty50 rfl rfl rfl nd (j:=0) rfl (fun _=>he31))) rfl rfl ?_
   refine DR2n rfl ?_
   refine TLc.stW (xs:=data19) (i:=j20) (lu:=Enc.cl (e29:Seal_api)) (a':=e29) nd ty50 rfl (j:=0) rfl (by simp[Enc.sz]) (inb_of he31 (by simp)) rfl (Cells_v (e29:Seal_api)) rfl (WkL_refl _) fun nd=>?_
   refine TL.nil ⟨.nilp,[(b2,RL (α:=Seal_api) 50 (data19.set j20.toNat e29))],rfl,rfl,HSub_app nd,?_⟩
   obtain ⟨e32,he32,hX⟩:=bind_some hX
   refine DR1 (gc:=true) rfl (vok_p (C:=cx) (p_iaO (xs:=(data19.set j20.toNat e29)) (gx:=true) kd71 ty50 rfl (by rw[OL_len (xs:=(data19.set j20.toNat e29)) (ys:=data19) (by simp)];rfl) rfl nd (j:=0) rfl (fun _=>he32))) rfl rfl ?_
   refine DR2n rfl ?_
   refine TLc.stW (xs:=(data19.set j20.toNat e29)) (i:=(wr (j20-(1:Int)))) (lu:=Enc.cl (e30:Seal_api)) (a':=e30) nd ty50 rfl (j:=0) rfl (by simp[Enc.sz]) (inb_of he32 (by simp)) rfl (Cells_v (e30:Seal_api)) rfl (WkL_refl _) fun nd=>?_
   refine TL.nil ⟨.nilp,[(b2,RL (α:=Seal_api) 50 ((data19.set j20.toNat e29).set (wr (j20-(1:Int))).toNat e30))],rfl,rfl,HSub_app nd,?_⟩
   refine DRend ?_
   refine hKD _ _ ?_
   refine TL.cv 0 (OL (α:=Seal_api) b2 ((data19.set j20.toNat e29).set (wr (j20-(1:Int))).toNat e30)) rfl (Wk_eq (OL_len (by simp))) ?_
   refine TL.nil (hK28 _ _ ?_)
   refine TK.reg ?_
   refine M rfl rfl (P1 (p_sub rfl rfl) rfl rfl (M rfl rfl (TL.nil ?_)))
   exact ⟨_,(some_in hX).symm,(),rfl,(Nd.pick nd (is:=[0]) Dc),(HSub.pick nd (is:=[0]) Dc)⟩
  ·have hX:=ite_f hc hX
   refine TK.exit ?_
   obtain rfl:=hR17 _ (some_in hX).symm
   exact E17 data19 _ _ ⟨(),rfl,(Nd.pick nd (is:=[0]) Dc),(HSub.pick nd (is:=[0]) Dc)⟩ hA17
 ·have hX:=ite_f hc hX
  refine TK.exit ?_
  obtain rfl:=hR7 _ (some_in hX).symm
  exact E7 data9 _ _ ⟨(),rfl,(Nd.pick nd (is:=[0]) Dc),(HSub.pick nd (is:=[0]) Dc)⟩ hA7
theorem ok_slices_pdqsortCmpFunc_api_Seal (a3:Int) (b4:Int) (limit5:Int) (g6:Seal_api→Seal_api→Option Int) (data1:(List Seal_api)) (b2:Nat) (nd:Nd [(b2,RL (α:=Seal_api) 50 data1)]) (r:(List Seal_api)) (hX:X.slices_pdqsortCmpFunc_api_Seal a3 b4 limit5 g6 data1=some r) {g6V:AV} (hg6V:∃f m c,g6V= .fn f m c∧(∀i,i<m→(c i).val)∧∀(a0:Seal_api) (a1:Seal_api) r,g6 a0 a1=some r→Fun Try.prog f ([Enc.v a0,Enc.v a1]++(List.range m).map c) (·=Enc.v r)):TCX Try.prog 118 [OL (α:=Seal_api) b2 data1,Enc.v (a3:Int),Enc.v (b4:Int),Enc.v (limit5:Int),g6V] [(b2,RL (α:=Seal_api) 50 data1)] (fun rv h'=>rv= .tup 0 (ofL [])∧h'=[(b2,RL (α:=Seal_api) 50 r)]):=by
 obtain ⟨g6f,g6m,g6c,rfl,hg6v,hg6⟩:=hg6V
 refine TCX.of b118 (Nat.le_of_ble_eq_true rfl) ?_
 unfold k118
 unfold X.slices_pdqsortCmpFunc_api_Seal at hX
 refine SR fun K7 hK7=>M rfl rfl (TL.nil (hK7 _ _ (SR fun K8 hK8=>M rfl rfl (TL.nil (hK8 _ _ ?_)))))
 refine TK.block ?_
 refine TK.unroll 1 ?_
 refine unr_s ?_
 refine TK.block ?_
 refine SR fun K10 hK10=>M rfl rfl (M rfl rfl (P1 (p_sub rfl rfl) rfl rfl (M rfl rfl (TL.nil (hK10 _ _ ?_)))))
 refine TK.seq_k fun K11 hK11=>?_
 refine SR fun K12 hK12=>M rfl rfl (P1 (p_leq rfl rfl) rfl rfl (TL.nil (hK12 _ _ ?_)))
 refine TK.cond (b:=(decide ((wr (b4-a3))≤(12:Int)))) rfl (fun hc=>?_) (fun hc=>?_)
 ·have hX:=ite_t hc hX
  refine SR fun K13 hK13=>M rfl rfl (M rfl rfl (M rfl rfl (M rfl rfl ?_)))
  obtain ⟨r14,hr14,hX⟩:=bind_some hX
  refine TL.tcX [(b2,RL (α:=Seal_api) 50 data1)] [] rfl nd (dlt rfl) rfl ⟨rfl,⟨rfl,⟨rfl,⟨rfl,⟨rfl,trivial⟩⟩⟩⟩⟩ (ok_slices_insertionSortCmpFunc_api_Seal a3 b4 g6 data1 b2 (Nd.take nd 1 rfl) _ hr14 ⟨_,_,_,rfl,hg6v,hg6⟩) ?_
  rintro _ _ hQ nd
  obtain ⟨rfl,rfl⟩:=hQ
  refine TL.nil (hK13 _ _ ?_)
  refine TK.ret ?_
  try dsimp only[thenQ]
  exact retX (v:= .tup 0 (ofL [])) res0 (by obtain rfl:=some_in hX;exact ⟨rfl,rfl⟩) nd (inH_tup (l:=[]) trivial) ⟨rowIn_RL,trivial⟩
 ·have hX:=ite_f hc hX
  refine TK.skip ?_
  refine hK11 _ _ ?_
  refine TK.seq_k fun K15 hK15=>?_
  refine SR fun K16 hK16=>M rfl rfl (P1 (p_eql rfl rfl) rfl rfl (TL.nil (hK16 _ _ ?_)))
  refine TK.cond (b:=(limit5==(0:Int))) rfl (fun hc=>?_) (fun hc=>?_)
  ·have hX:=ite_t hc hX
   refine SR fun K17 hK17=>M rfl rfl (M rfl rfl (M rfl rfl (M rfl rfl ?_)))
   cases hX
  ·have hX:=ite_f hc hX
   refine TK.skip ?_
   refine hK15 _ _ ?_
   refine TK.seq_k fun K18 hK18=>?_
   refine SR fun K19 hK19=>M rfl rfl (P1 (p_not rfl) rfl rfl (TL.nil (hK19 _ _ ?_)))
   refine TK.cond (b:=(!true)) rfl (fun hc=>?_) (fun hc=>?_)
   ·have hX:=ite_t hc hX
    refine SR fun K20 hK20=>M rfl rfl (M rfl rfl (M rfl rfl (M rfl rfl ?_)))
    cases hX
   ·have hX:=ite_f hc hX
    refine TK.skip ?_
    refine hK18 _ _ (SR fun K21 hK21=>M rfl rfl (M rfl rfl (M rfl rfl (M rfl rfl ?_))))
    cases hX
theorem ok_slices_SortFunc_Lapi_Seal_api_Seal (g3:Seal_api→Seal_api→Option Int) (x1:(List Seal_api)) (b2:Nat) (nd:Nd [(b2,RL (α:=Seal_api) 50 x1)]) (r:(List Seal_api)) (hX:X.slices_SortFunc_Lapi_Seal_api_Seal g3 x1=some r) {g3V:AV} (hg3V:∃f m c,g3V= .fn f m c∧(∀i,i<m→(c i).val)∧∀(a0:Seal_api) (a1:Seal_api) r,g3 a0 a1=some r→Fun Try.prog f ([Enc.v a0,Enc.v a1]++(List.range m).map c) (·=Enc.v r)):TCX Try.prog 73 [OL (α:=Seal_api) b2 x1,g3V] [(b2,RL (α:=Seal_api) 50 x1)] (fun rv h'=>rv= .tup 0 (ofL [])∧h'=[(b2,RL (α:=Seal_api) 50 r)]):=by
 obtain ⟨g3f,g3m,g3c,rfl,hg3v,hg3⟩:=hg3V
 refine TCX.of b73 (Nat.le_of_ble_eq_true rfl) ?_
 unfold k73
 unfold X.slices_SortFunc_Lapi_Seal_api_Seal at hX
 refine TK.endK fun KE hKE=>?_
 refine SR fun K4 hK4=>M rfl rfl (P1 (p_lenR kd71 rfl (fun _=>refOK_of nd (j:=0) rfl rfl)) rfl rfl (M rfl rfl (TL.nil (hK4 _ _ ?_))))
 refine TK.reg ?_
 refine M rfl rfl (M rfl rfl (M rfl rfl (P1 (p_cvt src3 kd105 rfl (cv_u64 _)) rfl rfl ?_)))
 obtain ⟨r5,hr5,hX⟩:=bind_some hX
 refine TL.cvX rfl rfl rfl (fun _=>⟨rfl,⟨rfl,trivial⟩⟩) (fun e=>ok_math_bits_Len (u64 (x1.length:Int)) _ hr5) ?_
 refine M rfl rfl ?_
 obtain ⟨r6,hr6,hX⟩:=bind_some hX
 refine TL.tcX [(b2,RL (α:=Seal_api) 50 x1)] [] rfl nd (dlt rfl) rfl ⟨rfl,⟨rfl,⟨rfl,⟨rfl,⟨rfl,⟨rfl,trivial⟩⟩⟩⟩⟩⟩ (ok_slices_pdqsortCmpFunc_api_Seal (0:Int) (x1.length:Int) r5 g3 x1 b2 (Nd.take nd 1 rfl) _ hr6 ⟨_,_,_,rfl,hg3v,hg3⟩) ?_
 rintro _ _ hQ nd
 obtain ⟨rfl,rfl⟩:=hQ
 refine TL.nil (hKE _ _ (TL.nil ?_))
 try dsimp only[thenQ]
 refine RetQ_end ?_
 exact retX (v:= .tup 0 (ofL [])) res0 (by obtain rfl:=some_in hX;exact ⟨rfl,rfl⟩) nd (inH_tup (l:=[]) trivial) ⟨rowIn_RL,trivial⟩
theorem len_slices_SortFunc_Lapi_Seal_api_SealL {g3:Seal_api→Seal_api→Option Int} {x1:(List Seal_api)} {r:(List Seal_api)} (hX:X.slices_SortFunc_Lapi_Seal_api_SealL g3 x1=some r):r.length=x1.length:=by
 obtain ⟨q,_,h⟩:=bind_some hX
 split at h
 ·injection h with h
  subst h
  assumption
 ·cases h
theorem ok_slices_SortFunc_Lapi_Seal_api_SealL (g3:Seal_api→Seal_api→Option Int) (x1:(List Seal_api)) (b2:Nat) (nd:Nd [(b2,RL (α:=Seal_api) 50 x1)]) (r:(List Seal_api)) (hX:X.slices_SortFunc_Lapi_Seal_api_SealL g3 x1=some r) {g3V:AV} (hg3V:∃f m c,g3V= .fn f m c∧(∀i,i<m→(c i).val)∧∀(a0:Seal_api) (a1:Seal_api) r,g3 a0 a1=some r→Fun Try.prog f ([Enc.v a0,Enc.v a1]++(List.range m).map c) (·=Enc.v r)):TCX Try.prog 73 [OL (α:=Seal_api) b2 x1,g3V] [(b2,RL (α:=Seal_api) 50 x1)] (fun rv h'=>rv= .tup 0 (ofL [])∧h'=[(b2,RL (α:=Seal_api) 50 r)]):=by
 obtain ⟨q,h1,h2⟩:=bind_some hX
 split at h2
 ·injection h2 with h2
  subst h2
  exact ok_slices_SortFunc_Lapi_Seal_api_Seal g3 x1 b2 nd _ h1 hg3V
 ·cases h2
theorem ok_cmp_isNaN_int (x1:Int) (r:Bool) (hX:X.cmp_isNaN_int x1=some r):Fun Try.prog 119 [Enc.v (x1:Int)] (·=Enc.v (r:Bool)):=by
 refine Fun.of b119 (Nat.le_of_ble_eq_true rfl) (allVal.mem ⟨(by exact (v_val _)),trivial⟩) ?_
 unfold k119
 have nd:Nd []:=Nd_nil
 unfold X.cmp_isNaN_int at hX
 refine SR fun K2 hK2=>M rfl rfl (TL.nil (hK2 _ _ (SR fun K3 hK3=>M rfl rfl (M rfl rfl (P1 (p_neq rfl rfl) rfl rfl (M rfl rfl (TL.nil (hK3 _ _ ?_))))))))
 refine TK.ret ?_
 try dsimp only[thenQ]
 exact R1 rfl hX
theorem ok_cmp_Compare_int (x1:Int) (y2:Int) (r:Int) (hX:X.cmp_Compare_int x1 y2=some r):Fun Try.prog 75 [Enc.v (x1:Int),Enc.v (y2:Int)] (·=Enc.v (r:Int)):=by
 refine Fun.of b75 (Nat.le_of_ble_eq_true rfl) (allVal.mem ⟨(by exact (v_val _)),(by exact (v_val _)),trivial⟩) ?_
 unfold k75
 have nd:Nd []:=Nd_nil
 unfold X.cmp_Compare_int at hX
 refine SR fun K3 hK3=>M rfl rfl (TL.nil (hK3 _ _ (SR fun K4 hK4=>M rfl rfl ?_)))
 obtain ⟨r5,hr5,hX⟩:=bind_some hX
 refine TL.cvX rfl rfl rfl (fun _=>⟨rfl,⟨rfl,trivial⟩⟩) (fun e=>ok_cmp_isNaN_int x1 _ hr5) ?_
 refine M rfl rfl (TL.nil (hK4 _ _ (SR fun K6 hK6=>M rfl rfl ?_)))
 obtain ⟨r7,hr7,hX⟩:=bind_some hX
 refine TL.cvX rfl rfl rfl (fun _=>⟨rfl,⟨rfl,trivial⟩⟩) (fun e=>ok_cmp_isNaN_int y2 _ hr7) ?_
 refine M rfl rfl (TL.nil (hK6 _ _ ?_))
 refine TK.seq_k fun K8 hK8=>?_
 refine SR fun K9 hK9=>M rfl rfl (TL.nil (hK9 _ _ ?_))
 refine TK.cond (b:=r5) rfl (fun hc=>?_) (fun hc=>?_)
 ·have hX:=ite_t hc hX
  refine TK.seq_k fun K10 hK10=>?_
  refine SR fun K11 hK11=>M rfl rfl (TL.nil (hK11 _ _ ?_))
  refine TK.cond (b:=r7) rfl (fun hc=>?_) (fun hc=>?_)
  ·have hX:=ite_t hc hX
   refine SR fun K12 hK12=>M rfl rfl (TL.nil (hK12 _ _ ?_))
   refine TK.ret ?_
   try dsimp only[thenQ]
   exact R1 rfl hX
  ·have hX:=ite_f hc hX
   refine TK.skip ?_
   refine hK10 _ _ (SR fun K13 hK13=>M rfl rfl (TL.nil (hK13 _ _ ?_)))
   refine TK.ret ?_
   try dsimp only[thenQ]
   exact R1 rfl hX
 ·have hX:=ite_f hc hX
  refine TK.skip ?_
  refine hK8 _ _ ?_
  refine TK.seq_k fun K14 hK14=>?_
  refine SR fun K15 hK15=>M rfl rfl (TL.nil (hK15 _ _ ?_))
  refine TK.cond (b:=r7) rfl (fun hc=>?_) (fun hc=>?_)
  ·have hX:=ite_t hc hX
   refine SR fun K16 hK16=>M rfl rfl (TL.nil (hK16 _ _ ?_))
   refine TK.ret ?_
   try dsimp only[thenQ]
   exact R1 rfl hX
  ·have hX:=ite_f hc hX
   refine TK.skip ?_
   refine hK14 _ _ ?_
   refine TK.seq_k fun K17 hK17=>?_
   refine SR fun K18 hK18=>M rfl rfl (M rfl rfl (P1 (p_lss rfl rfl) rfl rfl (TL.nil (hK18 _ _ ?_))))
   refine TK.cond (b:=(decide (x1<y2))) rfl (fun hc=>?_) (fun hc=>?_)
   ·have hX:=ite_t hc hX
    refine SR fun K19 hK19=>M rfl rfl (TL.nil (hK19 _ _ ?_))
    refine TK.ret ?_
    try dsimp only[thenQ]
    exact R1 rfl hX
   ·have hX:=ite_f hc hX
    refine TK.skip ?_
    refine hK17 _ _ ?_
    refine TK.seq_k fun K20 hK20=>?_
    refine SR fun K21 hK21=>M rfl rfl (M rfl rfl (P1 (p_gtr rfl rfl) rfl rfl (TL.nil (hK21 _ _ ?_))))
    refine TK.cond (b:=(decide (x1>y2))) rfl (fun hc=>?_) (fun hc=>?_)
    ·have hX:=ite_t hc hX
     refine SR fun K22 hK22=>M rfl rfl (TL.nil (hK22 _ _ ?_))
     refine TK.ret ?_
     try dsimp only[thenQ]
     exact R1 rfl hX
    ·have hX:=ite_f hc hX
     refine TK.skip ?_
     refine hK20 _ _ (SR fun K23 hK23=>M rfl rfl (TL.nil (hK23 _ _ ?_)))
     refine TK.ret ?_
     try dsimp only[thenQ]
     exact R1 rfl hX
theorem ok_group_Find_c2 (a1:Seal_api) (b2:Seal_api) (r:Int) (hX:X.group_Find_c2 a1 b2=some r):Fun Try.prog 74 [Enc.v (a1:Seal_api),Enc.v (b2:Seal_api)] (·=Enc.v (r:Int)):=by
 refine Fun.of b74 (Nat.le_of_ble_eq_true rfl) (allVal.mem ⟨(by exact (v_val _)),(by exact (v_val _)),trivial⟩) ?_
 unfold k74
 have nd:Nd []:=Nd_nil
 unfold X.group_Find_c2 at hX
 refine SR fun K3 hK3=>?_
 refine TLc.boxV (lu:=[Enc.v a1.Number,Enc.v a1.Index,Enc.v a1.Data,Enc.v a1.Parity,Enc.v a1.Labels]) nd rfl (Cells_v (a1:Seal_api)) rfl ?_
 refine TLc.boxV (lu:=[Enc.v b2.Number,Enc.v b2.Index,Enc.v b2.Data,Enc.v b2.Parity,Enc.v b2.Labels]) nd rfl (Cells_v (b2:Seal_api)) rfl ?_
 refine M rfl rfl (TL.nil (hK3 _ _ (SR fun K4 hK4=>P1 (p_faR fs50_0 Dc rfl) rfl rfl (P1 (p_ldR (v:=Enc.v a1.Number) ty3 rfl rfl rfl rfl rfl rfl) rfl rfl (P1 (p_faR fs50_0 Dc rfl) rfl rfl (P1 (p_ldR (v:=Enc.v b2.Number) ty3 rfl rfl rfl rfl rfl rfl) rfl rfl ?_))))))
 obtain ⟨r5,hr5,hX⟩:=bind_some hX
 refine TL.cvX rfl rfl rfl (fun _=>⟨rfl,⟨rfl,⟨rfl,trivial⟩⟩⟩) (fun e=>ok_cmp_Compare_int a1.Number b2.Number _ hr5) ?_
 refine M rfl rfl (TL.nil (hK4 _ _ ?_))
 refine TK.ret ?_
 try dsimp only[thenQ]
 exact R1 rfl hX
theorem ok_group_Find (l1:(List Tape_api)) (r:(List Seal_api)) (hX:X.group_Find l1=some r):Fun Try.prog 40 [Enc.v (l1:(List Tape_api))] (·=Enc.v (r:(List Seal_api))):=by
 refine Fun.of b40 (Nat.le_of_ble_eq_true rfl) (allVal.mem ⟨(by exact (v_val _)),trivial⟩) ?_
 unfold k40
 have nd:Nd []:=Nd_nil
 unfold X.group_Find at hX
 refine SR fun K2 hK2=>M rfl rfl (TL.nil (hK2 _ _ (SR fun K3 hK3=>M rfl rfl (TL.nil (hK3 _ _ ?_)))))
 refine TK.ownL (α:=Seal_api) 3 50 nd rfl (.inl rfl) fun b4 nd=>?_
 refine TK.seq_k fun K5 hK5=>?_
 refine SR fun K6 hK6=>M rfl rfl (P1 (p_lenL (xs:=l1) kd48 rfl) rfl rfl (M rfl rfl (TL.nil (hK6 _ _ ?_))))
 refine TK.block ?_
 obtain ⟨o7,hO7,hA7⟩:=bind_some hX
 have E7:∀(l12:List Seal_api) (env:Env) (h:Hp),(∃b11,keepE [3] env=[(3,true,OL b11 l12)]∧Nd [(b11,RL (α:=Seal_api) 50 l12)]∧HSub [(b11,RL (α:=Seal_api) 50 l12)] h)→X.group_Find_e7 l12=some r→K5 env h:=by
  intro l12 env h hE hX
  obtain ⟨b11,henv,nd,hs⟩:=hE
  unfold X.group_Find_e7 at hX
  refine hK5 _ _ (TK.keep [3] ?_)
  rw[henv]
  refine TK.subH hs ?_
  refine SR fun K13 hK13=>M rfl rfl ?_
  obtain ⟨r14,hr14,hX⟩:=bind_some hX
  refine TL.tcX [(b11,RL (α:=Seal_api) 50 l12)] [] rfl nd (dlt rfl) rfl ⟨rfl,⟨rfl,⟨rfl,trivial⟩⟩⟩ (ok_slices_SortFunc_Lapi_Seal_api_SealL (fun a1 a2=>X.group_Find_c2 a1 a2) l12 b11 (Nd.take nd 1 rfl) _ hr14 ⟨74,0,ofL [],rfl,(fun i hi=>by cases hi),fun a1 a2 r hr=>ok_group_Find_c2 a1 a2 r hr⟩) ?_
  rintro _ _ hQ nd
  obtain ⟨rfl,rfl⟩:=hQ
  refine TL.cv 3 (OL b11 r14) rfl (Wk_eq (OL_len (by first|exact len_slices_SortFunc_Lapi_Seal_api_SealL hr14|exact (len_slices_SortFunc_Lapi_Seal_api_SealL hr14).symm))) ?_
  refine TL.cv 42 (OL b11 r14) rfl (Wk_eq (OL_len (by first|exact len_slices_SortFunc_Lapi_Seal_api_SealL hr14|exact (len_slices_SortFunc_Lapi_Seal_api_SealL hr14).symm))) ?_
  refine TL.nil (hK13 _ _ (SR fun K15 hK15=>M rfl rfl (M rfl rfl (TL.nil (hK15 _ _ ?_)))))
  refine TK.lay [(2,L r14)] nd (j:=0) rfl ⟨⟨_,rfl,fix_OL nd (j:=0) rfl,rfl⟩,trivial⟩ fun nd=>?_
  refine TK.ret ?_
  try dsimp only[thenQ]
  exact R1 rfl hX
 refine TK.iter [3,8,9,10] (fun s env h=>match s with|(out9,x10)=>∃b8,env=[(3,true,OL b8 out9),(8,true,Enc.v l1),(9,true,Enc.v ((l1.length:Int):Int)),(10,true,Enc.v x10)]∧Nd [(b8,RL (α:=Seal_api) 50 out9)]∧HSub [(b8,RL (α:=Seal_api) 50 out9)] h) hO7 ⟨b4,rfl,(Nd.pick nd (is:=[0]) Dc),(HSub.pick nd (is:=[0]) Dc)⟩ ?_
 rintro ⟨out9,x10⟩ env h x7x ⟨b8,rfl,nd,hs⟩ hX hR7
 refine TK.subH hs ?_
 unfold X.group_Find_s7 at hX
 try dsimp only at hX
 refine SR fun K16 hK16=>P1 (p_lss rfl rfl) rfl rfl (TL.nil (hK16 _ _ ?_))
 refine TK.seq_k fun K17 hK17=>?_
 refine TK.cond (b:=(decide (x10<(l1.length:Int)))) rfl (fun hc=>?_) (fun hc=>?_)
 ·have hX:=ite_t hc hX
  refine TK.skip ?_
  refine hK17 _ _ ?_
  refine TK.seq_k fun K18 hK18=>?_
  refine TK.block ?_
  refine SR fun K19 hK19=>?_
  obtain ⟨e20,he20,hX⟩:=bind_some hX
  refine P1 (p_iaL (xs:=l1) kd48 ty54 rfl rfl rfl (fun _=>he20)) rfl rfl (P1 (p_ldE (xs:=l1) (a:=e20) (e20:Tape_api) ty54 rfl rfl (fun _=>he20) rfl rfl rfl) rfl rfl ?_)
  refine TLc.alO (l:=[Enc.v ((0:Int):Int),Enc.v ((0:Int):Int),.nils,Enc.v false]) nd ty54 ti54_z rfl rfl fun b21 nd=>?_
  refine TLc.stV (lu:=Enc.cl (e20:Tape_api)) nd ty54 rfl (j:=0) rfl rfl rfl (Cells_v (e20:Tape_api)) rfl rfl [Enc.v e20.Label,Enc.v e20.Cap,Enc.v e20.Blocks,Enc.v e20.Lost] rfl fun nd=>?_
  refine TL.nil (hK19 _ _ (SR fun K22 hK22=>P1 (p_ldVa (l':=Enc.cl (e20:Tape_api)) ty54 rfl rfl nd (j:=0) rfl rfl rfl rfl (Nat.le_of_ble_eq_true rfl)) rfl rfl ?_))
  obtain ⟨r23,hr23,hX⟩:=bind_some hX
  refine TL.cvX rfl rfl rfl (fun _=>⟨rfl,⟨rfl,trivial⟩⟩) (fun e=>ok_volume_Sealed e20 _ hr23) ?_
  refine M rfl rfl (P1 (p_ex rfl rfl Dc) rfl rfl (P1 (p_ex rfl rfl Dc) rfl rfl ?_))
  refine TLc.alO (l:=[Enc.v ((0:Int):Int),Enc.v ((0:Int):Int),Enc.v ((0:Int):Int),Enc.v ((0:Int):Int),.nils]) nd ty50 ti50_z rfl rfl fun b24 nd=>?_
  refine TLc.stV (lu:=Enc.cl (r23.1:Seal_api)) nd ty50 rfl (j:=0) rfl rfl rfl (Cells_v (r23.1:Seal_api)) rfl rfl [Enc.v r23.1.Number,Enc.v r23.1.Index,Enc.v r23.1.Data,Enc.v r23.1.Parity,Enc.v r23.1.Labels] rfl fun nd=>?_
  refine M rfl rfl (TL.nil (hK22 _ _ ?_))
  refine TK.seq_k fun K25 hK25=>?_
  refine TK.seq_k fun K26 hK26=>?_
  refine TK.lay [(6,.vref (ofL [Enc.v r23.1.Number,Enc.v r23.1.Index,Enc.v r23.1.Data,Enc.v r23.1.Parity,Enc.v r23.1.Labels]) 5 0)] nd (j:=0) rfl ⟨⟨_,rfl,fix_ref nd (j:=0) rfl,rfl⟩,trivial⟩ fun nd=>?_
  have ndS:Nd [(b21,RV 54 [Enc.v e20.Label,Enc.v e20.Cap,Enc.v e20.Blocks,Enc.v e20.Lost]),(b8,RL (α:=Seal_api) 50 out9)]:=Nd.pick nd (is:=[0,1]) Dc
  refine TK.drwX (h:=[]) (hS:=[(b21,RV 54 [Enc.v e20.Label,Enc.v e20.Cap,Enc.v e20.Blocks,Enc.v e20.Lost]),(b8,RL (α:=Seal_api) 50 out9)]) [(0,0),(0,1),(0,2),(0,3),(0,4),(0,5),(0,6),(0,7),(0,8),(0,9),(0,10),(0,11),(0,12),(0,13),(0,14),(0,15),(0,16),(0,17)] mixed (by kernel_rfl) (HSub_app nd) ?_
  refine DM rfl rfl rfl ?_
  refine D0 rfl (p_not rfl) rfl rfl ?_
  refine DM rfl rfl rfl ?_
  refine DR0 (gc:=(!((!r23.2)))) rfl (vok_p (C:=cx) (p_faR fs50_4 Dc rfl (hg:=fun e=>rfl))) (gcF1 rfl) rfl ?_
  refine DR0 (gc:=(!((!r23.2)))) rfl (vok_p (C:=cx) (p_ldR (v:=Enc.v r23.1.Labels) ty47 rfl rfl rfl rfl rfl rfl (hg:=fun e=>e))) (gcF1 rfl) rfl ?_
  refine DR0 (gc:=(!((!r23.2)))) rfl (vok_p (C:=cx) (p_faR fs50_1 Dc rfl (hg:=fun e=>rfl))) (gcF1 rfl) rfl ?_
  refine DR0 (gc:=(!((!r23.2)))) rfl (vok_p (C:=cx) (p_ldR (v:=Enc.v r23.1.Index) ty3 rfl rfl rfl rfl rfl rfl (hg:=fun e=>e))) (gcF1 rfl) rfl ?_
  obtain ⟨e27,he27,hX⟩:=bind_some hX
  refine DR0 (gc:=(!((!r23.2)))) rfl (vok_p (C:=cx) (p_iaL (xs:=r23.1.Labels) kd47 ty3 rfl rfl rfl (fun e=>optG_t he27 e) (hg:=fun e=>⟨e,e⟩))) (gcF1 rfl) rfl ?_
  refine DR0 (gc:=(!((!r23.2)))) rfl (vok_p (C:=cx) (p_ldE (xs:=r23.1.Labels) (a:=e27) (e27:Int) ty3 rfl rfl (fun e=>optG_t he27 e) rfl rfl rfl (hg:=fun e=>e))) (gcF1 rfl) rfl ?_
  refine DR0 (gc:=(!((!r23.2)))) rfl (vok_p (C:=cx) (p_faV fs54_0 Dc rfl ndS (j:=0) rfl rfl (hg:=fun e=>rfl))) (gcF1 rfl) rfl ?_
  refine DR0 (gc:=(!((!r23.2)))) rfl (vok_p (C:=cx) (p_ldV (v:=Enc.v e20.Label) ty3 rfl rfl ndS (j:=0) rfl rfl rfl rfl rfl (hg:=fun e=>e))) (gcF1 rfl) rfl ?_
  refine DR0 (gc:=(!((!r23.2)))) rfl (vok_p (C:=cx) (p_neq rfl rfl (hg:=fun e=>⟨e,e⟩))) (gcF1 rfl) rfl ?_
  refine D0 rfl (p_or rfl rfl (fun e=>⟨rfl,fun h=>(not_t h)⟩)) rfl rfl ?_
  refine DM rfl rfl rfl ?_
  refine DR0 (gc:=(!(((!r23.2)||(e27 !=e20.Label))))) rfl (vok_p (C:=cx) (p_mv rfl (hg:=fun e=>rfl))) (gcF1 rfl) rfl ?_
  refine DR0 (gc:=(!(((!r23.2)||(e27 !=e20.Label))))) rfl (vok_p (C:=cx) (p_mf (l:=[.vref (ofL [Enc.v r23.1.Number,Enc.v r23.1.Index,Enc.v r23.1.Data,Enc.v r23.1.Parity,Enc.v r23.1.Labels]) 5 0]) rfl (fun _=>⟨rfl,trivial⟩))) (gcF1 rfl) rfl ?_
  obtain ⟨r28,hr28,hX⟩:=bind_some hX
  refine DR0 (gc:=(!(((!r23.2)||(e27 !=e20.Label))))) rfl (vok_lookX [L out9,.fn 72 1 (ofL [.vref (ofL [Enc.v r23.1.Number,Enc.v r23.1.Index,Enc.v r23.1.Data,Enc.v r23.1.Parity,Enc.v r23.1.Labels]) 5 0])] rfl (fun e=>⟨rfl,⟨e,⟨e,trivial⟩⟩⟩) ⟨look_OL ndS (j:=1) rfl,look_v (caps_val rfl ⟨(vref_val (l:=[Enc.v r23.1.Number,Enc.v r23.1.Index,Enc.v r23.1.Data,Enc.v r23.1.Parity,Enc.v r23.1.Labels]) rfl ⟨(v_val _),(v_val _),(v_val _),(v_val _),(v_val _),trivial⟩),trivial⟩),trivial⟩ (fun e=>ok_slices_ContainsFunc_Lapi_Seal_api_Seal out9 (fun a1=>X.group_Find_c1 a1 r23.1.Number r23.1.Index r23.1.Data r23.1.Parity r23.1.Labels) _ (optG_t hr28 e) ⟨72,1,ofL [.vref (ofL [Enc.v r23.1.Number,Enc.v r23.1.Index,Enc.v r23.1.Data,Enc.v r23.1.Parity,Enc.v r23.1.Labels]) 5 0],rfl,(caps_val rfl ⟨(vref_val (l:=[Enc.v r23.1.Number,Enc.v r23.1.Index,Enc.v r23.1.Data,Enc.v r23.1.Parity,Enc.v r23.1.Labels]) rfl ⟨(v_val _),(v_val _),(v_val _),(v_val _),(v_val _),trivial⟩),trivial⟩),fun a1 r hr=>ok_group_Find_c1 a1 r23.1.Number r23.1.Index r23.1.Data r23.1.Parity r23.1.Labels r hr⟩) (trivial)) (gcF1 rfl) rfl ?_
  refine D0 rfl (p_or rfl rfl (fun e=>⟨rfl,fun h=>(not_t h)⟩)) rfl rfl ?_
  refine DRend ?_
  refine hK26 _ _ ?_
  refine TK.cond (b:=(((!r23.2)||(e27 !=e20.Label))||r28)) rfl (fun hc=>?_) (fun hc=>?_)
  ·have hX:=ite_t hc hX
   refine TK.exit ?_
   refine hK18 _ _ ?_
   refine TK.reg ?_
   refine P1 (p_add rfl rfl) rfl rfl (M rfl rfl (TL.nil ?_))
   exact ⟨_,(some_in hX).symm,b8,rfl,(Nd.pick nd (is:=[1]) Dc),(HSub.pick nd (is:=[1]) Dc)⟩
  ·have hX:=ite_f hc hX
   refine TK.skip ?_
   refine hK25 _ _ ?_
   refine TK.reg ?_
   refine M rfl rfl (P1 (p_ldRa (l':=Enc.cl (r23.1:Seal_api)) ty50 rfl rfl rfl rfl rfl (Nat.le_of_ble_eq_true rfl)) rfl rfl ?_)
   refine TLc.lit ([r23.1]:List Seal_api) kd71 ty50 rfl ⟨⟨rfl,rfl⟩,trivial⟩ rfl rfl rfl ?_
   obtain ⟨u29,hu29,hX⟩:=bind_some hX
   refine TLc.appO nd kd71 bo71 ty50 rfl rfl (j:=1) rfl rfl (Src_L _) Dc (need_t hu29) rfl fun nd=>?_
   refine M rfl rfl (TL.nil (hK18 _ _ ?_))
   refine TK.reg ?_
   refine P1 (p_add rfl rfl) rfl rfl (M rfl rfl (TL.nil ?_))
   exact ⟨_,(some_in hX).symm,b8,rfl,(Nd.pick nd (is:=[1]) Dc),(HSub.pick nd (is:=[1]) Dc)⟩
 ·have hX:=ite_f hc hX
  refine TK.exit ?_
  obtain rfl:=hR7 _ (some_in hX).symm
  exact E7 out9 _ _ ⟨b8,rfl,(Nd.pick nd (is:=[0]) Dc),(HSub.pick nd (is:=[0]) Dc)⟩ hA7
theorem ok_cartridgelaw14_num (e1:Int) (r:Int) (hX:X.cartridgelaw14_num e1=some r):Fun Try.prog 39 [Enc.v (e1:Int)] (·=Enc.v (r:Int)):=by
 refine Fun.of b39 (Nat.le_of_ble_eq_true rfl) (allVal.mem ⟨(by exact (v_val _)),trivial⟩) ?_
 unfold k39
 have nd:Nd []:=Nd_nil
 unfold X.cartridgelaw14_num at hX
 refine SR fun K2 hK2=>M rfl rfl (TL.nil (hK2 _ _ (SR fun K3 hK3=>M rfl rfl (M rfl rfl (TL.nil (hK3 _ _ ?_))))))
 refine TK.ret ?_
 try dsimp only[thenQ]
 exact R1 rfl hX
theorem ok_cartridgelaw14_alive (r:Bool) (hX:X.cartridgelaw14_alive=some r):Fun Try.prog 36 [] (·=Enc.v (r:Bool)):=by
 refine Fun.of b36 (Nat.le_of_ble_eq_true rfl) (fun x hx=>by cases hx) ?_
 unfold k36
 have nd:Nd []:=Nd_nil
 unfold X.cartridgelaw14_alive at hX
 refine SR fun K1 hK1=>M rfl rfl (TL.nil (hK1 _ _ (SR fun K2 hK2=>?_)))
 refine TLc.litO nd ([(68:UInt8)]:List UInt8) kd25 ty5 rfl ⟨⟨rfl,rfl⟩,trivial⟩ rfl rfl rfl fun b3 nd=>?_
 refine TLc.cvtF (xs:=([(68:UInt8)]:List UInt8)) nd kd25 kd5 rfl (j:=0) rfl (by simp) rfl fun nd=>?_
 refine P1 (p_bld (l:=Enc.cl ((Unit_api.mk (1:Int) (1:Int) (0:Int) ([(68:UInt8)]:List UInt8)):Unit_api)) ty68 rfl all68 rfl (fun _=>⟨⟨rfl,trivial,rfl⟩,⟨rfl,trivial,rfl⟩,⟨rfl,trivial,rfl⟩,trivial⟩)) rfl rfl ?_
 obtain ⟨r4,hr4,hX⟩:=bind_some hX
 refine TL.cvX rfl rfl rfl (fun _=>⟨rfl,⟨rfl,trivial⟩⟩) (fun e=>ok_cartridgeref1_PutFrame (Unit_api.mk (1:Int) (1:Int) (0:Int) ([(68:UInt8)]:List UInt8)) _ hr4) ?_
 refine M rfl rfl (P1 (p_ex rfl rfl Dc) rfl rfl (P1 (p_ex rfl rfl Dc) rfl rfl (M rfl rfl (M rfl rfl (TL.nil (hK2 _ _ (SR fun K5 hK5=>M rfl rfl ?_)))))))
 refine TLc.lit ([r4.1]:List (List UInt8)) kd22 ty25 rfl ⟨⟨rfl,rfl⟩,trivial⟩ rfl rfl rfl ?_
 refine P1 (p_bld (l:=Enc.cl ((Tape_api.mk (1:Int) (4:Int) ([r4.1]:List (List UInt8)) false):Tape_api)) ty54 rfl all54 rfl (fun _=>⟨⟨rfl,trivial,rfl⟩,⟨rfl,trivial,rfl⟩,⟨rfl,trivial,rfl⟩,trivial⟩)) rfl rfl ?_
 refine TLc.lit ([(Tape_api.mk (1:Int) (4:Int) ([r4.1]:List (List UInt8)) false)]:List Tape_api) kd48 ty54 rfl ⟨⟨rfl,rfl⟩,trivial⟩ rfl rfl rfl ?_
 refine TLc.p (gc:=true) (p_bld (l:=[Enc.v ((2:Int):Int),Enc.v ((4:Int):Int),.nils,Enc.v false]) ty54 rfl all54 rfl (fun _=>⟨⟨rfl,trivial,rfl⟩,⟨rfl,trivial,rfl⟩,trivial⟩)) rfl rfl (TL.wk (v':=Enc.v ((Tape_api.mk (2:Int) (4:Int) ([]:(List (List UInt8))) false):Tape_api)) (Wk_agg ⟨Wk.refl _,Wk.refl _,Wk_nil,Wk.refl _,trivial⟩) ?_)
 refine TLc.lit ([(Tape_api.mk (2:Int) (4:Int) ([]:(List (List UInt8))) false)]:List Tape_api) kd48 ty54 rfl ⟨⟨rfl,rfl⟩,trivial⟩ rfl rfl rfl ?_
 obtain ⟨r6,hr6,hX⟩:=bind_some hX
 refine TL.cvX rfl rfl rfl (fun _=>⟨rfl,⟨rfl,⟨rfl,⟨rfl,trivial⟩⟩⟩⟩) (fun e=>ok_group_Make ([(Tape_api.mk (1:Int) (4:Int) ([r4.1]:List (List UInt8)) false)]:List Tape_api) ([(Tape_api.mk (2:Int) (4:Int) ([]:(List (List UInt8))) false)]:List Tape_api) (1:Int) _ hr6) ?_
 refine M rfl rfl (P1 (p_ex rfl rfl Dc) rfl rfl (P1 (p_ex rfl rfl Dc) rfl rfl (M rfl rfl (M rfl rfl (TL.nil (hK5 _ _ (SR fun K7 hK7=>?_)))))))
 obtain ⟨r8,hr8,hX⟩:=bind_some hX
 refine TL.cvX rfl rfl rfl (fun _=>⟨rfl,⟨rfl,trivial⟩⟩) (fun e=>(Fun.wk (args':=[L ([]:List Tape_api)]) ⟨Wk_nil,trivial⟩ (ok_group_Find ([]:List Tape_api) _ hr8))) ?_
 refine P1 (p_lenL (xs:=r8) kd71 rfl) rfl rfl (P1 (p_eql rfl rfl) rfl rfl (M rfl rfl ?_))
 refine TLc.p (gc:=(((r8.length:Int)==(0:Int)))) (p_mv rfl (hg:=fun e=>rfl)) (gcT1 rfl) rfl ?_
 obtain ⟨r9,hr9,hX⟩:=bind_some hX
 refine TL.cvX (gcT1 rfl) rfl rfl (fun e=>⟨rfl,⟨e,trivial⟩⟩) (fun e=>ok_cartridgelaw14_num r6.2 _ (optG_t hr9 e)) ?_
 refine TLc.p (gc:=(((r8.length:Int)==(0:Int)))) (p_eql rfl rfl (hg:=fun e=>⟨e,rfl⟩)) (gcT1 rfl) rfl ?_
 refine P1 (p_and rfl rfl (fun e=>⟨rfl,fun h=>h⟩)) rfl rfl (M rfl rfl ?_)
 refine TLc.p (gc:=((((r8.length:Int)==(0:Int))&&(r9==(0:Int))))) (p_mv rfl (hg:=fun e=>rfl)) (gcT1 rfl) rfl ?_
 refine TLc.p (gc:=((((r8.length:Int)==(0:Int))&&(r9==(0:Int))))) (p_lenL (xs:=r6.1) kd48 rfl (hg:=fun e=>e)) (gcT1 rfl) rfl ?_
 refine TLc.p (gc:=((((r8.length:Int)==(0:Int))&&(r9==(0:Int))))) (p_eql rfl rfl (hg:=fun e=>⟨e,rfl⟩)) (gcT1 rfl) rfl ?_
 refine P1 (p_and rfl rfl (fun e=>⟨rfl,fun h=>h⟩)) rfl rfl (M rfl rfl ?_)
 refine TLc.p (gc:=(((((r8.length:Int)==(0:Int))&&(r9==(0:Int)))&&((r6.1.length:Int)==(1:Int))))) (p_mv rfl (hg:=fun e=>rfl)) (gcT1 rfl) rfl ?_
 obtain ⟨e10,he10,hX⟩:=bind_some hX
 refine TLc.p (gc:=(((((r8.length:Int)==(0:Int))&&(r9==(0:Int)))&&((r6.1.length:Int)==(1:Int))))) (p_iaL (xs:=r6.1) kd48 ty54 rfl rfl rfl (fun e=>optG_t he10 e) (hg:=fun e=>⟨e,rfl⟩)) (gcT1 rfl) rfl ?_
 refine TLc.p (gc:=(((((r8.length:Int)==(0:Int))&&(r9==(0:Int)))&&((r6.1.length:Int)==(1:Int))))) (p_faE fs54_2 Dc rfl (hg:=fun e=>e)) (gcT1 rfl) rfl ?_
 refine TLc.p (gc:=(((((r8.length:Int)==(0:Int))&&(r9==(0:Int)))&&((r6.1.length:Int)==(1:Int))))) (p_ldE (xs:=r6.1) (a:=e10) (e10.Blocks:(List (List UInt8))) ty22 rfl rfl (fun e=>optG_t he10 e) rfl rfl rfl (hg:=fun e=>e)) (gcT1 rfl) rfl ?_
 refine TLc.p (gc:=(((((r8.length:Int)==(0:Int))&&(r9==(0:Int)))&&((r6.1.length:Int)==(1:Int))))) (p_lenL (xs:=e10.Blocks) kd22 rfl (hg:=fun e=>e)) (gcT1 rfl) rfl ?_
 refine TLc.p (gc:=(((((r8.length:Int)==(0:Int))&&(r9==(0:Int)))&&((r6.1.length:Int)==(1:Int))))) (p_eql rfl rfl (hg:=fun e=>⟨e,rfl⟩)) (gcT1 rfl) rfl ?_
 refine P1 (p_and rfl rfl (fun e=>⟨rfl,fun h=>h⟩)) rfl rfl (M rfl rfl ?_)
 refine TLc.p (gc:=((((((r8.length:Int)==(0:Int))&&(r9==(0:Int)))&&((r6.1.length:Int)==(1:Int)))&&((e10.Blocks.length:Int)==(3:Int))))) (p_mv rfl (hg:=fun e=>rfl)) (gcT1 rfl) rfl ?_
 obtain ⟨r11,hr11,hX⟩:=bind_some hX
 refine TL.cvX (gcT1 rfl) rfl rfl (fun e=>⟨rfl,⟨e,trivial⟩⟩) (fun e=>ok_group_Find r6.1 _ (optG_t hr11 e)) ?_
 refine TLc.p (gc:=((((((r8.length:Int)==(0:Int))&&(r9==(0:Int)))&&((r6.1.length:Int)==(1:Int)))&&((e10.Blocks.length:Int)==(3:Int))))) (p_lenL (xs:=r11) kd71 rfl (hg:=fun e=>e)) (gcT1 rfl) rfl ?_
 refine TLc.p (gc:=((((((r8.length:Int)==(0:Int))&&(r9==(0:Int)))&&((r6.1.length:Int)==(1:Int)))&&((e10.Blocks.length:Int)==(3:Int))))) (p_eql rfl rfl (hg:=fun e=>⟨e,rfl⟩)) (gcT1 rfl) rfl ?_
 refine P1 (p_and rfl rfl (fun e=>⟨rfl,fun h=>h⟩)) rfl rfl (M rfl rfl (TL.nil (hK7 _ _ ?_)))
 refine TK.ret ?_
 try dsimp only[thenQ]
 exact R1 rfl hX
theorem ok_slices_Clone_Lint_int (s1:(List Int)) (r:(List Int)) (hX:X.slices_Clone_Lint_int s1=some r):Fun Try.prog 77 [Enc.v (s1:(List Int))] (·=Enc.v (r:(List Int))):=by
 refine Fun.of b77 (Nat.le_of_ble_eq_true rfl) (allVal.mem ⟨(by exact (v_val _)),trivial⟩) ?_
 unfold k77
 have nd:Nd []:=Nd_nil
 unfold X.slices_Clone_Lint_int at hX
 refine SR fun K2 hK2=>M rfl rfl (TL.nil (hK2 _ _ ?_))
 refine TK.seq_k fun K3 hK3=>?_
 refine SR fun K4 hK4=>M rfl rfl ?_
 refine TLc.eqNilU (xs:=s1) kd47 rfl rfl rfl fun z5 hbz5=>?_
 replace hX:=nilU_t hX hbz5
 refine TL.nil (hK4 _ _ ?_)
 refine TK.cond (b:=z5) rfl (fun hc=>?_) (fun hc=>?_)
 ·have hX:=ite_t hc hX
  refine SR fun K6 hK6=>M rfl rfl (TL.nil (hK6 _ _ ?_))
  refine TK.wk 2 (L ([]:(List Int))) rfl Wk_nil ?_
  refine TK.ret ?_
  try dsimp only[thenQ]
  exact R1 rfl hX
 ·have hX:=ite_f hc hX
  refine TK.skip ?_
  refine hK3 _ _ (SR fun K7 hK7=>?_)
  refine TLc.litZ kd47 ty3 rfl ?_
  refine M rfl rfl ?_
  obtain ⟨u9,hu9,hX⟩:=bind_some hX
  refine TLc.appN nd kd47 bo47 ty3 rfl rfl (.inr rfl) rfl (Src_L _) Dc (need_t hu9) rfl fun b10 nd=>?_
  refine M rfl rfl (TL.nil (hK7 _ _ ?_))
  refine TK.lay [(2,L s1)] nd (j:=0) rfl ⟨⟨_,rfl,fix_OL nd (j:=0) rfl,rfl⟩,trivial⟩ fun nd=>?_
  refine TK.ret ?_
  try dsimp only[thenQ]
  exact R1 rfl hX
theorem bc_group_Of:BodyC cx 41 25 [.c 4 50,.t 5] k41:=⟨Enters.of Try.func41 (by kernel_rfl) (by kernel_rfl),_,_,Try.func41,rfl,by kernel_rfl,rfl,rfl⟩
theorem ok_group_Of (l1:(List Seal_api)) (label2:Int) (r:(Seal_api×Bool)) (hX:X.group_Of l1 label2=some r):Fun Try.prog 41 [Enc.v (l1:(List Seal_api)),Enc.v (label2:Int)] (·= .tup 2 (ofL [Enc.v r.1,Enc.v r.2])):=by
 refine Fun.ofC (C:=cx) bc_group_Of (Nat.le_of_ble_eq_true rfl) (allVal.mem ⟨(by exact (v_val _)),(by exact (v_val _)),trivial⟩) ?_
 unfold k41
 have nd:Nd []:=Nd_nil
 unfold X.group_Of at hX
 refine SR fun K3 hK3=>?_
 refine TLc.alO (l:=[Enc.v ((0:Int):Int),Enc.v ((0:Int):Int),Enc.v ((0:Int):Int),Enc.v ((0:Int):Int),.nils]) nd ty50 ti50_z rfl rfl fun b4 nd=>?_
 refine M rfl rfl (TL.nil (hK3 _ _ ?_))
 refine TK.cvR nd (j:=0) rfl (l':=[Enc.v ((0:Int):Int),Enc.v ((0:Int):Int),Enc.v ((0:Int):Int),Enc.v ((0:Int):Int),Enc.v (([]:(List Int)):(List Int))]) ⟨Wk.refl _,Wk.refl _,Wk.refl _,Wk.refl _,Wk_nil,trivial⟩ fun nd=>?_
 refine TK.seq_k fun K5 hK5=>?_
 refine SR fun K6 hK6=>M rfl rfl (P1 (p_lenL (xs:=l1) kd71 rfl) rfl rfl (M rfl rfl (TL.nil (hK6 _ _ ?_))))
 refine TK.block ?_
 obtain ⟨o7,hO7,hA7⟩:=bind_some hX
 have E7:∀(env:Env) (h:Hp),(∃b10,keepE [4] env=[(4,true,.ref b10 0 5)]∧Nd [(b10,RV 50 [Enc.v ((0:Int):Int),Enc.v ((0:Int):Int),Enc.v ((0:Int):Int),Enc.v ((0:Int):Int),Enc.v (([]:(List Int)):(List Int))])]∧HSub [(b10,RV 50 [Enc.v ((0:Int):Int),Enc.v ((0:Int):Int),Enc.v ((0:Int):Int),Enc.v ((0:Int):Int),Enc.v (([]:(List Int)):(List Int))])] h)→X.group_Of_e7=some r→K5 env h:=by
  intro env h hE hX
  obtain ⟨b10,henv,nd,hs⟩:=hE
  unfold X.group_Of_e7 at hX
  refine hK5 _ _ (TK.keep [4] ?_)
  rw[henv]
  refine TK.subH hs ?_
  refine SR fun K11 hK11=>?_
  refine TLc.p (gc:=true) (p_bld (l:=[Enc.v ((0:Int):Int),Enc.v ((0:Int):Int),Enc.v ((0:Int):Int),Enc.v ((0:Int):Int),.nils]) ty50 rfl all50 rfl (fun _=>trivial)) rfl rfl (TL.wk (v':=Enc.v ((Seal_api.mk (0:Int) (0:Int) (0:Int) (0:Int) ([]:(List Int))):Seal_api)) (Wk_agg ⟨Wk.refl _,Wk.refl _,Wk.refl _,Wk.refl _,Wk_nil,trivial⟩) ?_)
  refine TLc.stV (lu:=Enc.cl ((Seal_api.mk (0:Int) (0:Int) (0:Int) (0:Int) ([]:(List Int))):Seal_api)) nd ty50 rfl (j:=0) rfl rfl rfl (Cells_v ((Seal_api.mk (0:Int) (0:Int) (0:Int) (0:Int) ([]:(List Int))):Seal_api)) rfl rfl [Enc.v ((Seal_api.mk (0:Int) (0:Int) (0:Int) (0:Int) ([]:(List Int))).Number:Int),Enc.v ((Seal_api.mk (0:Int) (0:Int) (0:Int) (0:Int) ([]:(List Int))).Index:Int),Enc.v ((Seal_api.mk (0:Int) (0:Int) (0:Int) (0:Int) ([]:(List Int))).Data:Int),Enc.v ((Seal_api.mk (0:Int) (0:Int) (0:Int) (0:Int) ([]:(List Int))).Parity:Int),Enc.v ((Seal_api.mk (0:Int) (0:Int) (0:Int) (0:Int) ([]:(List Int))).Labels:(List Int))] rfl fun nd=>?_
  refine M rfl rfl (TL.nil (hK11 _ _ ?_))
  refine TK.ret ?_
  try dsimp only[thenQ]
  exact retC [Enc.v ((Seal_api.mk (0:Int) (0:Int) (0:Int) (0:Int) ([]:(List Int))):Seal_api),Enc.v false] ⟨p_ldVa (l':=Enc.cl ((Seal_api.mk (0:Int) (0:Int) (0:Int) (0:Int) ([]:(List Int))):Seal_api)) ty50 rfl rfl nd (j:=0) rfl rfl rfl rfl (Nat.le_of_ble_eq_true rfl),p_mv rfl,trivial⟩ (by obtain rfl:=some_in hX;rfl) (tup_val (allVal.mem ⟨v_val _,v_val _,trivial⟩))
 refine TK.iter [1,4,8,9,10] (fun s env h=>match s with|x9=>∃b8,env=[(1,true,Enc.v label2),(4,true,.ref b8 0 5),(8,true,Enc.v l1),(9,true,Enc.v ((l1.length:Int):Int)),(10,true,Enc.v x9)]∧Nd [(b8,RV 50 [Enc.v ((0:Int):Int),Enc.v ((0:Int):Int),Enc.v ((0:Int):Int),Enc.v ((0:Int):Int),Enc.v (([]:(List Int)):(List Int))])]∧HSub [(b8,RV 50 [Enc.v ((0:Int):Int),Enc.v ((0:Int):Int),Enc.v ((0:Int):Int),Enc.v ((0:Int):Int),Enc.v (([]:(List Int)):(List Int))])] h) hO7 ⟨b4,rfl,(Nd.pick nd (is:=[0]) Dc),(HSub.pick nd (is:=[0]) Dc)⟩ ?_
 rintro x9 env h x7x ⟨b8,rfl,nd,hs⟩ hX hR7
 refine TK.subH hs ?_
 unfold X.group_Of_s7 at hX
 try dsimp only at hX
 refine SR fun K12 hK12=>P1 (p_lss rfl rfl) rfl rfl (TL.nil (hK12 _ _ ?_))
 refine TK.seq_k fun K13 hK13=>?_
 refine TK.cond (b:=(decide (x9<(l1.length:Int)))) rfl (fun hc=>?_) (fun hc=>?_)
 ·have hX:=ite_t hc hX
  refine TK.skip ?_
  refine hK13 _ _ ?_
  refine TK.seq_k fun K14 hK14=>?_
  refine TK.block ?_
  refine SR fun K15 hK15=>?_
  obtain ⟨e16,he16,hX⟩:=bind_some hX
  refine P1 (p_iaL (xs:=l1) kd71 ty50 rfl rfl rfl (fun _=>he16)) rfl rfl (P1 (p_ldE (xs:=l1) (a:=e16) (e16:Seal_api) ty50 rfl rfl (fun _=>he16) rfl rfl rfl) rfl rfl ?_)
  refine TLc.alO (l:=[Enc.v ((0:Int):Int),Enc.v ((0:Int):Int),Enc.v ((0:Int):Int),Enc.v ((0:Int):Int),.nils]) nd ty50 ti50_z rfl rfl fun b17 nd=>?_
  refine TLc.stV (lu:=Enc.cl (e16:Seal_api)) nd ty50 rfl (j:=0) rfl rfl rfl (Cells_v (e16:Seal_api)) rfl rfl [Enc.v e16.Number,Enc.v e16.Index,Enc.v e16.Data,Enc.v e16.Parity,Enc.v e16.Labels] rfl fun nd=>?_
  refine TL.nil (hK15 _ _ (SR fun K18 hK18=>P1 (p_faV fs50_4 Dc rfl nd (j:=0) rfl rfl) rfl rfl (P1 (p_ldV (v:=Enc.v e16.Labels) ty47 rfl rfl nd (j:=0) rfl rfl rfl rfl rfl) rfl rfl (M rfl rfl ?_))))
  obtain ⟨r19,hr19,hX⟩:=bind_some hX
  refine TL.cvX rfl rfl rfl (fun _=>⟨rfl,⟨rfl,⟨rfl,trivial⟩⟩⟩) (fun e=>ok_slices_Contains_Lint_int e16.Labels label2 _ hr19) ?_
  refine TL.nil (hK18 _ _ ?_)
  refine TK.cond (b:=r19) rfl (fun hc=>?_) (fun hc=>?_)
  ·have hX:=ite_t hc hX
   refine SR fun K20 hK20=>P1 (p_faV fs50_4 Dc rfl nd (j:=0) rfl rfl) rfl rfl (P1 (p_ldV (v:=Enc.v e16.Labels) ty47 rfl rfl nd (j:=0) rfl rfl rfl rfl rfl) rfl rfl ?_)
   obtain ⟨r21,hr21,hX⟩:=bind_some hX
   refine TL.cvX rfl rfl rfl (fun _=>⟨rfl,⟨rfl,trivial⟩⟩) (fun e=>ok_slices_Clone_Lint_int e16.Labels _ hr21) ?_
   refine P1 (p_faV fs50_4 Dc rfl nd (j:=0) rfl rfl) rfl rfl ?_
   refine TLc.stV (lu:=Enc.cl (r21:(List Int))) nd ty47 rfl (j:=0) rfl rfl rfl (Cells_v (r21:(List Int))) rfl rfl [Enc.v e16.Number,Enc.v e16.Index,Enc.v e16.Data,Enc.v e16.Parity,Enc.v r21] rfl fun nd=>?_
   refine TL.nil (hK20 _ _ (SR fun K22 hK22=>P1 (p_ldVa (l':=Enc.cl ((Seal_api.mk e16.Number e16.Index e16.Data e16.Parity r21):Seal_api)) ty50 rfl rfl nd (j:=0) rfl rfl rfl rfl (Nat.le_of_ble_eq_true rfl)) rfl rfl ?_))
   refine TLc.stV (lu:=Enc.cl ((Seal_api.mk e16.Number e16.Index e16.Data e16.Parity r21):Seal_api)) nd ty50 rfl (j:=1) rfl rfl rfl (Cells_v ((Seal_api.mk e16.Number e16.Index e16.Data e16.Parity r21):Seal_api)) rfl rfl [Enc.v ((Seal_api.mk e16.Number e16.Index e16.Data e16.Parity r21).Number:Int),Enc.v ((Seal_api.mk e16.Number e16.Index e16.Data e16.Parity r21).Index:Int),Enc.v ((Seal_api.mk e16.Number e16.Index e16.Data e16.Parity r21).Data:Int),Enc.v ((Seal_api.mk e16.Number e16.Index e16.Data e16.Parity r21).Parity:Int),Enc.v ((Seal_api.mk e16.Number e16.Index e16.Data e16.Parity r21).Labels:(List Int))] rfl fun nd=>?_
   refine M rfl rfl (TL.nil (hK22 _ _ ?_))
   refine TK.ret ?_
   obtain rfl:=hR7 _ (some_in hX).symm
   replace hX:=hA7
   try dsimp only[thenQ]
   exact retC [Enc.v ((Seal_api.mk e16.Number e16.Index e16.Data e16.Parity r21):Seal_api),Enc.v true] ⟨p_ldVa (l':=Enc.cl ((Seal_api.mk e16.Number e16.Index e16.Data e16.Parity r21):Seal_api)) ty50 rfl rfl nd (j:=1) rfl rfl rfl rfl (Nat.le_of_ble_eq_true rfl),p_mv rfl,trivial⟩ (by obtain rfl:=some_in hX;rfl) (tup_val (allVal.mem ⟨v_val _,v_val _,trivial⟩))
  ·have hX:=ite_f hc hX
   refine TK.skip ?_
   refine hK14 _ _ ?_
   refine TK.reg ?_
   refine P1 (p_add rfl rfl) rfl rfl (M rfl rfl (TL.nil ?_))
   exact ⟨_,(some_in hX).symm,b8,rfl,(Nd.pick nd (is:=[1]) Dc),(HSub.pick nd (is:=[1]) Dc)⟩
 ·have hX:=ite_f hc hX
  refine TK.exit ?_
  obtain rfl:=hR7 _ (some_in hX).symm
  exact E7 _ _ ⟨b8,rfl,(Nd.pick nd (is:=[0]) Dc),(HSub.pick nd (is:=[0]) Dc)⟩ hA7
theorem ok_cartridgelaw14_GroupNumbers (numbers1:(List Int)) (r:Bool) (hX:X.cartridgelaw14_GroupNumbers numbers1=some r):Fun Try.prog 11 [Enc.v (numbers1:(List Int))] (·=Enc.v (r:Bool)):=by
 refine Fun.of b11 (Nat.le_of_ble_eq_true rfl) (allVal.mem ⟨(by exact (v_val _)),trivial⟩) ?_
 unfold k11
 have nd:Nd []:=Nd_nil
 unfold X.cartridgelaw14_GroupNumbers at hX
 refine SR fun K2 hK2=>M rfl rfl (TL.nil (hK2 _ _ (SR fun K3 hK3=>?_)))
 obtain ⟨r4,hr4,hX⟩:=bind_some hX
 refine TL.cvX rfl rfl rfl (fun _=>⟨rfl,trivial⟩) (fun e=>ok_cartridgelaw14_alive _ hr4) ?_
 refine M rfl rfl (TL.nil (hK3 _ _ ?_))
 refine TK.seq_k fun K5 hK5=>?_
 refine SR fun K6 hK6=>M rfl rfl (P1 (p_not rfl) rfl rfl (M rfl rfl ?_))
 refine TLc.p (gc:=(!((!r4)))) (p_mv rfl (hg:=fun e=>rfl)) (gcF1 rfl) rfl ?_
 refine TLc.p (gc:=(!((!r4)))) (p_lenL (xs:=numbers1) kd47 rfl (hg:=fun e=>e)) (gcF1 rfl) rfl ?_
 refine TLc.p (gc:=(!((!r4)))) (p_gtr rfl rfl (hg:=fun e=>⟨e,rfl⟩)) (gcF1 rfl) rfl ?_
 refine P1 (p_or rfl rfl (fun e=>⟨rfl,fun h=>(not_t h)⟩)) rfl rfl (TL.nil (hK6 _ _ ?_))
 refine TK.cond (b:=((!r4)||(decide ((numbers1.length:Int)>(8:Int))))) rfl (fun hc=>?_) (fun hc=>?_)
 ·have hX:=ite_t hc hX
  refine SR fun K7 hK7=>M rfl rfl (M rfl rfl (TL.nil (hK7 _ _ ?_)))
  refine TK.ret ?_
  try dsimp only[thenQ]
  exact R1 rfl hX
 ·have hX:=ite_f hc hX
  refine TK.skip ?_
  refine hK5 _ _ (SR fun K8 hK8=>M rfl rfl (TL.nil (hK8 _ _ ?_)))
  refine TK.ownL (α:=Tape_api) 4 54 nd rfl (.inl rfl) fun b9 nd=>?_
  refine TK.seq_k fun K10 hK10=>?_
  refine SR fun K11 hK11=>M rfl rfl (TL.nil (hK11 _ _ ?_))
  refine TK.block ?_
  obtain ⟨o12,hO12,hA12⟩:=bind_some hX
  have E12:∀(l17:List Tape_api) (env:Env) (h:Hp),(∃b16,keepE [0,4] env=[(0,true,Enc.v numbers1),(4,true,OL b16 l17)]∧Nd [(b16,RL (α:=Tape_api) 54 l17)]∧HSub [(b16,RL (α:=Tape_api) 54 l17)] h)→X.cartridgelaw14_GroupNumbers_e12 numbers1 l17=some r→K10 env h:=by
   intro l17 env h hE hX
   obtain ⟨b16,henv,nd,hs⟩:=hE
   unfold X.cartridgelaw14_GroupNumbers_e12 at hX
   refine hK10 _ _ (TK.keep [0,4] ?_)
   rw[henv]
   refine TK.subH hs ?_
   refine SR fun K18 hK18=>M rfl rfl ?_
   refine TL.lay [(83,L l17)] nd (j:=0) rfl ⟨⟨_,rfl,fix_OL nd (j:=0) rfl,rfl⟩,trivial⟩ fun nd=>?_
   obtain ⟨r19,hr19,hX⟩:=bind_some hX
   refine TL.cvX rfl rfl rfl (fun _=>⟨rfl,⟨rfl,trivial⟩⟩) (fun e=>ok_group_Find l17 _ hr19) ?_
   refine M rfl rfl (TL.nil (hK18 _ _ ?_))
   refine TK.seq_k fun K20 hK20=>?_
   refine SR fun K21 hK21=>M rfl rfl (TL.nil (hK21 _ _ ?_))
   refine TK.block ?_
   obtain ⟨o22,hO22,hA22⟩:=bind_some hX
   have E22:∀(env:Env) (h:Hp),(∃_u:Unit,keepE [0,11] env=[(0,true,Enc.v numbers1),(11,true,Enc.v r19)]∧Nd []∧HSub [] h)→X.cartridgelaw14_GroupNumbers_e22 numbers1 r19=some r→K20 env h:=by
    intro env h hE hX
    obtain ⟨_u,henv,nd,hs⟩:=hE
    unfold X.cartridgelaw14_GroupNumbers_e22 at hX
    refine hK20 _ _ (TK.keep [0,11] ?_)
    rw[henv]
    refine TK.subH hs ?_
    refine TK.seq_k fun K24 hK24=>?_
    refine SR fun K25 hK25=>M rfl rfl (TL.nil (hK25 _ _ ?_))
    refine TK.block ?_
    obtain ⟨o26,hO26,hA26⟩:=bind_some hX
    have E26:∀(env:Env) (h:Hp),(∃_u:Unit,keepE [] env=[]∧Nd []∧HSub [] h)→X.cartridgelaw14_GroupNumbers_e26=some r→K24 env h:=by
     intro env h hE hX
     obtain ⟨_u,henv,nd,hs⟩:=hE
     unfold X.cartridgelaw14_GroupNumbers_e26 at hX
     refine hK24 _ _ (TK.keep [] ?_)
     rw[henv]
     refine TK.subH hs ?_
     refine SR fun K28 hK28=>M rfl rfl (TL.nil (hK28 _ _ ?_))
     refine TK.ret ?_
     try dsimp only[thenQ]
     exact R1 rfl hX
    refine TK.iter [0,11,13] (fun s env h=>match s with|i27=>∃_u:Unit,env=[(0,true,Enc.v numbers1),(11,true,Enc.v r19),(13,true,Enc.v i27)]∧Nd []∧HSub [] h) hO26 ⟨(),rfl,Nd_nil,HSub.refl _⟩ ?_
    rintro i27 env h x26x ⟨_u,rfl,nd,hs⟩ hX hR26
    refine TK.subH hs ?_
    unfold X.cartridgelaw14_GroupNumbers_s26 at hX
    try dsimp only at hX
    refine TK.seq_k fun K29 hK29=>?_
    refine SR fun K30 hK30=>M rfl rfl (M rfl rfl (P1 (p_lenL (xs:=numbers1) kd47 rfl) rfl rfl (P1 (p_lss rfl rfl) rfl rfl (TL.nil (hK30 _ _ ?_)))))
    refine TK.cond (b:=(decide (i27<(numbers1.length:Int)))) rfl (fun hc=>?_) (fun hc=>?_)
    ·have hX:=ite_t hc hX
     refine TK.skip ?_
     refine hK29 _ _ ?_
     refine TK.seq_k fun K31 hK31=>?_
     refine TK.block ?_
     refine SR fun K32 hK32=>M rfl rfl (TL.nil (hK32 _ _ ?_))
     refine TK.seq_k fun K33 hK33=>?_
     refine SR fun K34 hK34=>M rfl rfl (TL.nil (hK34 _ _ ?_))
     refine TK.block ?_
     obtain ⟨o35,hO35,hA35⟩:=bind_some hX
     have E35:∀(first38:Bool) (env:Env) (h:Hp),(∃_u:Unit,keepE [0,11,13,14] env=[(0,true,Enc.v numbers1),(11,true,Enc.v r19),(13,true,Enc.v i27),(14,true,Enc.v first38)]∧Nd []∧HSub [] h)→X.cartridgelaw14_GroupNumbers_e35 r19 i27 numbers1 first38=some x26x→K33 env h:=by
      intro first38 env h hE hX
      obtain ⟨_u,henv,nd,hs⟩:=hE
      unfold X.cartridgelaw14_GroupNumbers_e35 at hX
      refine hK33 _ _ (TK.keep [0,11,13,14] ?_)
      rw[henv]
      refine TK.subH hs ?_
      refine SR fun K39 hK39=>M rfl rfl (M rfl rfl (P1 (p_mul rfl rfl) rfl rfl (P1 (p_add rfl rfl) rfl rfl ?_)))
      obtain ⟨r40,hr40,hX⟩:=bind_some hX
      refine TL.cvX rfl rfl rfl (fun _=>⟨rfl,⟨rfl,⟨rfl,trivial⟩⟩⟩) (fun e=>ok_group_Of r19 (wr ((wr ((2:Int)*i27))+(1:Int))) _ hr40) ?_
      refine M rfl rfl (P1 (p_ex rfl rfl Dc) rfl rfl (P1 (p_ex rfl rfl Dc) rfl rfl ?_))
      refine TLc.alO (l:=[Enc.v ((0:Int):Int),Enc.v ((0:Int):Int),Enc.v ((0:Int):Int),Enc.v ((0:Int):Int),.nils]) nd ty50 ti50_z rfl rfl fun b41 nd=>?_
      refine TLc.stV (lu:=Enc.cl (r40.1:Seal_api)) nd ty50 rfl (j:=0) rfl rfl rfl (Cells_v (r40.1:Seal_api)) rfl rfl [Enc.v r40.1.Number,Enc.v r40.1.Index,Enc.v r40.1.Data,Enc.v r40.1.Parity,Enc.v r40.1.Labels] rfl fun nd=>?_
      refine M rfl rfl (TL.nil (hK39 _ _ (SR fun K42 hK42=>M rfl rfl (M rfl rfl (P1 (p_mul rfl rfl) rfl rfl (P1 (p_add rfl rfl) rfl rfl ?_))))))
      obtain ⟨r43,hr43,hX⟩:=bind_some hX
      refine TL.cvX rfl rfl rfl (fun _=>⟨rfl,⟨rfl,⟨rfl,trivial⟩⟩⟩) (fun e=>ok_group_Of r19 (wr ((wr ((2:Int)*i27))+(2:Int))) _ hr43) ?_
      refine M rfl rfl (P1 (p_ex rfl rfl Dc) rfl rfl (P1 (p_ex rfl rfl Dc) rfl rfl ?_))
      refine TLc.alO (l:=[Enc.v ((0:Int):Int),Enc.v ((0:Int):Int),Enc.v ((0:Int):Int),Enc.v ((0:Int):Int),.nils]) nd ty50 ti50_z rfl rfl fun b44 nd=>?_
      refine TLc.stV (lu:=Enc.cl (r43.1:Seal_api)) nd ty50 rfl (j:=0) rfl rfl rfl (Cells_v (r43.1:Seal_api)) rfl rfl [Enc.v r43.1.Number,Enc.v r43.1.Index,Enc.v r43.1.Data,Enc.v r43.1.Parity,Enc.v r43.1.Labels] rfl fun nd=>?_
      refine M rfl rfl (TL.nil (hK42 _ _ ?_))
      refine TK.seq_k fun K45 hK45=>?_
      have ndS:Nd [(b44,RV 50 [Enc.v r43.1.Number,Enc.v r43.1.Index,Enc.v r43.1.Data,Enc.v r43.1.Parity,Enc.v r43.1.Labels]),(b41,RV 50 [Enc.v r40.1.Number,Enc.v r40.1.Index,Enc.v r40.1.Data,Enc.v r40.1.Parity,Enc.v r40.1.Labels])]:=Nd.pick nd (is:=[0,1]) Dc
      refine TK.drwX (h:=[]) (hS:=[(b44,RV 50 [Enc.v r43.1.Number,Enc.v r43.1.Index,Enc.v r43.1.Data,Enc.v r43.1.Parity,Enc.v r43.1.Labels]),(b41,RV 50 [Enc.v r40.1.Number,Enc.v r40.1.Index,Enc.v r40.1.Data,Enc.v r40.1.Parity,Enc.v r40.1.Labels])]) [(0,0),(0,1),(0,2),(0,3),(0,4),(0,5),(0,6),(0,7),(0,8),(0,9),(0,10),(0,11),(0,12),(0,13),(0,14),(0,15),(0,16),(0,17),(0,18),(0,19),(0,20),(0,21),(0,22),(0,23),(0,24),(0,25),(0,26),(0,27),(0,28)] mixed (by kernel_rfl) (HSub_app nd) ?_
      refine DM rfl rfl rfl ?_
      refine DM rfl rfl rfl ?_
      refine D0 rfl (p_neB kd4 rfl rfl) rfl rfl ?_
      refine DM rfl rfl rfl ?_
      refine DR0 (gc:=(!((r40.2 !=first38)))) rfl (vok_p (C:=cx) (p_mv rfl (hg:=fun e=>rfl))) (gcF1 rfl) rfl ?_
      refine DR0 (gc:=(!((r40.2 !=first38)))) rfl (vok_p (C:=cx) (p_mv rfl (hg:=fun e=>rfl))) (gcF1 rfl) rfl ?_
      refine DR0 (gc:=(!((r40.2 !=first38)))) rfl (vok_p (C:=cx) (p_neB kd4 rfl rfl (hg:=fun e=>⟨e,e⟩))) (gcF1 rfl) rfl ?_
      refine D0 rfl (p_or rfl rfl (fun e=>⟨rfl,fun h=>(not_t h)⟩)) rfl rfl ?_
      refine DM rfl rfl rfl ?_
      refine DR0 (gc:=(!(((r40.2 !=first38)||(r43.2 !=first38))))) rfl (vok_p (C:=cx) (p_mv rfl (hg:=fun e=>rfl))) (gcF1 rfl) rfl ?_
      refine DR0 (gc:=(!(((r40.2 !=first38)||(r43.2 !=first38))))) rfl (vok_p (C:=cx) (p_mv rfl (hg:=fun e=>e))) (gcF1 rfl) rfl ?_
      refine DR0 (gc:=((!(((r40.2 !=first38)||(r43.2 !=first38))))&&(r40.2))) rfl (vok_p (C:=cx) (p_faV fs50_0 Dc rfl ndS (j:=1) rfl rfl (hg:=fun e=>rfl))) (gcT rfl) rfl ?_
      refine DR0 (gc:=((!(((r40.2 !=first38)||(r43.2 !=first38))))&&(r40.2))) rfl (vok_p (C:=cx) (p_ldV (v:=Enc.v r40.1.Number) ty3 rfl rfl ndS (j:=1) rfl rfl rfl rfl rfl (hg:=fun e=>e))) (gcT rfl) rfl ?_
      refine DR0 (gc:=((!(((r40.2 !=first38)||(r43.2 !=first38))))&&(r40.2))) rfl (vok_p (C:=cx) (p_mv rfl (hg:=fun e=>rfl))) (gcT rfl) rfl ?_
      refine DR0 (gc:=((!(((r40.2 !=first38)||(r43.2 !=first38))))&&(r40.2))) rfl (vok_p (C:=cx) (p_mv rfl (hg:=fun e=>rfl))) (gcT rfl) rfl ?_
      obtain ⟨e46,he46,hX⟩:=bind_some hX
      refine DR0 (gc:=((!(((r40.2 !=first38)||(r43.2 !=first38))))&&(r40.2))) rfl (vok_p (C:=cx) (p_iaL (xs:=numbers1) kd47 ty3 rfl rfl rfl (fun e=>optG_t he46 e) (hg:=fun e=>⟨e,e⟩))) (gcT rfl) rfl ?_
      refine DR0 (gc:=((!(((r40.2 !=first38)||(r43.2 !=first38))))&&(r40.2))) rfl (vok_p (C:=cx) (p_ldE (xs:=numbers1) (a:=e46) (e46:Int) ty3 rfl rfl (fun e=>optG_t he46 e) rfl rfl rfl (hg:=fun e=>e))) (gcT rfl) rfl ?_
      refine DR0 (gc:=((!(((r40.2 !=first38)||(r43.2 !=first38))))&&(r40.2))) rfl (vok_p (C:=cx) (p_and64 rfl rfl (hg:=fun e=>⟨e,rfl⟩))) (gcT rfl) rfl ?_
      refine DR0 (gc:=((!(((r40.2 !=first38)||(r43.2 !=first38))))&&(r40.2))) rfl (vok_p (C:=cx) (p_add rfl rfl (hg:=fun e=>⟨rfl,e⟩))) (gcT rfl) rfl ?_
      refine DR0 (gc:=((!(((r40.2 !=first38)||(r43.2 !=first38))))&&(r40.2))) rfl (vok_p (C:=cx) (p_neq rfl rfl (hg:=fun e=>⟨e,e⟩))) (gcT rfl) rfl ?_
      refine DR0 (gc:=((!(((r40.2 !=first38)||(r43.2 !=first38))))&&(r40.2))) rfl (vok_p (C:=cx) (p_mv rfl (hg:=fun e=>e))) (gcT rfl) rfl ?_
      refine DR0 (gc:=(((!(((r40.2 !=first38)||(r43.2 !=first38))))&&(r40.2))&&(!((r40.1.Number !=(wr ((1:Int)+(and64 e46 (7:Int))))))))) rfl (vok_p (C:=cx) (p_faV fs50_0 Dc rfl ndS (j:=0) rfl rfl (hg:=fun e=>rfl))) (gcF rfl) rfl ?_
      refine DR0 (gc:=(((!(((r40.2 !=first38)||(r43.2 !=first38))))&&(r40.2))&&(!((r40.1.Number !=(wr ((1:Int)+(and64 e46 (7:Int))))))))) rfl (vok_p (C:=cx) (p_ldV (v:=Enc.v r43.1.Number) ty3 rfl rfl ndS (j:=0) rfl rfl rfl rfl rfl (hg:=fun e=>e))) (gcF rfl) rfl ?_
      refine DR0 (gc:=(((!(((r40.2 !=first38)||(r43.2 !=first38))))&&(r40.2))&&(!((r40.1.Number !=(wr ((1:Int)+(and64 e46 (7:Int))))))))) rfl (vok_p (C:=cx) (p_faV fs50_0 Dc rfl ndS (j:=1) rfl rfl (hg:=fun e=>rfl))) (gcF rfl) rfl ?_
      refine DR0 (gc:=(((!(((r40.2 !=first38)||(r43.2 !=first38))))&&(r40.2))&&(!((r40.1.Number !=(wr ((1:Int)+(and64 e46 (7:Int))))))))) rfl (vok_p (C:=cx) (p_ldV (v:=Enc.v r40.1.Number) ty3 rfl rfl ndS (j:=1) rfl rfl rfl rfl rfl (hg:=fun e=>e))) (gcF rfl) rfl ?_
      refine DR0 (gc:=(((!(((r40.2 !=first38)||(r43.2 !=first38))))&&(r40.2))&&(!((r40.1.Number !=(wr ((1:Int)+(and64 e46 (7:Int))))))))) rfl (vok_p (C:=cx) (p_neq rfl rfl (hg:=fun e=>⟨e,e⟩))) (gcF rfl) rfl ?_
      refine DR0 (gc:=((!(((r40.2 !=first38)||(r43.2 !=first38))))&&(r40.2))) rfl (vok_p (C:=cx) (p_or rfl rfl (fun e=>⟨e,fun h=>(and_i e (not_t h))⟩))) (gcT rfl) rfl ?_
      refine DR0 (gc:=(!(((r40.2 !=first38)||(r43.2 !=first38))))) rfl (vok_p (C:=cx) (p_and rfl rfl (fun e=>⟨e,fun h=>(and_i e h)⟩))) (gcF1 rfl) rfl ?_
      refine D0 rfl (p_or rfl rfl (fun e=>⟨rfl,fun h=>(not_t h)⟩)) rfl rfl ?_
      refine DRend ?_
      refine hK45 _ _ ?_
      refine TK.cond (b:=(((r40.2 !=first38)||(r43.2 !=first38))||(r40.2&&((r40.1.Number !=(wr ((1:Int)+(and64 e46 (7:Int)))))||(r43.1.Number !=r40.1.Number))))) rfl (fun hc=>?_) (fun hc=>?_)
      ·have hX:=ite_t hc hX
       refine SR fun K47 hK47=>M rfl rfl (TL.nil (hK47 _ _ ?_))
       refine TK.ret ?_
       obtain rfl:=hR26 _ (some_in hX).symm
       replace hX:=hA26
       try dsimp only[thenQ]
       exact R1 rfl hX
      ·have hX:=ite_f hc hX
       refine TK.skip ?_
       refine hK31 _ _ ?_
       refine TK.reg ?_
       refine M rfl rfl (P1 (p_add rfl rfl) rfl rfl (M rfl rfl (TL.nil ?_)))
       exact ⟨_,(some_in hX).symm,(),rfl,(Nd.pick nd (is:=[]) Dc),(HSub.pick nd (is:=[]) Dc)⟩
     refine TK.iter [0,11,13,14,15] (fun s env h=>match s with|(first36,k37)=>∃_u:Unit,env=[(0,true,Enc.v numbers1),(11,true,Enc.v r19),(13,true,Enc.v i27),(14,true,Enc.v first36),(15,true,Enc.v k37)]∧Nd []∧HSub [] h) hO35 ⟨(),rfl,Nd_nil,HSub.refl _⟩ ?_
     rintro ⟨first36,k37⟩ env h x35x ⟨_u,rfl,nd,hs⟩ hX hR35
     refine TK.subH hs ?_
     unfold X.cartridgelaw14_GroupNumbers_s35 at hX
     try dsimp only at hX
     refine TK.seq_k fun K48 hK48=>?_
     refine SR fun K49 hK49=>M rfl rfl (M rfl rfl (P1 (p_lss rfl rfl) rfl rfl (TL.nil (hK49 _ _ ?_))))
     refine TK.cond (b:=(decide (k37<i27))) rfl (fun hc=>?_) (fun hc=>?_)
     ·have hX:=ite_t hc hX
      refine TK.skip ?_
      refine hK48 _ _ ?_
      refine TK.seq_k fun K50 hK50=>?_
      refine TK.block ?_
      have ndS:Nd []:=Nd.pick nd (is:=[]) Dc
      refine TK.drwX (h:=[]) (hS:=[]) [(0,0),(0,1),(0,2),(0,3),(0,4),(0,5),(0,6),(0,7),(0,8),(0,9),(0,10),(0,11),(0,12),(0,13),(0,14)] mixed (by kernel_rfl) (HSub_app nd) ?_
      refine DM rfl rfl rfl ?_
      refine DM rfl rfl rfl ?_
      refine DR0 (gc:=first36) rfl (vok_p (C:=cx) (p_mv rfl (hg:=fun e=>rfl))) (gcT1 rfl) rfl ?_
      refine DR0 (gc:=first36) rfl (vok_p (C:=cx) (p_mv rfl (hg:=fun e=>rfl))) (gcT1 rfl) rfl ?_
      obtain ⟨e51,he51,hX⟩:=bind_some hX
      refine DR0 (gc:=first36) rfl (vok_p (C:=cx) (p_iaL (xs:=numbers1) kd47 ty3 rfl rfl rfl (fun e=>optG_t he51 e) (hg:=fun e=>⟨e,e⟩))) (gcT1 rfl) rfl ?_
      refine DR0 (gc:=first36) rfl (vok_p (C:=cx) (p_ldE (xs:=numbers1) (a:=e51) (e51:Int) ty3 rfl rfl (fun e=>optG_t he51 e) rfl rfl rfl (hg:=fun e=>e))) (gcT1 rfl) rfl ?_
      refine DR0 (gc:=first36) rfl (vok_p (C:=cx) (p_and64 rfl rfl (hg:=fun e=>⟨e,rfl⟩))) (gcT1 rfl) rfl ?_
      refine DR0 (gc:=first36) rfl (vok_p (C:=cx) (p_mv rfl (hg:=fun e=>rfl))) (gcT1 rfl) rfl ?_
      refine DR0 (gc:=first36) rfl (vok_p (C:=cx) (p_mv rfl (hg:=fun e=>rfl))) (gcT1 rfl) rfl ?_
      obtain ⟨e52,he52,hX⟩:=bind_some hX
      refine DR0 (gc:=first36) rfl (vok_p (C:=cx) (p_iaL (xs:=numbers1) kd47 ty3 rfl rfl rfl (fun e=>optG_t he52 e) (hg:=fun e=>⟨e,e⟩))) (gcT1 rfl) rfl ?_
      refine DR0 (gc:=first36) rfl (vok_p (C:=cx) (p_ldE (xs:=numbers1) (a:=e52) (e52:Int) ty3 rfl rfl (fun e=>optG_t he52 e) rfl rfl rfl (hg:=fun e=>e))) (gcT1 rfl) rfl ?_
      refine DR0 (gc:=first36) rfl (vok_p (C:=cx) (p_and64 rfl rfl (hg:=fun e=>⟨e,rfl⟩))) (gcT1 rfl) rfl ?_
      refine DR0 (gc:=first36) rfl (vok_p (C:=cx) (p_neq rfl rfl (hg:=fun e=>⟨e,e⟩))) (gcT1 rfl) rfl ?_
      refine D0 rfl (p_and rfl rfl (fun e=>⟨rfl,fun h=>h⟩)) rfl rfl ?_
      refine DM rfl rfl rfl ?_
      refine DRend ?_
      refine hK50 _ _ ?_
      refine TK.reg ?_
      refine M rfl rfl (P1 (p_add rfl rfl) rfl rfl (M rfl rfl (TL.nil ?_)))
      exact ⟨_,(some_in hX).symm,(),rfl,Nd_nil,HSub.refl _⟩
     ·have hX:=ite_f hc hX
      refine TK.exit ?_
      obtain rfl:=hR35 _ (some_in hX).symm
      exact E35 first36 _ _ ⟨(),rfl,Nd_nil,HSub.refl _⟩ hA35
    ·have hX:=ite_f hc hX
     refine TK.exit ?_
     obtain rfl:=hR26 _ (some_in hX).symm
     exact E26 _ _ ⟨(),rfl,Nd_nil,HSub.refl _⟩ hA26
   refine TK.iter [0,11,12] (fun s env h=>match s with|i23=>∃_u:Unit,env=[(0,true,Enc.v numbers1),(11,true,Enc.v r19),(12,true,Enc.v i23)]∧Nd []∧HSub [] h) hO22 ⟨(),rfl,Nd_nil,HSub.refl _⟩ ?_
   rintro i23 env h x22x ⟨_u,rfl,nd,hs⟩ hX hR22
   refine TK.subH hs ?_
   unfold X.cartridgelaw14_GroupNumbers_s22 at hX
   try dsimp only at hX
   refine TK.seq_k fun K53 hK53=>?_
   refine SR fun K54 hK54=>M rfl rfl (M rfl rfl (P1 (p_lenL (xs:=r19) kd71 rfl) rfl rfl (P1 (p_lss rfl rfl) rfl rfl (TL.nil (hK54 _ _ ?_)))))
   refine TK.cond (b:=(decide (i23<(r19.length:Int)))) rfl (fun hc=>?_) (fun hc=>?_)
   ·have hX:=ite_t hc hX
    refine TK.skip ?_
    refine hK53 _ _ ?_
    refine TK.seq_k fun K55 hK55=>?_
    refine TK.block ?_
    refine TK.seq_k fun K56 hK56=>?_
    have ndS:Nd []:=Nd.pick nd (is:=[]) Dc
    refine TK.drwX (h:=[]) (hS:=[]) [(0,0),(0,1),(0,2),(0,3),(0,4),(0,5),(0,6),(0,7),(0,8),(0,9),(0,10),(0,11)] mixed (by kernel_rfl) (HSub_app nd) ?_
    refine DM rfl rfl rfl ?_
    refine DM rfl rfl rfl ?_
    obtain ⟨e57,he57,hX⟩:=bind_some hX
    refine D0 rfl (p_iaL (xs:=r19) kd71 ty50 rfl rfl rfl (fun _=>he57)) rfl rfl ?_
    refine D0 rfl (p_faE fs50_0 Dc rfl) rfl rfl ?_
    refine D0 rfl (p_ldE (xs:=r19) (a:=e57) (e57.Number:Int) ty3 rfl rfl (fun _=>he57) rfl rfl rfl) rfl rfl ?_
    refine DM rfl rfl rfl ?_
    refine DM rfl rfl rfl ?_
    refine D0 rfl (p_sub rfl rfl) rfl rfl ?_
    obtain ⟨e58,he58,hX⟩:=bind_some hX
    refine D0 rfl (p_iaL (xs:=r19) kd71 ty50 rfl rfl rfl (fun _=>he58)) rfl rfl ?_
    refine D0 rfl (p_faE fs50_0 Dc rfl) rfl rfl ?_
    refine D0 rfl (p_ldE (xs:=r19) (a:=e58) (e58.Number:Int) ty3 rfl rfl (fun _=>he58) rfl rfl rfl) rfl rfl ?_
    refine D0 rfl (p_leq rfl rfl) rfl rfl ?_
    refine DRend ?_
    refine hK56 _ _ ?_
    refine TK.cond (b:=(decide (e57.Number≤e58.Number))) rfl (fun hc=>?_) (fun hc=>?_)
    ·have hX:=ite_t hc hX
     refine SR fun K59 hK59=>M rfl rfl (TL.nil (hK59 _ _ ?_))
     refine TK.ret ?_
     obtain rfl:=hR22 _ (some_in hX).symm
     replace hX:=hA22
     try dsimp only[thenQ]
     exact R1 rfl hX
    ·have hX:=ite_f hc hX
     refine TK.skip ?_
     refine hK55 _ _ ?_
     refine TK.reg ?_
     refine M rfl rfl (P1 (p_add rfl rfl) rfl rfl (M rfl rfl (TL.nil ?_)))
     exact ⟨_,(some_in hX).symm,(),rfl,Nd_nil,HSub.refl _⟩
   ·have hX:=ite_f hc hX
    refine TK.exit ?_
    obtain rfl:=hR22 _ (some_in hX).symm
    exact E22 _ _ ⟨(),rfl,Nd_nil,HSub.refl _⟩ hA22
  refine TK.iter [0,4,5] (fun s env h=>match s with|(l14,i15)=>∃b13,env=[(0,true,Enc.v numbers1),(4,true,OL b13 l14),(5,true,Enc.v i15)]∧Nd [(b13,RL (α:=Tape_api) 54 l14)]∧HSub [(b13,RL (α:=Tape_api) 54 l14)] h) hO12 ⟨b9,rfl,(Nd.pick nd (is:=[0]) Dc),(HSub.pick nd (is:=[0]) Dc)⟩ ?_
  rintro ⟨l14,i15⟩ env h x12x ⟨b13,rfl,nd,hs⟩ hX hR12
  refine TK.subH hs ?_
  unfold X.cartridgelaw14_GroupNumbers_s12 at hX
  try dsimp only at hX
  refine TK.seq_k fun K60 hK60=>?_
  refine SR fun K61 hK61=>M rfl rfl (M rfl rfl (P1 (p_lenL (xs:=numbers1) kd47 rfl) rfl rfl (P1 (p_lss rfl rfl) rfl rfl (TL.nil (hK61 _ _ ?_)))))
  refine TK.cond (b:=(decide (i15<(numbers1.length:Int)))) rfl (fun hc=>?_) (fun hc=>?_)
  ·have hX:=ite_t hc hX
   refine TK.skip ?_
   refine hK60 _ _ ?_
   refine TK.seq_k fun K62 hK62=>?_
   refine TK.block ?_
   refine SR fun K63 hK63=>M rfl rfl (P1 (p_mul rfl rfl) rfl rfl (P1 (p_add rfl rfl) rfl rfl ?_))
   refine TLc.litO nd ([(68:UInt8)]:List UInt8) kd25 ty5 rfl ⟨⟨rfl,rfl⟩,trivial⟩ rfl rfl rfl fun b64 nd=>?_
   refine TLc.cvtF (xs:=([(68:UInt8)]:List UInt8)) nd kd25 kd5 rfl (j:=0) rfl (by simp) rfl fun nd=>?_
   refine P1 (p_bld (l:=Enc.cl ((Unit_api.mk (1:Int) (wr ((wr ((2:Int)*i15))+(1:Int))) (0:Int) ([(68:UInt8)]:List UInt8)):Unit_api)) ty68 rfl all68 rfl (fun _=>⟨⟨rfl,trivial,rfl⟩,⟨rfl,trivial,rfl⟩,⟨rfl,trivial,rfl⟩,trivial⟩)) rfl rfl ?_
   obtain ⟨r65,hr65,hX⟩:=bind_some hX
   refine TL.cvX rfl rfl rfl (fun _=>⟨rfl,⟨rfl,trivial⟩⟩) (fun e=>ok_cartridgeref1_PutFrame (Unit_api.mk (1:Int) (wr ((wr ((2:Int)*i15))+(1:Int))) (0:Int) ([(68:UInt8)]:List UInt8)) _ hr65) ?_
   refine M rfl rfl (P1 (p_ex rfl rfl Dc) rfl rfl (P1 (p_ex rfl rfl Dc) rfl rfl (M rfl rfl (M rfl rfl (TL.nil (hK63 _ _ (SR fun K66 hK66=>M rfl rfl (P1 (p_mul rfl rfl) rfl rfl (P1 (p_add rfl rfl) rfl rfl (M rfl rfl ?_))))))))))
   refine TLc.lit ([r65.1]:List (List UInt8)) kd22 ty25 rfl ⟨⟨rfl,rfl⟩,trivial⟩ rfl rfl rfl ?_
   refine P1 (p_bld (l:=Enc.cl ((Tape_api.mk (wr ((wr ((2:Int)*i15))+(1:Int))) (5:Int) ([r65.1]:List (List UInt8)) false):Tape_api)) ty54 rfl all54 rfl (fun _=>⟨⟨rfl,trivial,rfl⟩,⟨rfl,trivial,rfl⟩,⟨rfl,trivial,rfl⟩,trivial⟩)) rfl rfl ?_
   refine TLc.alO (l:=[Enc.v ((0:Int):Int),Enc.v ((0:Int):Int),.nils,Enc.v false]) nd ty54 ti54_z rfl rfl fun b67 nd=>?_
   refine TLc.stV (lu:=Enc.cl ((Tape_api.mk (wr ((wr ((2:Int)*i15))+(1:Int))) (5:Int) ([r65.1]:List (List UInt8)) false):Tape_api)) nd ty54 rfl (j:=0) rfl rfl rfl (Cells_v ((Tape_api.mk (wr ((wr ((2:Int)*i15))+(1:Int))) (5:Int) ([r65.1]:List (List UInt8)) false):Tape_api)) rfl rfl [Enc.v ((Tape_api.mk (wr ((wr ((2:Int)*i15))+(1:Int))) (5:Int) ([r65.1]:List (List UInt8)) false).Label:Int),Enc.v ((Tape_api.mk (wr ((wr ((2:Int)*i15))+(1:Int))) (5:Int) ([r65.1]:List (List UInt8)) false).Cap:Int),Enc.v ((Tape_api.mk (wr ((wr ((2:Int)*i15))+(1:Int))) (5:Int) ([r65.1]:List (List UInt8)) false).Blocks:(List (List UInt8))),Enc.v ((Tape_api.mk (wr ((wr ((2:Int)*i15))+(1:Int))) (5:Int) ([r65.1]:List (List UInt8)) false).Lost:Bool)] rfl fun nd=>?_
   refine TL.nil (hK66 _ _ ?_)
   refine TK.seq_k fun K68 hK68=>?_
   have ndS:Nd [(b67,RV 54 [Enc.v ((Tape_api.mk (wr ((wr ((2:Int)*i15))+(1:Int))) (5:Int) ([r65.1]:List (List UInt8)) false).Label:Int),Enc.v ((Tape_api.mk (wr ((wr ((2:Int)*i15))+(1:Int))) (5:Int) ([r65.1]:List (List UInt8)) false).Cap:Int),Enc.v ((Tape_api.mk (wr ((wr ((2:Int)*i15))+(1:Int))) (5:Int) ([r65.1]:List (List UInt8)) false).Blocks:(List (List UInt8))),Enc.v ((Tape_api.mk (wr ((wr ((2:Int)*i15))+(1:Int))) (5:Int) ([r65.1]:List (List UInt8)) false).Lost:Bool)]),(b13,RL (α:=Tape_api) 54 l14)]:=Nd.pick nd (is:=[0,1]) Dc
   refine TK.drwX (h:=[]) (hS:=[(b67,RV 54 [Enc.v ((Tape_api.mk (wr ((wr ((2:Int)*i15))+(1:Int))) (5:Int) ([r65.1]:List (List UInt8)) false).Label:Int),Enc.v ((Tape_api.mk (wr ((wr ((2:Int)*i15))+(1:Int))) (5:Int) ([r65.1]:List (List UInt8)) false).Cap:Int),Enc.v ((Tape_api.mk (wr ((wr ((2:Int)*i15))+(1:Int))) (5:Int) ([r65.1]:List (List UInt8)) false).Blocks:(List (List UInt8))),Enc.v ((Tape_api.mk (wr ((wr ((2:Int)*i15))+(1:Int))) (5:Int) ([r65.1]:List (List UInt8)) false).Lost:Bool)]),(b13,RL (α:=Tape_api) 54 l14)]) [(0,0),(0,1),(0,2),(0,3),(0,4),(0,5),(0,6),(0,7),(0,8),(0,9),(0,10),(0,11),(0,12),(0,13),(0,14),(0,15),(0,16),(0,17),(0,18)] mixed (by kernel_rfl) (HSub_app nd) ?_
   refine D0 rfl (p_ldVa (l':=Enc.cl ((Tape_api.mk (wr ((wr ((2:Int)*i15))+(1:Int))) (5:Int) ([r65.1]:List (List UInt8)) false):Tape_api)) ty54 rfl rfl ndS (j:=0) rfl rfl rfl rfl (Nat.le_of_ble_eq_true rfl)) rfl rfl ?_
   refine DR0 (gc:=true) rfl (vok_lit (C:=cx) ([(Tape_api.mk (wr ((wr ((2:Int)*i15))+(1:Int))) (5:Int) ([r65.1]:List (List UInt8)) false)]:List Tape_api) kd48 ty54 rfl ⟨⟨rfl,rfl⟩,trivial⟩ rfl rfl) rfl rfl ?_
   refine DM rfl rfl rfl ?_
   refine D0 rfl (p_mul rfl rfl) rfl rfl ?_
   refine D0 rfl (p_add rfl rfl) rfl rfl ?_
   refine DR0 (gc:=true) rfl (vok_wk (v':=Enc.v ((Tape_api.mk (wr ((wr ((2:Int)*i15))+(2:Int))) (5:Int) ([]:(List (List UInt8))) false):Tape_api)) (vok_p (p_bld (l:=[Enc.v ((wr ((wr ((2:Int)*i15))+(2:Int))):Int),Enc.v ((5:Int):Int),.nils,Enc.v false]) ty54 rfl all54 rfl (fun _=>by exact ⟨⟨rfl,trivial,rfl⟩,⟨rfl,trivial,rfl⟩,trivial⟩))) (Wk_agg ⟨Wk.refl _,Wk.refl _,Wk_nil,Wk.refl _,trivial⟩)) rfl rfl ?_
   refine DR0 (gc:=true) rfl (vok_lit (C:=cx) ([(Tape_api.mk (wr ((wr ((2:Int)*i15))+(2:Int))) (5:Int) ([]:(List (List UInt8))) false)]:List Tape_api) kd48 ty54 rfl ⟨⟨rfl,rfl⟩,trivial⟩ rfl rfl) rfl rfl ?_
   refine DM rfl rfl rfl ?_
   refine DM rfl rfl rfl ?_
   obtain ⟨e69,he69,hX⟩:=bind_some hX
   refine D0 rfl (p_iaL (xs:=numbers1) kd47 ty3 rfl rfl rfl (fun _=>he69)) rfl rfl ?_
   refine D0 rfl (p_ldE (xs:=numbers1) (a:=e69) (e69:Int) ty3 rfl rfl (fun _=>he69) rfl rfl rfl) rfl rfl ?_
   refine D0 rfl (p_and64 rfl rfl) rfl rfl ?_
   refine D0 rfl (p_add rfl rfl) rfl rfl ?_
   obtain ⟨r70,hr70,hX⟩:=bind_some hX
   refine DR0 (gc:=true) rfl (vok_c rfl (fun _=>⟨rfl,⟨rfl,⟨rfl,⟨rfl,trivial⟩⟩⟩⟩) (fun e=>ok_group_Make ([(Tape_api.mk (wr ((wr ((2:Int)*i15))+(1:Int))) (5:Int) ([r65.1]:List (List UInt8)) false)]:List Tape_api) ([(Tape_api.mk (wr ((wr ((2:Int)*i15))+(2:Int))) (5:Int) ([]:(List (List UInt8))) false)]:List Tape_api) (wr ((1:Int)+(and64 e69 (7:Int)))) _ hr70)) rfl rfl ?_
   refine DM rfl rfl rfl ?_
   refine D0 rfl (p_ex rfl rfl Dc) rfl rfl ?_
   refine D0 rfl (p_ex rfl rfl Dc) rfl rfl ?_
   refine DM rfl rfl rfl ?_
   refine DM rfl rfl rfl ?_
   refine DRend ?_
   refine hK68 _ _ ?_
   refine TK.seq_k fun K71 hK71=>?_
   refine SR fun K72 hK72=>M rfl rfl ?_
   obtain ⟨r73,hr73,hX⟩:=bind_some hX
   refine TL.cvX rfl rfl rfl (fun _=>⟨rfl,⟨rfl,trivial⟩⟩) (fun e=>ok_cartridgelaw14_num r70.2 _ hr73) ?_
   refine P1 (p_neq rfl rfl) rfl rfl (M rfl rfl ?_)
   refine TLc.p (gc:=(!((r73 !=(0:Int))))) (p_mv rfl (hg:=fun e=>rfl)) (gcF1 rfl) rfl ?_
   refine TLc.p (gc:=(!((r73 !=(0:Int))))) (p_lenL (xs:=r70.1) kd48 rfl (hg:=fun e=>e)) (gcF1 rfl) rfl ?_
   refine TLc.p (gc:=(!((r73 !=(0:Int))))) (p_neq rfl rfl (hg:=fun e=>⟨e,rfl⟩)) (gcF1 rfl) rfl ?_
   refine P1 (p_or rfl rfl (fun e=>⟨rfl,fun h=>(not_t h)⟩)) rfl rfl (TL.nil (hK72 _ _ ?_))
   refine TK.cond (b:=((r73 !=(0:Int))||((r70.1.length:Int) !=(1:Int)))) rfl (fun hc=>?_) (fun hc=>?_)
   ·have hX:=ite_t hc hX
    refine SR fun K74 hK74=>M rfl rfl (TL.nil (hK74 _ _ ?_))
    refine TK.ret ?_
    obtain rfl:=hR12 _ (some_in hX).symm
    replace hX:=hA12
    try dsimp only[thenQ]
    exact R1 rfl hX
   ·have hX:=ite_f hc hX
    refine TK.skip ?_
    refine hK71 _ _ ?_
    refine TK.pick [1,0] nd Dc fun nd=>?_
    have ndS:Nd [(b67,RV 54 [Enc.v ((Tape_api.mk (wr ((wr ((2:Int)*i15))+(1:Int))) (5:Int) ([r65.1]:List (List UInt8)) false).Label:Int),Enc.v ((Tape_api.mk (wr ((wr ((2:Int)*i15))+(1:Int))) (5:Int) ([r65.1]:List (List UInt8)) false).Cap:Int),Enc.v ((Tape_api.mk (wr ((wr ((2:Int)*i15))+(1:Int))) (5:Int) ([r65.1]:List (List UInt8)) false).Blocks:(List (List UInt8))),Enc.v ((Tape_api.mk (wr ((wr ((2:Int)*i15))+(1:Int))) (5:Int) ([r65.1]:List (List UInt8)) false).Lost:Bool)])]:=Nd.pick nd (is:=[1]) Dc
    refine TK.drwX (h:=[(b13,RL (α:=Tape_api) 54 l14)]) (hS:=[(b67,RV 54 [Enc.v ((Tape_api.mk (wr ((wr ((2:Int)*i15))+(1:Int))) (5:Int) ([r65.1]:List (List UInt8)) false).Label:Int),Enc.v ((Tape_api.mk (wr ((wr ((2:Int)*i15))+(1:Int))) (5:Int) ([r65.1]:List (List UInt8)) false).Cap:Int),Enc.v ((Tape_api.mk (wr ((wr ((2:Int)*i15))+(1:Int))) (5:Int) ([r65.1]:List (List UInt8)) false).Blocks:(List (List UInt8))),Enc.v ((Tape_api.mk (wr ((wr ((2:Int)*i15))+(1:Int))) (5:Int) ([r65.1]:List (List UInt8)) false).Lost:Bool)])]) [(0,0),(0,1),(0,2),(0,3),(0,4),(0,5),(2,6),(0,7)] mixed (by kernel_rfl) (HSub_app nd) ?_
    refine DM rfl rfl rfl ?_
    refine D0 rfl (p_ldVa (l':=Enc.cl ((Tape_api.mk (wr ((wr ((2:Int)*i15))+(1:Int))) (5:Int) ([r65.1]:List (List UInt8)) false):Tape_api)) ty54 rfl rfl ndS (j:=0) rfl rfl rfl rfl (Nat.le_of_ble_eq_true rfl)) rfl rfl ?_
    refine DM rfl rfl rfl ?_
    obtain ⟨e75,he75,hX⟩:=bind_some hX
    refine D0 rfl (p_iaL (xs:=r70.1) kd48 ty54 rfl rfl rfl (fun _=>he75)) rfl rfl ?_
    refine D0 rfl (p_ldE (xs:=r70.1) (a:=e75) (e75:Tape_api) ty54 rfl rfl (fun _=>he75) rfl rfl rfl) rfl rfl ?_
    refine DR0 (gc:=true) rfl (vok_lit (C:=cx) ([(Tape_api.mk (wr ((wr ((2:Int)*i15))+(1:Int))) (5:Int) ([r65.1]:List (List UInt8)) false),e75]:List Tape_api) kd48 ty54 rfl ⟨⟨rfl,rfl⟩,⟨rfl,rfl⟩,trivial⟩ rfl rfl) rfl rfl ?_
    obtain ⟨u76,hu76,hX⟩:=bind_some hX
    refine DR2 rfl rfl ?_
    refine TLc.appO nd kd48 bo48 ty54 rfl rfl (j:=0) rfl rfl (Src_L _) Dc (need_t hu76) rfl fun nd=>?_
    refine TL.nil ⟨_,[(b13,RL (α:=Tape_api) 54 (l14++([(Tape_api.mk (wr ((wr ((2:Int)*i15))+(1:Int))) (5:Int) ([r65.1]:List (List UInt8)) false),e75]:List Tape_api)))],rfl,rfl,HSub_app nd,?_⟩
    refine DM rfl rfl rfl ?_
    refine DRend ?_
    refine hK62 _ _ ?_
    refine TK.reg ?_
    refine M rfl rfl (P1 (p_add rfl rfl) rfl rfl (M rfl rfl (TL.nil ?_)))
    exact ⟨_,(some_in hX).symm,b13,rfl,(Nd.pick nd (is:=[0]) Dc),(HSub.pick nd (is:=[0]) Dc)⟩
  ·have hX:=ite_f hc hX
   refine TK.exit ?_
   obtain rfl:=hR12 _ (some_in hX).symm
   exact E12 l14 _ _ ⟨b13,rfl,(Nd.pick nd (is:=[0]) Dc),(HSub.pick nd (is:=[0]) Dc)⟩ hA12
end Go.Proofs.Ytndjbcnpgggddaa
