import Derived.Test.YtfpldlnbhjmckaaGreatXFn
import Derived.Test.YtfpldlnbhjmckaaGreatXS
import Derived.Test.YtfpldlnbhjmckaaGreatAmK0
import Derived.Test.YtfpldlnbhjmckaaGreatAmK1
import Derived.Test.YtfpldlnbhjmckaaGreatXP0
namespace Go.Proofs.YtfpldlnbhjmckaaGreat
open Go.AM Go.AX
set_option linter.unusedVariables false
set_option maxRecDepth 20000
theorem bc_group_tape:BodyC cx 22 72 [.c 6 49,.t 7] k22:=⟨Enters.of Tryz.func22 (by kernel_rfl) (by kernel_rfl),_,_,Tryz.func22,rfl,by kernel_rfl,rfl,rfl⟩
theorem ok_group_tape (t1:Tape_api) (s2:Seal_api) (rows3:(List (List UInt8))) (r:(Tape_api×Int)) (hX:X.group_tape t1 s2 rows3=some r):Fun Tryz.prog 22 [Enc.v (t1:Tape_api),Enc.v (s2:Seal_api),Enc.v (rows3:(List (List UInt8)))] (·= .tup 2 (ofL [Enc.v r.1,Enc.v r.2])):=by
 refine Fun.ofC (C:=cx) bc_group_tape (Nat.le_of_ble_eq_true rfl) (allVal.mem ⟨(by exact (v_val _)),(by exact (v_val _)),(by exact (v_val _)),trivial⟩) ?_
 unfold k22
 have nd:Nd []:=Nd_nil
 unfold X.group_tape at hX
 refine SR fun K4 hK4=>?_
 refine TLc.boxV (lu:=[Enc.v t1.Label,Enc.v t1.Cap,Enc.v t1.Blocks,Enc.v t1.Lost]) nd rfl (Cells_v (t1:Tape_api)) rfl ?_
 refine TLc.boxV (lu:=[Enc.v s2.Number,Enc.v s2.Index,Enc.v s2.Data,Enc.v s2.Parity,Enc.v s2.Labels]) nd rfl (Cells_v (s2:Seal_api)) rfl ?_
 refine TLc.alO (l:=[Enc.v ((0:Int):Int),Enc.v ((0:Int):Int),.nils,Enc.v false]) nd ty49 ti49_z rfl rfl fun b5 nd=>?_
 refine M rfl rfl (TL.nil (hK4 _ _ ?_))
 refine TK.ownC (α:=(List UInt8)) nd (j:=0) rfl 2 42 (.inl rfl) fun b6 nd=>?_
 refine SR fun K7 hK7=>?_
 refine TLc.litO nd ([(80:UInt8)]:List UInt8) kd42 ty5 rfl ⟨⟨rfl,rfl⟩,trivial⟩ rfl rfl rfl fun b8 nd=>?_
 refine TLc.cvtF (xs:=([(80:UInt8)]:List UInt8)) nd kd42 kd5 rfl (j:=0) rfl (by simp) rfl fun nd=>?_
 refine P1 (p_bld (l:=Enc.cl ((Unit_api.mk (1:Int) (0:Int) (0:Int) ([(80:UInt8)]:List UInt8)):Unit_api)) ty46 rfl all46 rfl (fun _=>⟨⟨rfl,trivial,rfl⟩,⟨rfl,trivial,rfl⟩,trivial⟩)) rfl rfl ?_
 refine TLc.litO nd ([(Unit_api.mk (1:Int) (0:Int) (0:Int) ([(80:UInt8)]:List UInt8))]:List Unit_api) kd91 ty46 rfl ⟨⟨rfl,rfl⟩,trivial⟩ rfl rfl rfl fun b9 nd=>?_
 refine M rfl rfl (TL.nil (hK7 _ _ ?_))
 refine TK.seq_k fun K10 hK10=>?_
 refine SR fun K11 hK11=>M rfl rfl (P1 (p_lenL (xs:=rows3) kd47 rfl) rfl rfl (M rfl rfl (TL.nil (hK11 _ _ ?_))))
 refine TK.block ?_
 obtain ⟨o12,hO12,hA12⟩:=bind_some hX
 have E12:∀(l21:List Unit_api) (env:Env) (h:Hp),(∃b19 b18 b20,keepE [3,4,6,8] env=[(3,true,.vref (ofL [Enc.v t1.Label,Enc.v t1.Cap,Enc.v t1.Blocks,Enc.v t1.Lost]) 4 0),(4,true,.vref (ofL [Enc.v s2.Number,Enc.v s2.Index,Enc.v s2.Data,Enc.v s2.Parity,Enc.v s2.Labels]) 5 0),(6,true,.ref b18 0 4),(8,true,OL b20 l21)]∧Nd [(b19,RL (α:=(List UInt8)) 42 ([]:List (List UInt8))),(b18,RV 49 [Enc.v ((0:Int):Int),Enc.v ((0:Int):Int),OL (α:=(List UInt8)) b19 ([]:List (List UInt8)),Enc.v false]),(b20,RL (α:=Unit_api) 46 l21)]∧HSub [(b19,RL (α:=(List UInt8)) 42 ([]:List (List UInt8))),(b18,RV 49 [Enc.v ((0:Int):Int),Enc.v ((0:Int):Int),OL (α:=(List UInt8)) b19 ([]:List (List UInt8)),Enc.v false]),(b20,RL (α:=Unit_api) 46 l21)] h)→X.group_tape_e12 s2 t1 l21=some r→K10 env h:=by
  intro l21 env h hE hX
  obtain ⟨b19,b18,b20,henv,nd,hs⟩:=hE
  unfold X.group_tape_e12 at hX
  refine hK10 _ _ (TK.keep [3,4,6,8] ?_)
  rw[henv]
  refine TK.subH hs ?_
  refine SR fun K22 hK22=>M rfl rfl (P1 (p_ldRa (l':=Enc.cl (s2:Seal_api)) ty38 rfl rfl rfl rfl rfl (Nat.le_of_ble_eq_true rfl)) rfl rfl ?_)
  obtain ⟨r23,hr23,hX⟩:=bind_some hX
  refine TL.cvX rfl rfl rfl (fun _=>⟨rfl,⟨rfl,trivial⟩⟩) (fun e=>ok_record_SealBytes s2 _ hr23) ?_
  refine P1 (p_bld (l:=Enc.cl ((Unit_api.mk (5:Int) (0:Int) (0:Int) r23):Unit_api)) ty46 rfl all46 rfl (fun _=>⟨⟨rfl,trivial,rfl⟩,⟨rfl,trivial,rfl⟩,trivial⟩)) rfl rfl ?_
  refine TLc.lit ([(Unit_api.mk (5:Int) (0:Int) (0:Int) r23)]:List Unit_api) kd91 ty46 rfl ⟨⟨rfl,rfl⟩,trivial⟩ rfl rfl rfl ?_
  obtain ⟨u24,hu24,hX⟩:=bind_some hX
  refine TLc.appO nd kd91 bo91 ty46 rfl rfl (j:=2) rfl rfl (Src_L _) Dc (need_t hu24) rfl fun nd=>?_
  refine M rfl rfl (TL.nil (hK22 _ _ (SR fun K25 hK25=>P1 (p_faR fs49_0 Dc rfl) rfl rfl (P1 (p_ldR (v:=Enc.v t1.Label) ty3 rfl rfl rfl rfl rfl rfl) rfl rfl (P1 (p_faR fs49_1 Dc rfl) rfl rfl (P1 (p_ldR (v:=Enc.v t1.Cap) ty3 rfl rfl rfl rfl rfl rfl) rfl rfl ?_))))))
  refine P1 (p_bld (l:=[Enc.v t1.Label,Enc.v t1.Cap,.nils,Enc.v false]) ty49 rfl all49 rfl (fun _=>⟨⟨rfl,trivial,rfl⟩,⟨rfl,trivial,rfl⟩,trivial⟩)) rfl rfl ?_
  refine TLc.alO (l:=[Enc.v ((0:Int):Int),Enc.v ((0:Int):Int),.nils,Enc.v false]) nd ty49 ti49_z rfl rfl fun b26 nd=>?_
  refine TLc.stV (lu:=[Enc.v t1.Label,Enc.v t1.Cap,.nils,Enc.v false]) nd ty49 rfl (j:=0) rfl rfl rfl (Cells_agg rfl (allA.mem ⟨trivial,trivial,trivial,trivial,trivial⟩)) rfl rfl [Enc.v t1.Label,Enc.v t1.Cap,.nils,Enc.v false] rfl fun nd=>?_
  refine TL.nil (hK25 _ _ ?_)
  refine TK.ownC (α:=(List UInt8)) nd (j:=0) rfl 2 42 (.inl rfl) fun b27 nd=>?_
  refine TK.seq_k fun K28 hK28=>?_
  refine SR fun K29 hK29=>M rfl rfl (P1 (p_lenR kd91 rfl (fun _=>refOK_of nd (j:=4) rfl rfl)) rfl rfl (M rfl rfl (TL.nil (hK29 _ _ ?_))))
  refine TK.block ?_
  obtain ⟨o30,hO30,hA30⟩:=bind_some hX
  have E30:∀(c44:Int) (c45:Int) (l47:List (List UInt8)) (c48:Bool) (env:Env) (h:Hp),(∃b42 b41 b46 b43,keepE [6,11] env=[(6,true,.ref b41 0 4),(11,true,.ref b43 0 4)]∧Nd [(b42,RL (α:=(List UInt8)) 42 ([]:List (List UInt8))),(b41,RV 49 [Enc.v ((0:Int):Int),Enc.v ((0:Int):Int),OL (α:=(List UInt8)) b42 ([]:List (List UInt8)),Enc.v false]),(b46,RL (α:=(List UInt8)) 42 l47),(b43,RV 49 [Enc.v c44,Enc.v c45,OL b46 l47,Enc.v c48])]∧HSub [(b42,RL (α:=(List UInt8)) 42 ([]:List (List UInt8))),(b41,RV 49 [Enc.v ((0:Int):Int),Enc.v ((0:Int):Int),OL (α:=(List UInt8)) b42 ([]:List (List UInt8)),Enc.v false]),(b46,RL (α:=(List UInt8)) 42 l47),(b43,RV 49 [Enc.v c44,Enc.v c45,OL b46 l47,Enc.v c48])] h)→X.group_tape_e30 c44 c45 l47 c48=some r→K28 env h:=by
   intro c44 c45 l47 c48 env h hE hX
   obtain ⟨b42,b41,b46,b43,henv,nd,hs⟩:=hE
   unfold X.group_tape_e30 at hX
   refine hK28 _ _ (TK.keep [6,11] ?_)
   rw[henv]
   refine TK.subH hs ?_
   refine SR fun K49 hK49=>?_
   refine TL.layR (l2':=[Enc.v c44,Enc.v c45,Enc.v l47,Enc.v c48]) [] nd (j:=2) rfl 3 rfl rfl ⟨fix_id _,fix_id _,fix_OL nd (j:=2) rfl,fix_id _,trivial⟩ trivial fun nd=>?_
   refine P1 (p_ldVa (l':=Enc.cl ((Tape_api.mk c44 c45 l47 c48):Tape_api)) ty49 rfl rfl nd (j:=2) rfl rfl rfl rfl (Nat.le_of_ble_eq_true rfl)) rfl rfl ?_
   refine TLc.stV (lu:=Enc.cl ((Tape_api.mk c44 c45 l47 c48):Tape_api)) nd ty49 rfl (j:=1) rfl rfl rfl (Cells_v ((Tape_api.mk c44 c45 l47 c48):Tape_api)) rfl rfl [Enc.v ((Tape_api.mk c44 c45 l47 c48).Label:Int),Enc.v ((Tape_api.mk c44 c45 l47 c48).Cap:Int),Enc.v ((Tape_api.mk c44 c45 l47 c48).Blocks:(List (List UInt8))),Enc.v ((Tape_api.mk c44 c45 l47 c48).Lost:Bool)] rfl fun nd=>?_
   refine M rfl rfl (TL.nil (hK49 _ _ ?_))
   refine TK.ret ?_
   try dsimp only[thenQ]
   exact retC [Enc.v ((Tape_api.mk c44 c45 l47 c48):Tape_api),Enc.v ((0:Int):Int)] ⟨p_ldVa (l':=Enc.cl ((Tape_api.mk c44 c45 l47 c48):Tape_api)) ty49 rfl rfl nd (j:=1) rfl rfl rfl rfl (Nat.le_of_ble_eq_true rfl),p_mv rfl,trivial⟩ (by obtain rfl:=some_in hX;rfl) (tup_val (allVal.mem ⟨v_val _,v_val _,trivial⟩))
  refine TK.iter [3,6,11,43,44,45] (fun s env h=>match s with|(c34,c35,l37,c38,x40)=>∃b32 b31 b36 b33 b39,env=[(3,true,.vref (ofL [Enc.v t1.Label,Enc.v t1.Cap,Enc.v t1.Blocks,Enc.v t1.Lost]) 4 0),(6,true,.ref b31 0 4),(11,true,.ref b33 0 4),(43,true,OL (α:=Unit_api) b39 (l21++([(Unit_api.mk (5:Int) (0:Int) (0:Int) r23)]:List Unit_api))),(44,true,Enc.v (((l21++([(Unit_api.mk (5:Int) (0:Int) (0:Int) r23)]:List Unit_api)).length:Int):Int)),(45,true,Enc.v x40)]∧Nd [(b32,RL (α:=(List UInt8)) 42 ([]:List (List UInt8))),(b31,RV 49 [Enc.v ((0:Int):Int),Enc.v ((0:Int):Int),OL (α:=(List UInt8)) b32 ([]:List (List UInt8)),Enc.v false]),(b36,RL (α:=(List UInt8)) 42 l37),(b33,RV 49 [Enc.v c34,Enc.v c35,OL b36 l37,Enc.v c38]),(b39,RL (α:=Unit_api) 46 (l21++([(Unit_api.mk (5:Int) (0:Int) (0:Int) r23)]:List Unit_api)))]∧HSub [(b32,RL (α:=(List UInt8)) 42 ([]:List (List UInt8))),(b31,RV 49 [Enc.v ((0:Int):Int),Enc.v ((0:Int):Int),OL (α:=(List UInt8)) b32 ([]:List (List UInt8)),Enc.v false]),(b36,RL (α:=(List UInt8)) 42 l37),(b33,RV 49 [Enc.v c34,Enc.v c35,OL b36 l37,Enc.v c38]),(b39,RL (α:=Unit_api) 46 (l21++([(Unit_api.mk (5:Int) (0:Int) (0:Int) r23)]:List Unit_api)))] h) hO30 ⟨b19,b18,b27,b26,b20,rfl,(Nd.pick nd (is:=[2,3,0,1,4]) Dc),(HSub.pick nd (is:=[2,3,0,1,4]) Dc)⟩ ?_
  rintro ⟨c34,c35,l37,c38,x40⟩ env h x30x ⟨b32,b31,b36,b33,b39,rfl,nd,hs⟩ hX hR30
  refine TK.subH hs ?_
  unfold X.group_tape_s30 at hX
  try dsimp only at hX
  refine SR fun K50 hK50=>P1 (p_lss rfl rfl) rfl rfl (TL.nil (hK50 _ _ ?_))
  refine TK.seq_k fun K51 hK51=>?_
  refine TK.cond (b:=(decide (x40<((l21++([(Unit_api.mk (5:Int) (0:Int) (0:Int) r23)]:List Unit_api)).length:Int)))) rfl (fun hc=>?_) (fun hc=>?_)
  ·have hX:=ite_t hc hX
   refine TK.skip ?_
   refine hK51 _ _ ?_
   refine TK.seq_k fun K52 hK52=>?_
   refine TK.block ?_
   refine SR fun K53 hK53=>M rfl rfl ?_
   obtain ⟨e54,he54,hX⟩:=bind_some hX
   refine P1 (p_iaO (xs:=(l21++([(Unit_api.mk (5:Int) (0:Int) (0:Int) r23)]:List Unit_api))) kd91 ty46 rfl rfl rfl nd (j:=4) rfl (fun _=>he54)) rfl rfl (P1 (p_ldO (xs:=(l21++([(Unit_api.mk (5:Int) (0:Int) (0:Int) r23)]:List Unit_api))) (a:=e54) (e54:Unit_api) ty46 rfl rfl nd (j:=4) rfl (fun _=>he54) rfl rfl rfl) rfl rfl ?_)
   refine TLc.alO (l:=[Enc.v ((0:Int):Int),Enc.v ((0:Int):Int),Enc.v ((0:Int):Int),.nils]) nd ty46 ti46_z rfl rfl fun b55 nd=>?_
   refine M rfl rfl ?_
   refine TLc.stV (lu:=Enc.cl (e54:Unit_api)) nd ty46 rfl (j:=0) rfl rfl rfl (Cells_v (e54:Unit_api)) rfl rfl [Enc.v e54.Kind,Enc.v e54.Label,Enc.v e54.Number,Enc.v e54.Load] rfl fun nd=>?_
   refine TL.nil (hK53 _ _ (SR fun K56 hK56=>P1 (p_faR fs49_0 Dc rfl) rfl rfl (P1 (p_ldR (v:=Enc.v t1.Label) ty3 rfl rfl rfl rfl rfl rfl) rfl rfl (M rfl rfl (P1 (p_faV fs46_1 Dc rfl nd (j:=0) rfl rfl) rfl rfl ?_)))))
   refine TLc.stV (lu:=Enc.cl (t1.Label:Int)) nd ty3 rfl (j:=0) rfl rfl rfl (Cells_v (t1.Label:Int)) rfl rfl [Enc.v e54.Kind,Enc.v t1.Label,Enc.v e54.Number,Enc.v e54.Load] rfl fun nd=>?_
   refine P1 (p_faV fs46_2 Dc rfl nd (j:=0) rfl rfl) rfl rfl ?_
   refine TLc.stV (lu:=Enc.cl (x40:Int)) nd ty3 rfl (j:=0) rfl rfl rfl (Cells_v (x40:Int)) rfl rfl [Enc.v e54.Kind,Enc.v t1.Label,Enc.v x40,Enc.v e54.Load] rfl fun nd=>?_
   refine TL.nil (hK56 _ _ (SR fun K57 hK57=>P1 (p_ldVa (l':=Enc.cl ((Unit_api.mk e54.Kind t1.Label x40 e54.Load):Unit_api)) ty46 rfl rfl nd (j:=0) rfl rfl rfl rfl (Nat.le_of_ble_eq_true rfl)) rfl rfl ?_))
   obtain ⟨r58,hr58,hX⟩:=bind_some hX
   refine TL.cvX rfl rfl rfl (fun _=>⟨rfl,⟨rfl,trivial⟩⟩) (fun e=>ok_frame_Put (Unit_api.mk e54.Kind t1.Label x40 e54.Load) _ hr58) ?_
   refine M rfl rfl (P1 (p_ex rfl rfl Dc) rfl rfl (P1 (p_ex rfl rfl Dc) rfl rfl (M rfl rfl (M rfl rfl (TL.nil (hK57 _ _ ?_))))))
   refine TK.seq_k fun K59 hK59=>?_
   refine SR fun K60 hK60=>M rfl rfl (P1 (p_neq rfl rfl) rfl rfl (TL.nil (hK60 _ _ ?_)))
   refine TK.cond (b:=(r58.2 !=(0:Int))) rfl (fun hc=>?_) (fun hc=>?_)
   ·have hX:=ite_t hc hX
    refine SR fun K61 hK61=>P1 (p_bld (l:=[Enc.v ((0:Int):Int),Enc.v ((0:Int):Int),.nils,Enc.v false]) ty49 rfl all49 rfl (fun _=>trivial)) rfl rfl (M rfl rfl ?_)
    refine TLc.stV (lu:=[Enc.v ((0:Int):Int),Enc.v ((0:Int):Int),.nils,Enc.v false]) nd ty49 rfl (j:=2) rfl rfl rfl (Cells_agg rfl (allA.mem ⟨trivial,trivial,trivial,trivial,trivial⟩)) rfl rfl [Enc.v ((0:Int):Int),Enc.v ((0:Int):Int),.nils,Enc.v false] rfl fun nd=>?_
    refine M rfl rfl (TL.nil (hK61 _ _ ?_))
    refine TK.ownC (α:=(List UInt8)) nd (j:=2) rfl 2 42 (.inl rfl) fun b62 nd=>?_
    refine TK.layR (l2':=[Enc.v ((0:Int):Int),Enc.v ((0:Int):Int),Enc.v (([]:List (List UInt8)):(List (List UInt8))),Enc.v false]) [] nd (j:=0) rfl 3 rfl rfl ⟨fix_id _,fix_id _,fix_OL nd (j:=0) rfl,fix_id _,trivial⟩ trivial fun nd=>?_
    refine TK.ret ?_
    obtain rfl:=hR30 _ (some_in hX).symm
    replace hX:=hA30
    try dsimp only[thenQ]
    exact retC [Enc.v ((Tape_api.mk (0:Int) (0:Int) ([]:List (List UInt8)) false):Tape_api),Enc.v r58.2] ⟨p_ldVa (l':=Enc.cl ((Tape_api.mk (0:Int) (0:Int) ([]:List (List UInt8)) false):Tape_api)) ty49 rfl rfl nd (j:=2) rfl rfl rfl rfl (Nat.le_of_ble_eq_true rfl),p_mv rfl,trivial⟩ (by obtain rfl:=some_in hX;rfl) (tup_val (allVal.mem ⟨v_val _,v_val _,trivial⟩))
   ·have hX:=ite_f hc hX
    refine TK.skip ?_
    refine hK59 _ _ ?_
    refine TK.reg ?_
    refine P1 (p_faV fs49_2 Dc rfl nd (j:=4) rfl rfl) rfl rfl (P1 (p_ldV (v:=OL b36 l37) ty47 rfl rfl nd (j:=4) rfl rfl rfl rfl rfl) rfl rfl (M rfl rfl ?_))
    refine TLc.lit ([r58.1]:List (List UInt8)) kd47 ty42 rfl ⟨⟨rfl,rfl⟩,trivial⟩ rfl rfl rfl ?_
    obtain ⟨u63,hu63,hX⟩:=bind_some hX
    refine TLc.appO nd kd47 bo47 ty42 rfl rfl (j:=3) rfl rfl (Src_L _) Dc (need_t hu63) rfl fun nd=>?_
    refine P1 (p_faV fs49_2 Dc rfl nd (j:=4) rfl rfl) rfl rfl ?_
    refine TLc.stV (lu:=[OL (α:=(List UInt8)) b36 (l37++([r58.1]:List (List UInt8)))]) nd ty47 rfl (j:=4) rfl rfl rfl (Cells_rs (refOK_of nd (j:=3) rfl rfl)) rfl rfl [Enc.v c34,Enc.v c35,OL (α:=(List UInt8)) b36 (l37++([r58.1]:List (List UInt8))),Enc.v c38] rfl fun nd=>?_
    refine TL.nil (hK52 _ _ ?_)
    refine TK.reg ?_
    refine P1 (p_add rfl rfl) rfl rfl (M rfl rfl (TL.nil ?_))
    exact ⟨_,(some_in hX).symm,b32,b31,b36,b33,b39,rfl,(Nd.pick nd (is:=[1,2,3,4,5]) Dc),(HSub.pick nd (is:=[1,2,3,4,5]) Dc)⟩
  ·have hX:=ite_f hc hX
   refine TK.exit ?_
   obtain rfl:=hR30 _ (some_in hX).symm
   exact E30 c34 c35 l37 c38 _ _ ⟨b32,b31,b36,b33,rfl,(Nd.pick nd (is:=[0,1,2,3]) Dc),(HSub.pick nd (is:=[0,1,2,3]) Dc)⟩ hA30
 refine TK.iter [3,4,6,8,20,21,22] (fun s env h=>match s with|(l16,x17)=>∃b14 b13 b15,env=[(3,true,.vref (ofL [Enc.v t1.Label,Enc.v t1.Cap,Enc.v t1.Blocks,Enc.v t1.Lost]) 4 0),(4,true,.vref (ofL [Enc.v s2.Number,Enc.v s2.Index,Enc.v s2.Data,Enc.v s2.Parity,Enc.v s2.Labels]) 5 0),(6,true,.ref b13 0 4),(8,true,OL b15 l16),(20,true,Enc.v rows3),(21,true,Enc.v ((rows3.length:Int):Int)),(22,true,Enc.v x17)]∧Nd [(b14,RL (α:=(List UInt8)) 42 ([]:List (List UInt8))),(b13,RV 49 [Enc.v ((0:Int):Int),Enc.v ((0:Int):Int),OL (α:=(List UInt8)) b14 ([]:List (List UInt8)),Enc.v false]),(b15,RL (α:=Unit_api) 46 l16)]∧HSub [(b14,RL (α:=(List UInt8)) 42 ([]:List (List UInt8))),(b13,RV 49 [Enc.v ((0:Int):Int),Enc.v ((0:Int):Int),OL (α:=(List UInt8)) b14 ([]:List (List UInt8)),Enc.v false]),(b15,RL (α:=Unit_api) 46 l16)] h) hO12 ⟨b6,b5,b9,rfl,(Nd.pick nd (is:=[1,2,0]) Dc),(HSub.pick nd (is:=[1,2,0]) Dc)⟩ ?_
 rintro ⟨l16,x17⟩ env h x12x ⟨b14,b13,b15,rfl,nd,hs⟩ hX hR12
 refine TK.subH hs ?_
 unfold X.group_tape_s12 at hX
 try dsimp only at hX
 refine SR fun K64 hK64=>P1 (p_lss rfl rfl) rfl rfl (TL.nil (hK64 _ _ ?_))
 refine TK.seq_k fun K65 hK65=>?_
 refine TK.cond (b:=(decide (x17<(rows3.length:Int)))) rfl (fun hc=>?_) (fun hc=>?_)
 ·have hX:=ite_t hc hX
  refine TK.skip ?_
  refine hK65 _ _ ?_
  refine TK.seq_k fun K66 hK66=>?_
  refine TK.block ?_
  refine SR fun K67 hK67=>?_
  obtain ⟨e68,he68,hX⟩:=bind_some hX
  refine P1 (p_iaL (xs:=rows3) kd47 ty42 rfl rfl rfl (fun _=>he68)) rfl rfl (P1 (p_ldE (xs:=rows3) (a:=e68) (e68:(List UInt8)) ty42 rfl rfl (fun _=>he68) rfl rfl rfl) rfl rfl (M rfl rfl (TL.nil (hK67 _ _ ?_))))
  refine TK.reg ?_
  refine M rfl rfl (M rfl rfl (P1 (p_bld (l:=Enc.cl ((Unit_api.mk (6:Int) (0:Int) (0:Int) e68):Unit_api)) ty46 rfl all46 rfl (fun _=>⟨⟨rfl,trivial,rfl⟩,⟨rfl,trivial,rfl⟩,trivial⟩)) rfl rfl ?_))
  refine TLc.lit ([(Unit_api.mk (6:Int) (0:Int) (0:Int) e68)]:List Unit_api) kd91 ty46 rfl ⟨⟨rfl,rfl⟩,trivial⟩ rfl rfl rfl ?_
  obtain ⟨u69,hu69,hX⟩:=bind_some hX
  refine TLc.appO nd kd91 bo91 ty46 rfl rfl (j:=2) rfl rfl (Src_L _) Dc (need_t hu69) rfl fun nd=>?_
  refine M rfl rfl (TL.nil (hK66 _ _ ?_))
  refine TK.reg ?_
  refine P1 (p_add rfl rfl) rfl rfl (M rfl rfl (TL.nil ?_))
  exact ⟨_,(some_in hX).symm,b14,b13,b15,rfl,(Nd.pick nd (is:=[0,1,2]) Dc),(HSub.pick nd (is:=[0,1,2]) Dc)⟩
 ·have hX:=ite_f hc hX
  refine TK.exit ?_
  obtain rfl:=hR12 _ (some_in hX).symm
  exact E12 l16 _ _ ⟨b14,b13,b15,rfl,(Nd.pick nd (is:=[0,1,2]) Dc),(HSub.pick nd (is:=[0,1,2]) Dc)⟩ hA12
theorem ok_group_Make (data1:(List Tape_api)) (blank2:(List Tape_api)) (number3:Int) (r:((List Tape_api)×Int)) (hX:X.group_Make data1 blank2 number3=some r):Fun Tryz.prog 7 [Enc.v (data1:(List Tape_api)),Enc.v (blank2:(List Tape_api)),Enc.v (number3:Int)] (·= .tup 2 (ofL [Enc.v r.1,Enc.v r.2])):=by
 refine Fun.of b7 (Nat.le_of_ble_eq_true rfl) (allVal.mem ⟨(by exact (v_val _)),(by exact (v_val _)),(by exact (v_val _)),trivial⟩) ?_
 unfold k7
 have nd:Nd []:=Nd_nil
 unfold X.group_Make at hX
 refine SR fun K4 hK4=>M rfl rfl (M rfl rfl (TL.nil (hK4 _ _ (SR fun K5 hK5=>M rfl rfl (M rfl rfl (P1 (p_lenL (xs:=data1) kd22 rfl) rfl rfl (M rfl rfl (P1 (p_lenL (xs:=blank2) kd22 rfl) rfl rfl (M rfl rfl (M rfl rfl ?_))))))))))
 refine TLc.lit ([data1,blank2]:List (List Tape_api)) kd83 ty22 rfl ⟨⟨rfl,rfl⟩,⟨rfl,rfl⟩,trivial⟩ rfl rfl rfl ?_
 obtain ⟨r6,hr6,hX⟩:=bind_some hX
 refine TL.cvX rfl rfl rfl (fun _=>⟨rfl,⟨rfl,trivial⟩⟩) (fun e=>ok_slices_Concat_Lapi_Tape_api_Tape ([data1,blank2]:List (List Tape_api)) _ hr6) ?_
 obtain ⟨r7,hr7,hX⟩:=bind_some hX
 refine TL.cvX rfl rfl rfl (fun _=>⟨rfl,⟨rfl,trivial⟩⟩) (fun e=>ok_group_labels r6 _ hr7) ?_
 refine P1 (p_bld (l:=Enc.cl ((Seal_api.mk number3 (0:Int) (data1.length:Int) (blank2.length:Int) r7):Seal_api)) ty38 rfl all38 rfl (fun _=>⟨⟨rfl,trivial,rfl⟩,⟨rfl,trivial,rfl⟩,⟨rfl,trivial,rfl⟩,⟨rfl,trivial,rfl⟩,trivial⟩)) rfl rfl ?_
 refine TLc.alO (l:=[Enc.v ((0:Int):Int),Enc.v ((0:Int):Int),Enc.v ((0:Int):Int),Enc.v ((0:Int):Int),.nils]) nd ty38 ti38_z rfl rfl fun b8 nd=>?_
 refine TLc.stV (lu:=Enc.cl ((Seal_api.mk number3 (0:Int) (data1.length:Int) (blank2.length:Int) r7):Seal_api)) nd ty38 rfl (j:=0) rfl rfl rfl (Cells_v ((Seal_api.mk number3 (0:Int) (data1.length:Int) (blank2.length:Int) r7):Seal_api)) rfl rfl [Enc.v ((Seal_api.mk number3 (0:Int) (data1.length:Int) (blank2.length:Int) r7).Number:Int),Enc.v ((Seal_api.mk number3 (0:Int) (data1.length:Int) (blank2.length:Int) r7).Index:Int),Enc.v ((Seal_api.mk number3 (0:Int) (data1.length:Int) (blank2.length:Int) r7).Data:Int),Enc.v ((Seal_api.mk number3 (0:Int) (data1.length:Int) (blank2.length:Int) r7).Parity:Int),Enc.v ((Seal_api.mk number3 (0:Int) (data1.length:Int) (blank2.length:Int) r7).Labels:(List Int))] rfl fun nd=>?_
 refine TL.nil (hK5 _ _ ?_)
 refine TK.seq_k fun K9 hK9=>?_
 refine SR fun K10 hK10=>M rfl rfl (M rfl rfl (P1 (p_ldVa (l':=Enc.cl ((Seal_api.mk number3 (0:Int) (data1.length:Int) (blank2.length:Int) r7):Seal_api)) ty38 rfl rfl nd (j:=0) rfl rfl rfl rfl (Nat.le_of_ble_eq_true rfl)) rfl rfl ?_))
 obtain ⟨r11,hr11,hX⟩:=bind_some hX
 refine TL.cvX rfl rfl rfl (fun _=>⟨rfl,⟨rfl,⟨rfl,⟨rfl,trivial⟩⟩⟩⟩) (fun e=>ok_group_check data1 blank2 (Seal_api.mk number3 (0:Int) (data1.length:Int) (blank2.length:Int) r7) _ hr11) ?_
 refine M rfl rfl (TL.nil (hK10 _ _ (SR fun K12 hK12=>M rfl rfl (P1 (p_neq rfl rfl) rfl rfl (TL.nil (hK12 _ _ ?_))))))
 refine TK.cond (b:=(r11 !=(0:Int))) rfl (fun hc=>?_) (fun hc=>?_)
 ·have hX:=ite_t hc hX
  refine SR fun K13 hK13=>M rfl rfl (M rfl rfl (M rfl rfl (TL.nil (hK13 _ _ ?_))))
  refine TK.wk 6 (L ([]:(List Tape_api))) rfl Wk_nil ?_
  refine TK.ret ?_
  try dsimp only[thenQ]
  exact retN (vs:=[Enc.v (([]:(List Tape_api)):(List Tape_api)),Enc.v r11]) ⟨rfl,rfl,trivial⟩ (by obtain rfl:=some_in hX;rfl) (allVal.mem ⟨v_val _,v_val _,trivial⟩)
 ·have hX:=ite_f hc hX
  refine TK.skip ?_
  refine hK9 _ _ (SR fun K14 hK14=>M rfl rfl (M rfl rfl (P1 (p_lenL (xs:=blank2) kd22 rfl) rfl rfl ?_)))
  obtain ⟨r15,hr15,hX⟩:=bind_some hX
  refine TL.cvX rfl rfl rfl (fun _=>⟨rfl,⟨rfl,⟨rfl,trivial⟩⟩⟩) (fun e=>ok_stripe_Parity data1 (blank2.length:Int) _ hr15) ?_
  refine M rfl rfl (P1 (p_ex rfl rfl Dc) rfl rfl (P1 (p_ex rfl rfl Dc) rfl rfl (M rfl rfl (M rfl rfl (TL.nil (hK14 _ _ ?_))))))
  refine TK.seq_k fun K16 hK16=>?_
  refine SR fun K17 hK17=>M rfl rfl (P1 (p_neq rfl rfl) rfl rfl (TL.nil (hK17 _ _ ?_)))
  refine TK.cond (b:=(r15.2 !=(0:Int))) rfl (fun hc=>?_) (fun hc=>?_)
  ·have hX:=ite_t hc hX
   refine SR fun K18 hK18=>M rfl rfl (M rfl rfl (M rfl rfl (TL.nil (hK18 _ _ ?_))))
   refine TK.wk 6 (L ([]:(List Tape_api))) rfl Wk_nil ?_
   refine TK.ret ?_
   try dsimp only[thenQ]
   exact retN (vs:=[Enc.v (([]:(List Tape_api)):(List Tape_api)),Enc.v r15.2]) ⟨rfl,rfl,trivial⟩ (by obtain rfl:=some_in hX;rfl) (allVal.mem ⟨v_val _,v_val _,trivial⟩)
  ·have hX:=ite_f hc hX
   refine TK.skip ?_
   refine hK16 _ _ (SR fun K19 hK19=>M rfl rfl (TL.nil (hK19 _ _ ?_)))
   refine TK.ownL (α:=Tape_api) 12 49 nd rfl (.inl rfl) fun b20 nd=>?_
   refine TK.seq_k fun K21 hK21=>?_
   refine SR fun K22 hK22=>M rfl rfl (P1 (p_lenL (xs:=blank2) kd22 rfl) rfl rfl (M rfl rfl (TL.nil (hK22 _ _ ?_))))
   refine TK.block ?_
   obtain ⟨o23,hO23,hA23⟩:=bind_some hX
   have E23:∀(l34:List Tape_api) (env:Env) (h:Hp),(∃b33,keepE [12] env=[(12,true,OL b33 l34)]∧Nd [(b33,RL (α:=Tape_api) 49 l34)]∧HSub [(b33,RL (α:=Tape_api) 49 l34)] h)→X.group_Make_e23 l34=some r→K21 env h:=by
    intro l34 env h hE hX
    obtain ⟨b33,henv,nd,hs⟩:=hE
    unfold X.group_Make_e23 at hX
    refine hK21 _ _ (TK.keep [12] ?_)
    rw[henv]
    refine TK.subH hs ?_
    refine SR fun K35 hK35=>M rfl rfl (M rfl rfl (M rfl rfl (TL.nil (hK35 _ _ ?_))))
    refine TK.lay [(6,L l34)] nd (j:=0) rfl ⟨⟨_,rfl,fix_OL nd (j:=0) rfl,rfl⟩,trivial⟩ fun nd=>?_
    refine TK.ret ?_
    try dsimp only[thenQ]
    exact retN (vs:=[Enc.v l34,Enc.v ((0:Int):Int)]) ⟨rfl,rfl,trivial⟩ (by obtain rfl:=some_in hX;rfl) (allVal.mem ⟨v_val _,v_val _,trivial⟩)
   refine TK.iter [0,8,10,12,45,46,47] (fun s env h=>match s with|(c25,c26,c27,c28,c29,out31,x32)=>∃b24 b30,env=[(0,true,Enc.v data1),(8,true,.ref b24 0 5),(10,true,Enc.v (r15.1:(List (List (List UInt8))))),(12,true,OL b30 out31),(45,true,Enc.v blank2),(46,true,Enc.v ((blank2.length:Int):Int)),(47,true,Enc.v x32)]∧Nd [(b24,RV 38 [Enc.v c25,Enc.v c26,Enc.v c27,Enc.v c28,Enc.v c29]),(b30,RL (α:=Tape_api) 49 out31)]∧HSub [(b24,RV 38 [Enc.v c25,Enc.v c26,Enc.v c27,Enc.v c28,Enc.v c29]),(b30,RL (α:=Tape_api) 49 out31)] h) hO23 ⟨b8,b20,rfl,(Nd.pick nd (is:=[1,0]) Dc),(HSub.pick nd (is:=[1,0]) Dc)⟩ ?_
   rintro ⟨c25,c26,c27,c28,c29,out31,x32⟩ env h x23x ⟨b24,b30,rfl,nd,hs⟩ hX hR23
   refine TK.subH hs ?_
   unfold X.group_Make_s23 at hX
   try dsimp only at hX
   refine SR fun K36 hK36=>P1 (p_lss rfl rfl) rfl rfl (TL.nil (hK36 _ _ ?_))
   refine TK.seq_k fun K37 hK37=>?_
   refine TK.cond (b:=(decide (x32<(blank2.length:Int)))) rfl (fun hc=>?_) (fun hc=>?_)
   ·have hX:=ite_t hc hX
    refine TK.skip ?_
    refine hK37 _ _ ?_
    refine TK.seq_k fun K38 hK38=>?_
    refine TK.block ?_
    refine SR fun K39 hK39=>M rfl rfl ?_
    obtain ⟨e40,he40,hX⟩:=bind_some hX
    refine P1 (p_iaL (xs:=blank2) kd22 ty49 rfl rfl rfl (fun _=>he40)) rfl rfl (P1 (p_ldE (xs:=blank2) (a:=e40) (e40:Tape_api) ty49 rfl rfl (fun _=>he40) rfl rfl rfl) rfl rfl ?_)
    refine TLc.alO (l:=[Enc.v ((0:Int):Int),Enc.v ((0:Int):Int),.nils,Enc.v false]) nd ty49 ti49_z rfl rfl fun b41 nd=>?_
    refine M rfl rfl ?_
    refine TLc.stV (lu:=Enc.cl (e40:Tape_api)) nd ty49 rfl (j:=0) rfl rfl rfl (Cells_v (e40:Tape_api)) rfl rfl [Enc.v e40.Label,Enc.v e40.Cap,Enc.v e40.Blocks,Enc.v e40.Lost] rfl fun nd=>?_
    refine TL.nil (hK39 _ _ (SR fun K42 hK42=>M rfl rfl (P1 (p_lenL (xs:=data1) kd22 rfl) rfl rfl (M rfl rfl (P1 (p_add rfl rfl) rfl rfl (P1 (p_faV fs38_1 Dc rfl nd (j:=1) rfl rfl) rfl rfl ?_))))))
    refine TLc.stV (lu:=Enc.cl ((wr ((data1.length:Int)+x32)):Int)) nd ty3 rfl (j:=1) rfl rfl rfl (Cells_v ((wr ((data1.length:Int)+x32)):Int)) rfl rfl [Enc.v c25,Enc.v ((wr ((data1.length:Int)+x32)):Int),Enc.v c27,Enc.v c28,Enc.v c29] rfl fun nd=>?_
    refine TL.nil (hK42 _ _ ?_)
    refine TK.seq_k fun K43 hK43=>?_
    have ndS:Nd [(b41,RV 49 [Enc.v e40.Label,Enc.v e40.Cap,Enc.v e40.Blocks,Enc.v e40.Lost]),(b24,RV 38 [Enc.v c25,Enc.v ((wr ((data1.length:Int)+x32)):Int),Enc.v c27,Enc.v c28,Enc.v c29]),(b30,RL (α:=Tape_api) 49 out31)]:=Nd.pick nd (is:=[0,1,2]) Dc
    refine TK.drwX (h:=[]) (hS:=[(b41,RV 49 [Enc.v e40.Label,Enc.v e40.Cap,Enc.v e40.Blocks,Enc.v e40.Lost]),(b24,RV 38 [Enc.v c25,Enc.v ((wr ((data1.length:Int)+x32)):Int),Enc.v c27,Enc.v c28,Enc.v c29]),(b30,RL (α:=Tape_api) 49 out31)]) [(0,0),(0,1),(0,2),(0,3),(0,4),(0,5),(0,6),(0,7),(0,8),(0,9),(2,10),(2,11),(0,12)] mixed (by kernel_rfl) (HSub_app nd) ?_
    refine D0 rfl (p_ldVa (l':=Enc.cl (e40:Tape_api)) ty49 rfl rfl ndS (j:=0) rfl rfl rfl rfl (Nat.le_of_ble_eq_true rfl)) rfl rfl ?_
    refine D0 rfl (p_ldVa (l':=Enc.cl ((Seal_api.mk c25 (wr ((data1.length:Int)+x32)) c27 c28 c29):Seal_api)) ty38 rfl rfl ndS (j:=1) rfl rfl rfl rfl (Nat.le_of_ble_eq_true rfl)) rfl rfl ?_
    refine DM rfl rfl rfl ?_
    refine DM rfl rfl rfl ?_
    obtain ⟨e44,he44,hX⟩:=bind_some hX
    refine D0 rfl (p_iaL (xs:=r15.1) kd54 ty47 rfl rfl rfl (fun _=>he44)) rfl rfl ?_
    refine D0 rfl (p_ldE (xs:=r15.1) (a:=e44) (e44:(List (List UInt8))) ty47 rfl rfl (fun _=>he44) rfl rfl rfl) rfl rfl ?_
    obtain ⟨r45,hr45,hX⟩:=bind_some hX
    refine DR0 (gc:=true) rfl (vok_c rfl (fun _=>⟨rfl,⟨rfl,⟨rfl,⟨rfl,trivial⟩⟩⟩⟩) (fun e=>ok_group_tape e40 (Seal_api.mk c25 (wr ((data1.length:Int)+x32)) c27 c28 c29) e44 _ hr45)) rfl rfl ?_
    refine DM rfl rfl rfl ?_
    refine D0 rfl (p_ex rfl rfl Dc) rfl rfl ?_
    refine D0 rfl (p_ex rfl rfl Dc) rfl rfl ?_
    refine DR2 rfl rfl ?_
    refine TLc.alO (l:=[Enc.v ((0:Int):Int),Enc.v ((0:Int):Int),.nils,Enc.v false]) nd ty49 ti49_z rfl rfl fun b46 nd=>?_
    refine TL.nil ⟨_,[(b46,RV 49 [Enc.v ((0:Int):Int),Enc.v ((0:Int):Int),.nils,Enc.v false])],rfl,rfl,HSub_app nd,?_⟩
    refine DR2n rfl ?_
    refine TLc.stV (lu:=Enc.cl (r45.1:Tape_api)) nd ty49 rfl (j:=0) rfl rfl rfl (Cells_v (r45.1:Tape_api)) rfl rfl [Enc.v r45.1.Label,Enc.v r45.1.Cap,Enc.v r45.1.Blocks,Enc.v r45.1.Lost] rfl fun nd=>?_
    refine TL.nil ⟨.nilp,[(b46,RV 49 [Enc.v r45.1.Label,Enc.v r45.1.Cap,Enc.v r45.1.Blocks,Enc.v r45.1.Lost])],rfl,rfl,HSub_app nd,?_⟩
    refine DM rfl rfl rfl ?_
    refine DRend ?_
    refine hK43 _ _ ?_
    refine TK.seq_k fun K47 hK47=>?_
    refine SR fun K48 hK48=>M rfl rfl (P1 (p_neq rfl rfl) rfl rfl (TL.nil (hK48 _ _ ?_)))
    refine TK.cond (b:=(r45.2 !=(0:Int))) rfl (fun hc=>?_) (fun hc=>?_)
    ·have hX:=ite_t hc hX
     refine SR fun K49 hK49=>M rfl rfl (M rfl rfl (M rfl rfl (TL.nil (hK49 _ _ ?_))))
     refine TK.wk 6 (L ([]:(List Tape_api))) rfl Wk_nil ?_
     refine TK.ret ?_
     obtain rfl:=hR23 _ (some_in hX).symm
     replace hX:=hA23
     try dsimp only[thenQ]
     exact retN (vs:=[Enc.v (([]:(List Tape_api)):(List Tape_api)),Enc.v r45.2]) ⟨rfl,rfl,trivial⟩ (by obtain rfl:=some_in hX;rfl) (allVal.mem ⟨v_val _,v_val _,trivial⟩)
    ·have hX:=ite_f hc hX
     refine TK.skip ?_
     refine hK47 _ _ ?_
     refine TK.reg ?_
     refine M rfl rfl (P1 (p_ldVa (l':=Enc.cl (r45.1:Tape_api)) ty49 rfl rfl nd (j:=0) rfl rfl rfl rfl (Nat.le_of_ble_eq_true rfl)) rfl rfl ?_)
     refine TLc.lit ([r45.1]:List Tape_api) kd22 ty49 rfl ⟨⟨rfl,rfl⟩,trivial⟩ rfl rfl rfl ?_
     obtain ⟨u50,hu50,hX⟩:=bind_some hX
     refine TLc.appO nd kd22 bo22 ty49 rfl rfl (j:=3) rfl rfl (Src_L _) Dc (need_t hu50) rfl fun nd=>?_
     refine M rfl rfl (TL.nil (hK38 _ _ ?_))
     refine TK.reg ?_
     refine P1 (p_add rfl rfl) rfl rfl (M rfl rfl (TL.nil ?_))
     exact ⟨_,(some_in hX).symm,b24,b30,rfl,(Nd.pick nd (is:=[2,3]) Dc),(HSub.pick nd (is:=[2,3]) Dc)⟩
   ·have hX:=ite_f hc hX
    refine TK.exit ?_
    obtain rfl:=hR23 _ (some_in hX).symm
    exact E23 out31 _ _ ⟨b30,rfl,(Nd.pick nd (is:=[1]) Dc),(HSub.pick nd (is:=[1]) Dc)⟩ hA23
theorem ok_code_Reader_Left (b1:(List UInt8)) (bad2:Bool) (r:Int) (hX:X.code_Reader_Left b1 bad2=some r):Fun Tryz.prog 94 [.vref (ofL [Enc.v (b1:(List UInt8)),Enc.v (bad2:Bool)]) 2 0] (·=Enc.v (r:Int)):=by
 refine Fun.of b94 (Nat.le_of_ble_eq_true rfl) (allVal.mem ⟨(by exact (vref_val (l:=[Enc.v (b1:(List UInt8)),Enc.v (bad2:Bool)]) rfl ⟨(v_val _),(v_val _),trivial⟩)),trivial⟩) ?_
 unfold k94
 have nd:Nd []:=Nd_nil
 unfold X.code_Reader_Left at hX
 refine SR fun K3 hK3=>M rfl rfl (TL.nil (hK3 _ _ ?_))
 refine TK.seq_k fun K4 hK4=>?_
 refine SR fun K5 hK5=>M rfl rfl (P1 (p_eqV kd132 rfl rfl) rfl rfl (TL.nil (hK5 _ _ ?_)))
 refine TK.cond (b:=false) rfl (fun hc=>by simp at hc) (fun _=>?_)
 refine TK.skip ?_
 refine hK4 _ _ (SR fun K6 hK6=>M rfl rfl (P1 (p_ncV rfl) rfl rfl (P1 (p_faR fs154_0 Dc rfl) rfl rfl (P1 (p_ldR (v:=Enc.v b1) ty42 rfl rfl rfl rfl rfl rfl) rfl rfl (P1 (p_lenL (xs:=b1) kd42 rfl) rfl rfl (M rfl rfl (TL.nil (hK6 _ _ ?_))))))))
 refine TK.ret ?_
 try dsimp only[thenQ]
 exact R1 rfl hX
theorem bc_record_ReadSeal:BodyC cx 62 47 [.c 2 38,.t 3] k62:=⟨Enters.of Tryz.func62 (by kernel_rfl) (by kernel_rfl),_,_,Tryz.func62,rfl,by kernel_rfl,rfl,rfl⟩
theorem ok_record_ReadSeal (b1:(List UInt8)) (r:(Seal_api×Int)) (hX:X.record_ReadSeal b1=some r):Fun Tryz.prog 62 [Enc.v (b1:(List UInt8))] (·= .tup 2 (ofL [Enc.v r.1,Enc.v r.2])):=by
 refine Fun.ofC (C:=cx) bc_record_ReadSeal (Nat.le_of_ble_eq_true rfl) (allVal.mem ⟨(by exact (v_val _)),trivial⟩) ?_
 unfold k62
 have nd:Nd []:=Nd_nil
 unfold X.record_ReadSeal at hX
 refine SR fun K2 hK2=>?_
 refine TLc.alO (l:=[Enc.v ((0:Int):Int),Enc.v ((0:Int):Int),Enc.v ((0:Int):Int),Enc.v ((0:Int):Int),.nils]) nd ty38 ti38_z rfl rfl fun b3 nd=>?_
 refine M rfl rfl (TL.nil (hK2 _ _ ?_))
 refine TK.ownC (α:=Int) nd (j:=0) rfl 4 3 (.inl rfl) fun b4 nd=>?_
 refine SR fun K5 hK5=>M rfl rfl ?_
 obtain ⟨r6,hr6,hX⟩:=bind_some hX
 refine TL.tcX [] [(b4,RL (α:=Int) 3 ([]:List Int)),(b3,RV 38 [Enc.v ((0:Int):Int),Enc.v ((0:Int):Int),Enc.v ((0:Int):Int),Enc.v ((0:Int):Int),OL (α:=Int) b4 ([]:List Int)])] rfl nd (dlt rfl) rfl ⟨rfl,⟨rfl,trivial⟩⟩ (ok_code_NewReader b1 (Nd.take nd 0 rfl) _ hr6) ?_
 rintro _ _ hQ nd
 obtain ⟨b7,rfl,rfl⟩:=hQ
 refine M rfl rfl (TL.nil (hK5 _ _ (SR fun K8 hK8=>M rfl rfl ?_)))
 obtain ⟨r9,hr9,hX⟩:=bind_some hX
 refine TL.tcX [(b7,RV 154 [Enc.v r6.1,Enc.v r6.2])] [(b4,RL (α:=Int) 3 ([]:List Int)),(b3,RV 38 [Enc.v ((0:Int):Int),Enc.v ((0:Int):Int),Enc.v ((0:Int):Int),Enc.v ((0:Int):Int),OL (α:=Int) b4 ([]:List Int)])] rfl nd (dlt rfl) rfl ⟨rfl,⟨rfl,trivial⟩⟩ (ok_code_Reader_Int r6.1 r6.2 b7 (Nd.take nd 1 rfl) _ hr9) ?_
 rintro _ _ hQ nd
 obtain ⟨rfl,rfl⟩:=hQ
 refine P1 (p_bld (l:=[Enc.v r9.1,Enc.v ((0:Int):Int),Enc.v ((0:Int):Int),Enc.v ((0:Int):Int),.nils]) ty38 rfl all38 rfl (fun _=>⟨⟨rfl,trivial,rfl⟩,trivial⟩)) rfl rfl ?_
 refine TLc.alO (l:=[Enc.v ((0:Int):Int),Enc.v ((0:Int):Int),Enc.v ((0:Int):Int),Enc.v ((0:Int):Int),.nils]) nd ty38 ti38_z rfl rfl fun b11 nd=>?_
 refine TLc.stV (lu:=[Enc.v r9.1,Enc.v ((0:Int):Int),Enc.v ((0:Int):Int),Enc.v ((0:Int):Int),.nils]) nd ty38 rfl (j:=0) rfl rfl rfl (Cells_agg rfl (allA.mem ⟨trivial,trivial,trivial,trivial,trivial,trivial⟩)) rfl rfl [Enc.v r9.1,Enc.v ((0:Int):Int),Enc.v ((0:Int):Int),Enc.v ((0:Int):Int),.nils] rfl fun nd=>?_
 refine TL.nil (hK8 _ _ ?_)
 refine TK.ownC (α:=Int) nd (j:=0) rfl 4 3 (.inl rfl) fun b12 nd=>?_
 refine TK.seq_k fun K13 hK13=>?_
 refine SR fun K14 hK14=>P1 (p_faV fs38_1 Dc rfl nd (j:=1) rfl rfl) rfl rfl (P1 (p_faV fs38_2 Dc rfl nd (j:=1) rfl rfl) rfl rfl (P1 (p_faV fs38_3 Dc rfl nd (j:=1) rfl rfl) rfl rfl ?_))
 refine TLc.litR [.ref b11 1 5,.ref b11 2 5,.ref b11 3 5] kd135 ty134 rfl ⟨⟨rfl,rfl,refOK_of nd (j:=1) rfl rfl⟩,⟨rfl,rfl,refOK_of nd (j:=1) rfl rfl⟩,⟨rfl,rfl,refOK_of nd (j:=1) rfl rfl⟩,trivial⟩ rfl rfl rfl ?_
 refine P1 (p_lenR' kd135 rfl) rfl rfl (M rfl rfl (TL.nil (hK14 _ _ ?_)))
 refine TK.block ?_
 refine TK.unroll 16 ?_
 refine unr_s ?_
 refine SR fun K16 hK16=>P1 (p_lss rfl rfl) rfl rfl (TL.nil (hK16 _ _ ?_))
 refine TK.seq_k fun K17 hK17=>?_
 refine TK.cond (b:=true) rfl (fun _=>?_) (fun hc=>by simp at hc)
 refine TK.skip ?_
 refine hK17 _ _ ?_
 refine TK.seq_k fun K18 hK18=>?_
 refine TK.block ?_
 refine SR fun K19 hK19=>P1 (p_iaR kd135 ty134 rfl rfl rfl Dc Dc) rfl rfl (P1 (p_ldR (v:= .ref b11 1 5) ty134 rfl rfl rfl rfl rfl rfl) rfl rfl (M rfl rfl (TL.nil (hK19 _ _ ?_))))
 refine TK.reg ?_
 refine M rfl rfl (M rfl rfl ?_)
 obtain ⟨r20,hr20,hX⟩:=bind_some hX
 refine TL.pick [2,0,1,3,4] nd Dc fun nd=>?_
 refine TL.tcX [(b7,RV 154 [Enc.v r9.2.1,Enc.v r9.2.2])] [(b12,RL (α:=Int) 3 ([]:List Int)),(b11,RV 38 [Enc.v r9.1,Enc.v ((0:Int):Int),Enc.v ((0:Int):Int),Enc.v ((0:Int):Int),OL (α:=Int) b12 ([]:List Int)]),(b4,RL (α:=Int) 3 ([]:List Int)),(b3,RV 38 [Enc.v ((0:Int):Int),Enc.v ((0:Int):Int),Enc.v ((0:Int):Int),Enc.v ((0:Int):Int),OL (α:=Int) b4 ([]:List Int)])] rfl nd (dlt rfl) rfl ⟨rfl,⟨rfl,trivial⟩⟩ (ok_code_Reader_Byte r9.2.1 r9.2.2 b7 (Nd.take nd 1 rfl) _ hr20) ?_
 rintro _ _ hQ nd
 obtain ⟨rfl,rfl⟩:=hQ
 refine P1 (p_cvt src5 kd3 rfl (cv_8 r20.1)) rfl rfl (P1 (p_ncR rfl (fun _=>refOK_of nd (j:=2) rfl rfl)) rfl rfl ?_)
 refine TLc.stV (lu:=Enc.cl ((r20.1.toNat:Int):Int)) nd ty3 rfl (j:=2) rfl rfl rfl (Cells_v ((r20.1.toNat:Int):Int)) rfl rfl [Enc.v r9.1,Enc.v ((r20.1.toNat:Int):Int),Enc.v ((0:Int):Int),Enc.v ((0:Int):Int),OL (α:=Int) b12 ([]:List Int)] rfl fun nd=>?_
 refine TL.nil (hK18 _ _ ?_)
 refine TK.reg ?_
 refine P1 (p_add rfl rfl) rfl rfl (M rfl rfl (TL.nil ?_))
 try dsimp only[thenQ]
 refine unr_s ?_
 refine SR fun K22 hK22=>P1 (p_lss rfl rfl) rfl rfl (TL.nil (hK22 _ _ ?_))
 refine TK.seq_k fun K23 hK23=>?_
 refine TK.cond (b:=true) rfl (fun _=>?_) (fun hc=>by simp at hc)
 refine TK.skip ?_
 refine hK23 _ _ ?_
 refine TK.seq_k fun K24 hK24=>?_
 refine TK.block ?_
 refine SR fun K25 hK25=>P1 (p_iaR kd135 ty134 rfl rfl rfl Dc Dc) rfl rfl (P1 (p_ldR (v:= .ref b11 2 5) ty134 rfl rfl rfl rfl rfl rfl) rfl rfl (M rfl rfl (TL.nil (hK25 _ _ ?_))))
 refine TK.reg ?_
 refine M rfl rfl (M rfl rfl ?_)
 obtain ⟨r26,hr26,hX⟩:=bind_some hX
 refine TL.tcX [(b7,RV 154 [Enc.v r20.2.1,Enc.v r20.2.2])] [(b12,RL (α:=Int) 3 ([]:List Int)),(b11,RV 38 [Enc.v r9.1,Enc.v ((r20.1.toNat:Int):Int),Enc.v ((0:Int):Int),Enc.v ((0:Int):Int),OL (α:=Int) b12 ([]:List Int)]),(b4,RL (α:=Int) 3 ([]:List Int)),(b3,RV 38 [Enc.v ((0:Int):Int),Enc.v ((0:Int):Int),Enc.v ((0:Int):Int),Enc.v ((0:Int):Int),OL (α:=Int) b4 ([]:List Int)])] rfl nd (dlt rfl) rfl ⟨rfl,⟨rfl,trivial⟩⟩ (ok_code_Reader_Byte r20.2.1 r20.2.2 b7 (Nd.take nd 1 rfl) _ hr26) ?_
 rintro _ _ hQ nd
 obtain ⟨rfl,rfl⟩:=hQ
 refine P1 (p_cvt src5 kd3 rfl (cv_8 r26.1)) rfl rfl (P1 (p_ncR rfl (fun _=>refOK_of nd (j:=2) rfl rfl)) rfl rfl ?_)
 refine TLc.stV (lu:=Enc.cl ((r26.1.toNat:Int):Int)) nd ty3 rfl (j:=2) rfl rfl rfl (Cells_v ((r26.1.toNat:Int):Int)) rfl rfl [Enc.v r9.1,Enc.v ((r20.1.toNat:Int):Int),Enc.v ((r26.1.toNat:Int):Int),Enc.v ((0:Int):Int),OL (α:=Int) b12 ([]:List Int)] rfl fun nd=>?_
 refine TL.nil (hK24 _ _ ?_)
 refine TK.reg ?_
 refine P1 (p_add rfl rfl) rfl rfl (M rfl rfl (TL.nil ?_))
 try dsimp only[thenQ]
 refine unr_s ?_
 refine SR fun K28 hK28=>P1 (p_lss rfl rfl) rfl rfl (TL.nil (hK28 _ _ ?_))
 refine TK.seq_k fun K29 hK29=>?_
 refine TK.cond (b:=true) rfl (fun _=>?_) (fun hc=>by simp at hc)
 refine TK.skip ?_
 refine hK29 _ _ ?_
 refine TK.seq_k fun K30 hK30=>?_
 refine TK.block ?_
 refine SR fun K31 hK31=>P1 (p_iaR kd135 ty134 rfl rfl rfl Dc Dc) rfl rfl (P1 (p_ldR (v:= .ref b11 3 5) ty134 rfl rfl rfl rfl rfl rfl) rfl rfl (M rfl rfl (TL.nil (hK31 _ _ ?_))))
 refine TK.reg ?_
 refine M rfl rfl (M rfl rfl ?_)
 obtain ⟨r32,hr32,hX⟩:=bind_some hX
 refine TL.tcX [(b7,RV 154 [Enc.v r26.2.1,Enc.v r26.2.2])] [(b12,RL (α:=Int) 3 ([]:List Int)),(b11,RV 38 [Enc.v r9.1,Enc.v ((r20.1.toNat:Int):Int),Enc.v ((r26.1.toNat:Int):Int),Enc.v ((0:Int):Int),OL (α:=Int) b12 ([]:List Int)]),(b4,RL (α:=Int) 3 ([]:List Int)),(b3,RV 38 [Enc.v ((0:Int):Int),Enc.v ((0:Int):Int),Enc.v ((0:Int):Int),Enc.v ((0:Int):Int),OL (α:=Int) b4 ([]:List Int)])] rfl nd (dlt rfl) rfl ⟨rfl,⟨rfl,trivial⟩⟩ (ok_code_Reader_Byte r26.2.1 r26.2.2 b7 (Nd.take nd 1 rfl) _ hr32) ?_
 rintro _ _ hQ nd
 obtain ⟨rfl,rfl⟩:=hQ
 refine P1 (p_cvt src5 kd3 rfl (cv_8 r32.1)) rfl rfl (P1 (p_ncR rfl (fun _=>refOK_of nd (j:=2) rfl rfl)) rfl rfl ?_)
 refine TLc.stV (lu:=Enc.cl ((r32.1.toNat:Int):Int)) nd ty3 rfl (j:=2) rfl rfl rfl (Cells_v ((r32.1.toNat:Int):Int)) rfl rfl [Enc.v r9.1,Enc.v ((r20.1.toNat:Int):Int),Enc.v ((r26.1.toNat:Int):Int),Enc.v ((r32.1.toNat:Int):Int),OL (α:=Int) b12 ([]:List Int)] rfl fun nd=>?_
 refine TL.nil (hK30 _ _ ?_)
 refine TK.reg ?_
 refine P1 (p_add rfl rfl) rfl rfl (M rfl rfl (TL.nil ?_))
 try dsimp only[thenQ]
 refine unr_s ?_
 refine SR fun K34 hK34=>P1 (p_lss rfl rfl) rfl rfl (TL.nil (hK34 _ _ ?_))
 refine TK.seq_k fun K35 hK35=>?_
 refine TK.cond (b:=false) rfl (fun hc=>by simp at hc) (fun _=>?_)
 refine TK.exit ?_
 refine hK13 _ _ ?_
 refine TK.seq_k fun K36 hK36=>?_
 refine TK.block ?_
 obtain ⟨o37,hO37,hA37⟩:=bind_some hX
 have E37:∀(c53:(List UInt8)) (c54:Bool) (c56:Int) (c57:Int) (c58:Int) (c59:Int) (l61:List Int) (env:Env) (h:Hp),(∃b51 b50 b52 b60 b55,keepE [2,4,5] env=[(2,true,.ref b50 0 5),(4,true,.ref b52 0 2),(5,true,.ref b55 0 5)]∧Nd [(b51,RL (α:=Int) 3 ([]:List Int)),(b50,RV 38 [Enc.v ((0:Int):Int),Enc.v ((0:Int):Int),Enc.v ((0:Int):Int),Enc.v ((0:Int):Int),OL (α:=Int) b51 ([]:List Int)]),(b52,RV 154 [Enc.v c53,Enc.v c54]),(b60,RL (α:=Int) 3 l61),(b55,RV 38 [Enc.v c56,Enc.v c57,Enc.v c58,Enc.v c59,OL b60 l61])]∧HSub [(b51,RL (α:=Int) 3 ([]:List Int)),(b50,RV 38 [Enc.v ((0:Int):Int),Enc.v ((0:Int):Int),Enc.v ((0:Int):Int),Enc.v ((0:Int):Int),OL (α:=Int) b51 ([]:List Int)]),(b52,RV 154 [Enc.v c53,Enc.v c54]),(b60,RL (α:=Int) 3 l61),(b55,RV 38 [Enc.v c56,Enc.v c57,Enc.v c58,Enc.v c59,OL b60 l61])] h)→X.record_ReadSeal_e37 c53 c54 c56 c57 c58 c59 l61=some r→K36 env h:=by
  intro c53 c54 c56 c57 c58 c59 l61 env h hE hX
  obtain ⟨b51,b50,b52,b60,b55,henv,nd,hs⟩:=hE
  unfold X.record_ReadSeal_e37 at hX
  refine hK36 _ _ (TK.keep [2,4,5] ?_)
  rw[henv]
  refine TK.subH hs ?_
  refine TK.seq_k fun K62 hK62=>?_
  refine SR fun K63 hK63=>M rfl rfl ?_
  obtain ⟨r64,hr64,hX⟩:=bind_some hX
  refine TL.lookX [.vref (ofL [Enc.v c53,Enc.v c54]) 2 0] rfl rfl rfl (fun _=>⟨rfl,⟨rfl,trivial⟩⟩) ⟨look_ref (l:=[Enc.v c53,Enc.v c54]) nd (j:=2) rfl ⟨look_v (v:=Enc.v c53) (v_val _),look_v (v:=Enc.v c54) (v_val _),trivial⟩,trivial⟩ (fun e=>ok_code_Reader_Bad c53 c54 _ hr64) (trivial) ?_
  refine M rfl rfl ?_
  refine TL.layR (l2':=[Enc.v c56,Enc.v c57,Enc.v c58,Enc.v c59,Enc.v l61]) [] nd (j:=3) rfl 4 rfl rfl ⟨fix_id _,fix_id _,fix_id _,fix_id _,fix_OL nd (j:=3) rfl,trivial⟩ trivial fun nd=>?_
  refine TLc.p (gc:=(!r64)) (p_ldVa (l':=Enc.cl ((Seal_api.mk c56 c57 c58 c59 l61):Seal_api)) ty38 rfl rfl nd (j:=3) rfl rfl rfl rfl (Nat.le_of_ble_eq_true rfl) (hg:=fun e=>rfl)) (gcF1 rfl) rfl ?_
  obtain ⟨r65,hr65,hX⟩:=bind_some hX
  refine TL.cvX (gcF1 rfl) rfl rfl (fun e=>⟨rfl,⟨e,trivial⟩⟩) (fun e=>ok_record_RightSeal (Seal_api.mk c56 c57 c58 c59 l61) _ (optG_t hr65 e)) ?_
  refine TLc.p (gc:=(!r64)) (p_not rfl (hg:=fun e=>e)) (gcF1 rfl) rfl ?_
  refine P1 (p_or rfl rfl (fun e=>⟨rfl,fun h=>(not_t h)⟩)) rfl rfl (TL.nil (hK63 _ _ ?_))
  refine TK.cond (b:=(r64||(!r65))) rfl (fun hc=>?_) (fun hc=>?_)
  ·have hX:=ite_t hc hX
   refine SR fun K66 hK66=>P1 (p_bld (l:=[Enc.v ((0:Int):Int),Enc.v ((0:Int):Int),Enc.v ((0:Int):Int),Enc.v ((0:Int):Int),.nils]) ty38 rfl all38 rfl (fun _=>trivial)) rfl rfl ?_
   refine TLc.stV (lu:=[Enc.v ((0:Int):Int),Enc.v ((0:Int):Int),Enc.v ((0:Int):Int),Enc.v ((0:Int):Int),.nils]) nd ty38 rfl (j:=1) rfl rfl rfl (Cells_agg rfl (allA.mem ⟨trivial,trivial,trivial,trivial,trivial,trivial⟩)) rfl rfl [Enc.v ((0:Int):Int),Enc.v ((0:Int):Int),Enc.v ((0:Int):Int),Enc.v ((0:Int):Int),.nils] rfl fun nd=>?_
   refine M rfl rfl (TL.nil (hK66 _ _ ?_))
   refine TK.ownC (α:=Int) nd (j:=1) rfl 4 3 (.inl rfl) fun b67 nd=>?_
   refine TK.layR (l2':=[Enc.v ((0:Int):Int),Enc.v ((0:Int):Int),Enc.v ((0:Int):Int),Enc.v ((0:Int):Int),Enc.v (([]:List Int):(List Int))]) [] nd (j:=0) rfl 2 rfl rfl ⟨fix_id _,fix_id _,fix_id _,fix_id _,fix_OL nd (j:=0) rfl,trivial⟩ trivial fun nd=>?_
   refine TK.ret ?_
   try dsimp only[thenQ]
   exact retC [Enc.v ((Seal_api.mk (0:Int) (0:Int) (0:Int) (0:Int) ([]:List Int)):Seal_api),Enc.v ((2:Int):Int)] ⟨p_ldVa (l':=Enc.cl ((Seal_api.mk (0:Int) (0:Int) (0:Int) (0:Int) ([]:List Int)):Seal_api)) ty38 rfl rfl nd (j:=1) rfl rfl rfl rfl (Nat.le_of_ble_eq_true rfl),p_mv rfl,trivial⟩ (by obtain rfl:=some_in hX;rfl) (tup_val (allVal.mem ⟨v_val _,v_val _,trivial⟩))
  ·have hX:=ite_f hc hX
   refine TK.skip ?_
   refine hK62 _ _ (SR fun K68 hK68=>P1 (p_ldVa (l':=Enc.cl ((Seal_api.mk c56 c57 c58 c59 l61):Seal_api)) ty38 rfl rfl nd (j:=3) rfl rfl rfl rfl (Nat.le_of_ble_eq_true rfl)) rfl rfl ?_)
   refine TLc.stV (lu:=Enc.cl ((Seal_api.mk c56 c57 c58 c59 l61):Seal_api)) nd ty38 rfl (j:=1) rfl rfl rfl (Cells_v ((Seal_api.mk c56 c57 c58 c59 l61):Seal_api)) rfl rfl [Enc.v ((Seal_api.mk c56 c57 c58 c59 l61).Number:Int),Enc.v ((Seal_api.mk c56 c57 c58 c59 l61).Index:Int),Enc.v ((Seal_api.mk c56 c57 c58 c59 l61).Data:Int),Enc.v ((Seal_api.mk c56 c57 c58 c59 l61).Parity:Int),Enc.v ((Seal_api.mk c56 c57 c58 c59 l61).Labels:(List Int))] rfl fun nd=>?_
   refine M rfl rfl (TL.nil (hK68 _ _ ?_))
   refine TK.ret ?_
   try dsimp only[thenQ]
   exact retC [Enc.v ((Seal_api.mk c56 c57 c58 c59 l61):Seal_api),Enc.v ((0:Int):Int)] ⟨p_ldVa (l':=Enc.cl ((Seal_api.mk c56 c57 c58 c59 l61):Seal_api)) ty38 rfl rfl nd (j:=1) rfl rfl rfl rfl (Nat.le_of_ble_eq_true rfl),p_mv rfl,trivial⟩ (by obtain rfl:=some_in hX;rfl) (tup_val (allVal.mem ⟨v_val _,v_val _,trivial⟩))
 refine TK.iter [2,4,5] (fun s env h=>match s with|(c41,c42,c44,c45,c46,c47,l49)=>∃b39 b38 b40 b48 b43,env=[(2,true,.ref b38 0 5),(4,true,.ref b40 0 2),(5,true,.ref b43 0 5)]∧Nd [(b39,RL (α:=Int) 3 ([]:List Int)),(b38,RV 38 [Enc.v ((0:Int):Int),Enc.v ((0:Int):Int),Enc.v ((0:Int):Int),Enc.v ((0:Int):Int),OL (α:=Int) b39 ([]:List Int)]),(b40,RV 154 [Enc.v c41,Enc.v c42]),(b48,RL (α:=Int) 3 l49),(b43,RV 38 [Enc.v c44,Enc.v c45,Enc.v c46,Enc.v c47,OL b48 l49])]∧HSub [(b39,RL (α:=Int) 3 ([]:List Int)),(b38,RV 38 [Enc.v ((0:Int):Int),Enc.v ((0:Int):Int),Enc.v ((0:Int):Int),Enc.v ((0:Int):Int),OL (α:=Int) b39 ([]:List Int)]),(b40,RV 154 [Enc.v c41,Enc.v c42]),(b48,RL (α:=Int) 3 l49),(b43,RV 38 [Enc.v c44,Enc.v c45,Enc.v c46,Enc.v c47,OL b48 l49])] h) hO37 ⟨b4,b3,b7,b12,b11,rfl,(Nd.pick nd (is:=[3,4,0,1,2]) Dc),(HSub.pick nd (is:=[3,4,0,1,2]) Dc)⟩ ?_
 rintro ⟨c41,c42,c44,c45,c46,c47,l49⟩ env h x37x ⟨b39,b38,b40,b48,b43,rfl,nd,hs⟩ hX hR37
 refine TK.subH hs ?_
 unfold X.record_ReadSeal_s37 at hX
 try dsimp only at hX
 refine TK.seq_k fun K69 hK69=>?_
 refine SR fun K70 hK70=>M rfl rfl ?_
 obtain ⟨r71,hr71,hX⟩:=bind_some hX
 refine TL.lookX [.vref (ofL [Enc.v c41,Enc.v c42]) 2 0] rfl rfl rfl (fun _=>⟨rfl,⟨rfl,trivial⟩⟩) ⟨look_ref (l:=[Enc.v c41,Enc.v c42]) nd (j:=2) rfl ⟨look_v (v:=Enc.v c41) (v_val _),look_v (v:=Enc.v c42) (v_val _),trivial⟩,trivial⟩ (fun e=>ok_code_Reader_Left c41 c42 _ hr71) (trivial) ?_
 refine P1 (p_gtr rfl rfl) rfl rfl (TL.nil (hK70 _ _ ?_))
 refine TK.cond (b:=(decide (r71>(0:Int)))) rfl (fun hc=>?_) (fun hc=>?_)
 ·have hX:=ite_t hc hX
  refine TK.skip ?_
  refine hK69 _ _ ?_
  refine TK.block ?_
  refine TK.pick [2,3,0,1,4] nd Dc fun nd=>?_
  have ndS:Nd [(b39,RL (α:=Int) 3 ([]:List Int)),(b38,RV 38 [Enc.v ((0:Int):Int),Enc.v ((0:Int):Int),Enc.v ((0:Int):Int),Enc.v ((0:Int):Int),OL (α:=Int) b39 ([]:List Int)]),(b43,RV 38 [Enc.v c44,Enc.v c45,Enc.v c46,Enc.v c47,OL b48 l49])]:=Nd.pick nd (is:=[2,3,4]) Dc
  refine TK.drwX (h:=[(b40,RV 154 [Enc.v c41,Enc.v c42]),(b48,RL (α:=Int) 3 l49)]) (hS:=[(b39,RL (α:=Int) 3 ([]:List Int)),(b38,RV 38 [Enc.v ((0:Int):Int),Enc.v ((0:Int):Int),Enc.v ((0:Int):Int),Enc.v ((0:Int):Int),OL (α:=Int) b39 ([]:List Int)]),(b43,RV 38 [Enc.v c44,Enc.v c45,Enc.v c46,Enc.v c47,OL b48 l49])]) [(0,0),(0,1),(0,2),(2,3),(0,4),(2,5),(0,6),(3,7)] mixed (by kernel_rfl) (HSub_app nd) ?_
  refine D0 rfl (p_faV fs38_4 Dc rfl ndS (j:=2) rfl rfl) rfl rfl ?_
  refine D0 rfl (p_ldV (v:=OL b48 l49) ty36 rfl rfl ndS (j:=2) rfl rfl rfl rfl rfl) rfl rfl ?_
  refine DM rfl rfl rfl ?_
  obtain ⟨r72,hr72,hX⟩:=bind_some hX
  refine DR2 rfl rfl ?_
  refine TL.tcX [(b40,RV 154 [Enc.v c41,Enc.v c42])] [(b48,RL (α:=Int) 3 l49),(b39,RL (α:=Int) 3 ([]:List Int)),(b38,RV 38 [Enc.v ((0:Int):Int),Enc.v ((0:Int):Int),Enc.v ((0:Int):Int),Enc.v ((0:Int):Int),OL (α:=Int) b39 ([]:List Int)]),(b43,RV 38 [Enc.v c44,Enc.v c45,Enc.v c46,Enc.v c47,OL b48 l49])] rfl nd (dlt rfl) rfl ⟨rfl,⟨rfl,trivial⟩⟩ (ok_code_Reader_Int c41 c42 b40 (Nd.take nd 1 rfl) _ hr72) ?_
  rintro _ _ hQ nd
  obtain ⟨rfl,rfl⟩:=hQ
  refine TL.nil ⟨_,[(b40,RV 154 [Enc.v r72.2.1,Enc.v r72.2.2]),(b48,RL (α:=Int) 3 l49)],rfl,rfl,HSub_app nd,?_⟩
  refine DR0 (gc:=true) rfl (vok_lit (C:=cx) ([r72.1]:List Int) kd36 ty3 rfl ⟨⟨rfl,rfl⟩,trivial⟩ rfl rfl) rfl rfl ?_
  obtain ⟨u74,hu74,hX⟩:=bind_some hX
  refine DR2 rfl rfl ?_
  refine TLc.appO nd kd36 bo36 ty3 rfl rfl (j:=1) rfl rfl (Src_L _) Dc (need_t hu74) rfl fun nd=>?_
  refine TL.nil ⟨_,[(b40,RV 154 [Enc.v r72.2.1,Enc.v r72.2.2]),(b48,RL (α:=Int) 3 (l49++([r72.1]:List Int)))],rfl,rfl,HSub_app nd,?_⟩
  refine D0 rfl (p_faV fs38_4 Dc rfl ndS (j:=2) rfl rfl) rfl rfl ?_
  refine DR3n rfl ?_
  refine TLc.stV (lu:=[OL (α:=Int) b48 (l49++([r72.1]:List Int))]) nd ty36 rfl (j:=4) rfl rfl rfl (Cells_rs (refOK_of nd (j:=1) rfl rfl)) rfl rfl [Enc.v c44,Enc.v c45,Enc.v c46,Enc.v c47,OL (α:=Int) b48 (l49++([r72.1]:List Int))] rfl fun nd=>?_
  refine TL.nil ⟨rfl,?_⟩
  refine DRende ?_
  exact ⟨_,(some_in hX).symm,b39,b38,b40,b48,b43,rfl,(Nd.pick nd (is:=[2,3,0,1,4]) Dc),(HSub.pick nd (is:=[2,3,0,1,4]) Dc)⟩
 ·have hX:=ite_f hc hX
  refine TK.exit ?_
  obtain rfl:=hR37 _ (some_in hX).symm
  exact E37 c41 c42 c44 c45 c46 c47 l49 _ _ ⟨b39,b38,b40,b48,b43,rfl,(Nd.pick nd (is:=[0,1,2,3,4]) Dc),(HSub.pick nd (is:=[0,1,2,3,4]) Dc)⟩ hA37
theorem bc_volume_Sealed:BodyC cx 30 34 [.c 2 38,.t 3] k30:=⟨Enters.of Tryz.func30 (by kernel_rfl) (by kernel_rfl),_,_,Tryz.func30,rfl,by kernel_rfl,rfl,rfl⟩
theorem ok_volume_Sealed (t1:Tape_api) (r:(Seal_api×Bool)) (hX:X.volume_Sealed t1=some r):Fun Tryz.prog 30 [Enc.v (t1:Tape_api)] (·= .tup 2 (ofL [Enc.v r.1,Enc.v r.2])):=by
 refine Fun.ofC (C:=cx) bc_volume_Sealed (Nat.le_of_ble_eq_true rfl) (allVal.mem ⟨(by exact (v_val _)),trivial⟩) ?_
 unfold k30
 have nd:Nd []:=Nd_nil
 unfold X.volume_Sealed at hX
 refine SR fun K2 hK2=>?_
 refine TLc.boxV (lu:=[Enc.v t1.Label,Enc.v t1.Cap,Enc.v t1.Blocks,Enc.v t1.Lost]) nd rfl (Cells_v (t1:Tape_api)) rfl ?_
 refine TLc.alO (l:=[Enc.v ((0:Int):Int),Enc.v ((0:Int):Int),Enc.v ((0:Int):Int),Enc.v ((0:Int):Int),.nils]) nd ty38 ti38_z rfl rfl fun b3 nd=>?_
 refine M rfl rfl (TL.nil (hK2 _ _ ?_))
 refine TK.cvR nd (j:=0) rfl (l':=[Enc.v ((0:Int):Int),Enc.v ((0:Int):Int),Enc.v ((0:Int):Int),Enc.v ((0:Int):Int),Enc.v (([]:(List Int)):(List Int))]) ⟨Wk.refl _,Wk.refl _,Wk.refl _,Wk.refl _,Wk_nil,trivial⟩ fun nd=>?_
 refine SR fun K4 hK4=>P1 (p_ldRa (l':=Enc.cl (t1:Tape_api)) ty49 rfl rfl rfl rfl rfl (Nat.le_of_ble_eq_true rfl)) rfl rfl (P1 (p_faR fs49_2 Dc rfl) rfl rfl (P1 (p_ldR (v:=Enc.v t1.Blocks) ty47 rfl rfl rfl rfl rfl rfl) rfl rfl (P1 (p_lenL (xs:=t1.Blocks) kd47 rfl) rfl rfl (P1 (p_sub rfl rfl) rfl rfl ?_))))
 obtain ⟨r5,hr5,hX⟩:=bind_some hX
 refine TL.cvX rfl rfl rfl (fun _=>⟨rfl,⟨rfl,⟨rfl,trivial⟩⟩⟩) (fun e=>ok_volume_Good t1 (wr ((t1.Blocks.length:Int)-(1:Int))) _ hr5) ?_
 refine M rfl rfl (P1 (p_ex rfl rfl Dc) rfl rfl (P1 (p_ex rfl rfl Dc) rfl rfl ?_))
 refine TLc.alO (l:=[Enc.v ((0:Int):Int),Enc.v ((0:Int):Int),Enc.v ((0:Int):Int),.nils]) nd ty46 ti46_z rfl rfl fun b6 nd=>?_
 refine TLc.stV (lu:=Enc.cl (r5.1:Unit_api)) nd ty46 rfl (j:=0) rfl rfl rfl (Cells_v (r5.1:Unit_api)) rfl rfl [Enc.v r5.1.Kind,Enc.v r5.1.Label,Enc.v r5.1.Number,Enc.v r5.1.Load] rfl fun nd=>?_
 refine M rfl rfl (TL.nil (hK4 _ _ ?_))
 refine TK.seq_k fun K7 hK7=>?_
 refine SR fun K8 hK8=>M rfl rfl (P1 (p_not rfl) rfl rfl (M rfl rfl ?_))
 refine TLc.p (gc:=(!((!r5.2)))) (p_faV fs46_0 Dc rfl nd (j:=0) rfl rfl (hg:=fun e=>rfl)) (gcF1 rfl) rfl ?_
 refine TLc.p (gc:=(!((!r5.2)))) (p_ldV (v:=Enc.v r5.1.Kind) ty3 rfl rfl nd (j:=0) rfl rfl rfl rfl rfl (hg:=fun e=>e)) (gcF1 rfl) rfl ?_
 refine TLc.p (gc:=(!((!r5.2)))) (p_neq rfl rfl (hg:=fun e=>⟨e,rfl⟩)) (gcF1 rfl) rfl ?_
 refine P1 (p_or rfl rfl (fun e=>⟨rfl,fun h=>(not_t h)⟩)) rfl rfl (TL.nil (hK8 _ _ ?_))
 refine TK.cond (b:=((!r5.2)||(r5.1.Kind !=(5:Int)))) rfl (fun hc=>?_) (fun hc=>?_)
 ·have hX:=ite_t hc hX
  refine SR fun K9 hK9=>?_
  refine TLc.p (gc:=true) (p_bld (l:=[Enc.v ((0:Int):Int),Enc.v ((0:Int):Int),Enc.v ((0:Int):Int),Enc.v ((0:Int):Int),.nils]) ty38 rfl all38 rfl (fun _=>trivial)) rfl rfl (TL.wk (v':=Enc.v ((Seal_api.mk (0:Int) (0:Int) (0:Int) (0:Int) ([]:(List Int))):Seal_api)) (Wk_agg ⟨Wk.refl _,Wk.refl _,Wk.refl _,Wk.refl _,Wk_nil,trivial⟩) ?_)
  refine TLc.stV (lu:=Enc.cl ((Seal_api.mk (0:Int) (0:Int) (0:Int) (0:Int) ([]:(List Int))):Seal_api)) nd ty38 rfl (j:=1) rfl rfl rfl (Cells_v ((Seal_api.mk (0:Int) (0:Int) (0:Int) (0:Int) ([]:(List Int))):Seal_api)) rfl rfl [Enc.v ((Seal_api.mk (0:Int) (0:Int) (0:Int) (0:Int) ([]:(List Int))).Number:Int),Enc.v ((Seal_api.mk (0:Int) (0:Int) (0:Int) (0:Int) ([]:(List Int))).Index:Int),Enc.v ((Seal_api.mk (0:Int) (0:Int) (0:Int) (0:Int) ([]:(List Int))).Data:Int),Enc.v ((Seal_api.mk (0:Int) (0:Int) (0:Int) (0:Int) ([]:(List Int))).Parity:Int),Enc.v ((Seal_api.mk (0:Int) (0:Int) (0:Int) (0:Int) ([]:(List Int))).Labels:(List Int))] rfl fun nd=>?_
  refine M rfl rfl (TL.nil (hK9 _ _ ?_))
  refine TK.ret ?_
  try dsimp only[thenQ]
  exact retC [Enc.v ((Seal_api.mk (0:Int) (0:Int) (0:Int) (0:Int) ([]:(List Int))):Seal_api),Enc.v false] ⟨p_ldVa (l':=Enc.cl ((Seal_api.mk (0:Int) (0:Int) (0:Int) (0:Int) ([]:(List Int))):Seal_api)) ty38 rfl rfl nd (j:=1) rfl rfl rfl rfl (Nat.le_of_ble_eq_true rfl),p_mv rfl,trivial⟩ (by obtain rfl:=some_in hX;rfl) (tup_val (allVal.mem ⟨v_val _,v_val _,trivial⟩))
 ·have hX:=ite_f hc hX
  refine TK.skip ?_
  refine hK7 _ _ (SR fun K10 hK10=>P1 (p_faV fs46_3 Dc rfl nd (j:=0) rfl rfl) rfl rfl (P1 (p_ldV (v:=Enc.v r5.1.Load) ty42 rfl rfl nd (j:=0) rfl rfl rfl rfl rfl) rfl rfl ?_))
  obtain ⟨r11,hr11,hX⟩:=bind_some hX
  refine TL.cvX rfl rfl rfl (fun _=>⟨rfl,⟨rfl,trivial⟩⟩) (fun e=>ok_record_ReadSeal r5.1.Load _ hr11) ?_
  refine M rfl rfl (P1 (p_ex rfl rfl Dc) rfl rfl (P1 (p_ex rfl rfl Dc) rfl rfl ?_))
  refine TLc.alO (l:=[Enc.v ((0:Int):Int),Enc.v ((0:Int):Int),Enc.v ((0:Int):Int),Enc.v ((0:Int):Int),.nils]) nd ty38 ti38_z rfl rfl fun b12 nd=>?_
  refine TLc.stV (lu:=Enc.cl (r11.1:Seal_api)) nd ty38 rfl (j:=0) rfl rfl rfl (Cells_v (r11.1:Seal_api)) rfl rfl [Enc.v r11.1.Number,Enc.v r11.1.Index,Enc.v r11.1.Data,Enc.v r11.1.Parity,Enc.v r11.1.Labels] rfl fun nd=>?_
  refine M rfl rfl (TL.nil (hK10 _ _ (SR fun K13 hK13=>P1 (p_ldVa (l':=Enc.cl (r11.1:Seal_api)) ty38 rfl rfl nd (j:=0) rfl rfl rfl rfl (Nat.le_of_ble_eq_true rfl)) rfl rfl (M rfl rfl (P1 (p_eql rfl rfl) rfl rfl ?_)))))
  refine TLc.stV (lu:=Enc.cl (r11.1:Seal_api)) nd ty38 rfl (j:=2) rfl rfl rfl (Cells_v (r11.1:Seal_api)) rfl rfl [Enc.v r11.1.Number,Enc.v r11.1.Index,Enc.v r11.1.Data,Enc.v r11.1.Parity,Enc.v r11.1.Labels] rfl fun nd=>?_
  refine M rfl rfl (TL.nil (hK13 _ _ ?_))
  refine TK.ret ?_
  try dsimp only[thenQ]
  exact retC [Enc.v r11.1,Enc.v ((r11.2==(0:Int)):Bool)] ⟨p_ldVa (l':=Enc.cl (r11.1:Seal_api)) ty38 rfl rfl nd (j:=2) rfl rfl rfl rfl (Nat.le_of_ble_eq_true rfl),p_mv rfl,trivial⟩ (by obtain rfl:=some_in hX;rfl) (tup_val (allVal.mem ⟨v_val _,v_val _,trivial⟩))
theorem ok_slices_IndexFunc_Lapi_Seal_api_Seal (s1:(List Seal_api)) (g2:Seal_api→Option Bool) (r:Int) (hX:X.slices_IndexFunc_Lapi_Seal_api_Seal s1 g2=some r) {g2V:AV} (hg2V:∃f m c,g2V= .fn f m c∧(∀i,i<m→(c i).val)∧∀(a0:Seal_api) r,g2 a0=some r→Fun Tryz.prog f ([Enc.v a0]++(List.range m).map c) (·=Enc.v r)):Fun Tryz.prog 63 [Enc.v (s1:(List Seal_api)),g2V] (·=Enc.v (r:Int)):=by
 obtain ⟨g2f,g2m,g2c,rfl,hg2v,hg2⟩:=hg2V
 refine Fun.of b63 (Nat.le_of_ble_eq_true rfl) (allVal.mem ⟨(by exact (v_val _)),hg2v,trivial⟩) ?_
 unfold k63
 have nd:Nd []:=Nd_nil
 unfold X.slices_IndexFunc_Lapi_Seal_api_Seal at hX
 refine SR fun K3 hK3=>M rfl rfl (TL.nil (hK3 _ _ ?_))
 refine TK.seq_k fun K4 hK4=>?_
 refine SR fun K5 hK5=>M rfl rfl (P1 (p_lenL (xs:=s1) kd33 rfl) rfl rfl (M rfl rfl (TL.nil (hK5 _ _ ?_))))
 refine TK.block ?_
 obtain ⟨o6,hO6,hA6⟩:=bind_some hX
 have E6:∀(env:Env) (h:Hp),(∃_u:Unit,keepE [] env=[]∧Nd []∧HSub [] h)→X.slices_IndexFunc_Lapi_Seal_api_Seal_e6=some r→K4 env h:=by
  intro env h hE hX
  obtain ⟨_u,henv,nd,hs⟩:=hE
  unfold X.slices_IndexFunc_Lapi_Seal_api_Seal_e6 at hX
  refine hK4 _ _ (TK.keep [] ?_)
  rw[henv]
  refine TK.subH hs ?_
  refine SR fun K8 hK8=>M rfl rfl (TL.nil (hK8 _ _ ?_))
  refine TK.ret ?_
  try dsimp only[thenQ]
  exact R1 rfl hX
 refine TK.iter [0,1,7,8] (fun s env h=>match s with|x7=>∃_u:Unit,env=[(0,true,Enc.v s1),(1,true,.fn g2f g2m g2c),(7,true,Enc.v ((s1.length:Int):Int)),(8,true,Enc.v x7)]∧Nd []∧HSub [] h) hO6 ⟨(),rfl,Nd_nil,HSub.refl _⟩ ?_
 rintro x7 env h x6x ⟨_u,rfl,nd,hs⟩ hX hR6
 refine TK.subH hs ?_
 unfold X.slices_IndexFunc_Lapi_Seal_api_Seal_s6 at hX
 try dsimp only at hX
 refine SR fun K9 hK9=>P1 (p_lss rfl rfl) rfl rfl (TL.nil (hK9 _ _ ?_))
 refine TK.seq_k fun K10 hK10=>?_
 refine TK.cond (b:=(decide (x7<(s1.length:Int)))) rfl (fun hc=>?_) (fun hc=>?_)
 ·have hX:=ite_t hc hX
  refine TK.skip ?_
  refine hK10 _ _ ?_
  refine TK.seq_k fun K11 hK11=>?_
  refine TK.block ?_
  refine SR fun K12 hK12=>M rfl rfl (M rfl rfl (TL.nil (hK12 _ _ (SR fun K13 hK13=>M rfl rfl (M rfl rfl (M rfl rfl ?_))))))
  obtain ⟨e14,he14,hX⟩:=bind_some hX
  refine P1 (p_iaL (xs:=s1) kd33 ty38 rfl rfl rfl (fun _=>he14)) rfl rfl (P1 (p_ldE (xs:=s1) (a:=e14) (e14:Seal_api) ty38 rfl rfl (fun _=>he14) rfl rfl rfl) rfl rfl ?_)
  obtain ⟨r15,hr15,hX⟩:=bind_some hX
  refine TL.cvX rfl rfl rfl (fun _=>⟨rfl,⟨rfl,trivial⟩⟩) (fun e=>hg2 e14 _ hr15) ?_
  refine TL.nil (hK13 _ _ ?_)
  refine TK.cond (b:=r15) rfl (fun hc=>?_) (fun hc=>?_)
  ·have hX:=ite_t hc hX
   refine SR fun K16 hK16=>M rfl rfl (M rfl rfl (TL.nil (hK16 _ _ ?_)))
   refine TK.ret ?_
   obtain rfl:=hR6 _ (some_in hX).symm
   replace hX:=hA6
   try dsimp only[thenQ]
   exact R1 rfl hX
  ·have hX:=ite_f hc hX
   refine TK.skip ?_
   refine hK11 _ _ ?_
   refine TK.reg ?_
   refine P1 (p_add rfl rfl) rfl rfl (M rfl rfl (TL.nil ?_))
   exact ⟨_,(some_in hX).symm,(),rfl,Nd_nil,HSub.refl _⟩
 ·have hX:=ite_f hc hX
  refine TK.exit ?_
  obtain rfl:=hR6 _ (some_in hX).symm
  exact E6 _ _ ⟨(),rfl,Nd_nil,HSub.refl _⟩ hA6
theorem ok_slices_ContainsFunc_Lapi_Seal_api_Seal (s1:(List Seal_api)) (g2:Seal_api→Option Bool) (r:Bool) (hX:X.slices_ContainsFunc_Lapi_Seal_api_Seal s1 g2=some r) {g2V:AV} (hg2V:∃f m c,g2V= .fn f m c∧(∀i,i<m→(c i).val)∧∀(a0:Seal_api) r,g2 a0=some r→Fun Tryz.prog f ([Enc.v a0]++(List.range m).map c) (·=Enc.v r)):Fun Tryz.prog 31 [Enc.v (s1:(List Seal_api)),g2V] (·=Enc.v (r:Bool)):=by
 obtain ⟨g2f,g2m,g2c,rfl,hg2v,hg2⟩:=hg2V
 refine Fun.of b31 (Nat.le_of_ble_eq_true rfl) (allVal.mem ⟨(by exact (v_val _)),hg2v,trivial⟩) ?_
 unfold k31
 have nd:Nd []:=Nd_nil
 unfold X.slices_ContainsFunc_Lapi_Seal_api_Seal at hX
 refine SR fun K3 hK3=>M rfl rfl (TL.nil (hK3 _ _ (SR fun K4 hK4=>M rfl rfl (M rfl rfl ?_))))
 obtain ⟨r5,hr5,hX⟩:=bind_some hX
 refine TL.cvX rfl rfl rfl (fun _=>⟨rfl,⟨rfl,⟨rfl,trivial⟩⟩⟩) (fun e=>ok_slices_IndexFunc_Lapi_Seal_api_Seal s1 g2 _ hr5 ⟨_,_,_,rfl,hg2v,hg2⟩) ?_
 refine P1 (p_geq rfl rfl) rfl rfl (M rfl rfl (TL.nil (hK4 _ _ ?_)))
 refine TK.ret ?_
 try dsimp only[thenQ]
 exact R1 rfl hX
theorem ok_group_Find_c1 (x1:Seal_api) (c2:Int) (c3:Int) (c4:Int) (c5:Int) (c6:(List Int)) (r:Bool) (hX:X.group_Find_c1 x1 c2 c3 c4 c5 c6=some r):Fun Tryz.prog 32 [Enc.v (x1:Seal_api),.vref (ofL [Enc.v (c2:Int),Enc.v (c3:Int),Enc.v (c4:Int),Enc.v (c5:Int),Enc.v (c6:(List Int))]) 5 0] (·=Enc.v (r:Bool)):=by
 refine Fun.of b32 (Nat.le_of_ble_eq_true rfl) (allVal.mem ⟨(by exact (v_val _)),(by exact (vref_val (l:=[Enc.v (c2:Int),Enc.v (c3:Int),Enc.v (c4:Int),Enc.v (c5:Int),Enc.v (c6:(List Int))]) rfl ⟨(v_val _),(v_val _),(v_val _),(v_val _),(v_val _),trivial⟩)),trivial⟩) ?_
 unfold k32
 have nd:Nd []:=Nd_nil
 unfold X.group_Find_c1 at hX
 refine SR fun K7 hK7=>?_
 refine TLc.boxV (lu:=[Enc.v x1.Number,Enc.v x1.Index,Enc.v x1.Data,Enc.v x1.Parity,Enc.v x1.Labels]) nd rfl (Cells_v (x1:Seal_api)) rfl ?_
 refine M rfl rfl (TL.nil (hK7 _ _ (SR fun K8 hK8=>P1 (p_faR fs38_0 Dc rfl) rfl rfl (P1 (p_ldR (v:=Enc.v x1.Number) ty3 rfl rfl rfl rfl rfl rfl) rfl rfl (P1 (p_faR fs38_0 Dc rfl) rfl rfl (P1 (p_ldR (v:=Enc.v c2) ty3 rfl rfl rfl rfl rfl rfl) rfl rfl (P1 (p_eql rfl rfl) rfl rfl (M rfl rfl (TL.nil (hK8 _ _ ?_))))))))))
 refine TK.ret ?_
 try dsimp only[thenQ]
 exact R1 rfl hX
theorem ok_math_bits_Len64 (x1:UInt64) (r:Int) (hX:X.math_bits_Len64 x1=some r):Fun Tryz.prog 105 [Enc.v (x1:UInt64)] (·=Enc.v (r:Int)):=by
 refine Fun.of b105 (Nat.le_of_ble_eq_true rfl) (allVal.mem ⟨(by exact (v_val _)),trivial⟩) ?_
 unfold k105
 have nd:Nd []:=Nd_nil
 unfold X.math_bits_Len64 at hX
 refine SR fun K2 hK2=>M rfl rfl (TL.nil (hK2 _ _ ?_))
 refine TK.seq_k fun K3 hK3=>?_
 have J3:∀(x4:UInt64) (n5:Int) (env:Env) (h:Hp),(∃_u:Unit,keepE [0,2] env=[(0,true,Enc.v x4),(2,true,Enc.v n5)]∧Nd []∧HSub [] h)→X.math_bits_Len64_j3 x4 n5=some r→K3 env h:=by
  intro x4 n5 env h hE hX
  obtain ⟨_u,henv,nd,hs⟩:=hE
  unfold X.math_bits_Len64_j3 at hX
  refine hK3 _ _ (TK.keep [0,2] ?_)
  rw[henv]
  refine TK.subH hs ?_
  refine TK.seq_k fun K6 hK6=>?_
  have J6:∀(x7:UInt64) (n8:Int) (env:Env) (h:Hp),(∃_u:Unit,keepE [0,2] env=[(0,true,Enc.v x7),(2,true,Enc.v n8)]∧Nd []∧HSub [] h)→X.math_bits_Len64_j6 x7 n8=some r→K6 env h:=by
   intro x7 n8 env h hE hX
   obtain ⟨_u,henv,nd,hs⟩:=hE
   unfold X.math_bits_Len64_j6 at hX
   refine hK6 _ _ (TK.keep [0,2] ?_)
   rw[henv]
   refine TK.subH hs ?_
   refine TK.seq_k fun K9 hK9=>?_
   have J9:∀(x10:UInt64) (n11:Int) (env:Env) (h:Hp),(∃_u:Unit,keepE [0,2] env=[(0,true,Enc.v x10),(2,true,Enc.v n11)]∧Nd []∧HSub [] h)→X.math_bits_Len64_j9 x10 n11=some r→K9 env h:=by
    intro x10 n11 env h hE hX
    obtain ⟨_u,henv,nd,hs⟩:=hE
    unfold X.math_bits_Len64_j9 at hX
    refine hK9 _ _ (TK.keep [0,2] ?_)
    rw[henv]
    refine TK.subH hs ?_
    refine SR fun K12 hK12=>M rfl rfl (M rfl rfl (P1 (p_cvt src108 kd5 rfl (cv_u8 _)) rfl rfl ?_))
    obtain ⟨x13,hx13,hX⟩:=bind_some hX
    refine P1 (p_ix kd9 rfl rfl (fun _=>hx13)) rfl rfl (P1 (p_cvt src5 kd3 rfl (cv_8 x13)) rfl rfl (P1 (p_add rfl rfl) rfl rfl (M rfl rfl (TL.nil (hK12 _ _ ?_)))))
    refine TK.ret ?_
    try dsimp only[thenQ]
    exact R1 rfl hX
   refine SR fun K14 hK14=>M rfl rfl (P1 (pu64_geq (a:=x7) (b:=(256:UInt64)) rfl rfl) rfl rfl (TL.nil (hK14 _ _ ?_)))
   refine TK.cond (b:=(decide (x7≥(256:UInt64)))) rfl (fun hc=>?_) (fun hc=>?_)
   ·have hX:=ite_t hc hX
    refine SR fun K15 hK15=>M rfl rfl (P1 (pu64_shr (a:=x7) (b:=8) rfl rfl) rfl rfl (M rfl rfl (TL.nil (hK15 _ _ ?_))))
    refine TK.reg ?_
    refine M rfl rfl (P1 (p_add rfl rfl) rfl rfl (M rfl rfl (TL.nil ?_)))
    exact J9 (shru64 x7 8) (wr (n8+(8:Int))) _ _ ⟨(),rfl,Nd_nil,HSub.refl _⟩ hX
   ·have hX:=ite_f hc hX
    refine TK.skip ?_
    exact J9 x7 n8 _ _ ⟨(),rfl,Nd_nil,HSub.refl _⟩ hX
  refine SR fun K16 hK16=>M rfl rfl (P1 (pu64_geq (a:=x4) (b:=(65536:UInt64)) rfl rfl) rfl rfl (TL.nil (hK16 _ _ ?_)))
  refine TK.cond (b:=(decide (x4≥(65536:UInt64)))) rfl (fun hc=>?_) (fun hc=>?_)
  ·have hX:=ite_t hc hX
   refine SR fun K17 hK17=>M rfl rfl (P1 (pu64_shr (a:=x4) (b:=16) rfl rfl) rfl rfl (M rfl rfl (TL.nil (hK17 _ _ ?_))))
   refine TK.reg ?_
   refine M rfl rfl (P1 (p_add rfl rfl) rfl rfl (M rfl rfl (TL.nil ?_)))
   exact J6 (shru64 x4 16) (wr (n5+(16:Int))) _ _ ⟨(),rfl,Nd_nil,HSub.refl _⟩ hX
  ·have hX:=ite_f hc hX
   refine TK.skip ?_
   exact J6 x4 n5 _ _ ⟨(),rfl,Nd_nil,HSub.refl _⟩ hX
 refine SR fun K18 hK18=>M rfl rfl (P1 (pu64_geq (a:=x1) (b:=(4294967296:UInt64)) rfl rfl) rfl rfl (TL.nil (hK18 _ _ ?_)))
 refine TK.cond (b:=(decide (x1≥(4294967296:UInt64)))) rfl (fun hc=>?_) (fun hc=>?_)
 ·have hX:=ite_t hc hX
  refine SR fun K19 hK19=>M rfl rfl (P1 (pu64_shr (a:=x1) (b:=32) rfl rfl) rfl rfl (M rfl rfl (TL.nil (hK19 _ _ ?_))))
  refine TK.reg ?_
  refine M rfl rfl (TL.nil ?_)
  exact J3 (shru64 x1 32) (32:Int) _ _ ⟨(),rfl,Nd_nil,HSub.refl _⟩ hX
 ·have hX:=ite_f hc hX
  refine TK.skip ?_
  exact J3 x1 (0:Int) _ _ ⟨(),rfl,Nd_nil,HSub.refl _⟩ hX
theorem ok_math_bits_Len (x1:UInt64) (r:Int) (hX:X.math_bits_Len x1=some r):Fun Tryz.prog 65 [Enc.v (x1:UInt64)] (·=Enc.v (r:Int)):=by
 refine Fun.of b65 (Nat.le_of_ble_eq_true rfl) (allVal.mem ⟨(by exact (v_val _)),trivial⟩) ?_
 unfold k65
 have nd:Nd []:=Nd_nil
 unfold X.math_bits_Len at hX
 refine SR fun K2 hK2=>M rfl rfl (TL.nil (hK2 _ _ ?_))
 refine TK.seq_k fun K3 hK3=>?_
 refine TK.cond (b:=false) rfl (fun hc=>by simp at hc) (fun _=>?_)
 refine TK.skip ?_
 refine hK3 _ _ (SR fun K4 hK4=>M rfl rfl ?_)
 obtain ⟨r5,hr5,hX⟩:=bind_some hX
 refine TL.cvX rfl rfl rfl (fun _=>⟨rfl,⟨rfl,trivial⟩⟩) (fun e=>ok_math_bits_Len64 x1 _ hr5) ?_
 refine M rfl rfl (TL.nil (hK4 _ _ ?_))
 refine TK.ret ?_
 try dsimp only[thenQ]
 exact R1 rfl hX
theorem ok_slices_insertionSortCmpFunc_api_Seal (a3:Int) (b4:Int) (g5:Seal_api→Seal_api→Option Int) (data1:(List Seal_api)) (b2:Nat) (nd:Nd [(b2,RL (α:=Seal_api) 38 data1)]) (r:(List Seal_api)) (hX:X.slices_insertionSortCmpFunc_api_Seal a3 b4 g5 data1=some r) {g5V:AV} (hg5V:∃f m c,g5V= .fn f m c∧(∀i,i<m→(c i).val)∧∀(a0:Seal_api) (a1:Seal_api) r,g5 a0 a1=some r→Fun Tryz.prog f ([Enc.v a0,Enc.v a1]++(List.range m).map c) (·=Enc.v r)):TCX Tryz.prog 96 [OL (α:=Seal_api) b2 data1,Enc.v (a3:Int),Enc.v (b4:Int),g5V] [(b2,RL (α:=Seal_api) 38 data1)] (fun rv h'=>rv= .tup 0 (ofL [])∧h'=[(b2,RL (α:=Seal_api) 38 r)]):=by
 obtain ⟨g5f,g5m,g5c,rfl,hg5v,hg5⟩:=hg5V
 have:NoA (.fn g5f g5m g5c):=⟨fun i hi=>(hg5v i hi).no⟩
 refine TCX.of b96 (Nat.le_of_ble_eq_true rfl) ?_
 unfold k96
 unfold X.slices_insertionSortCmpFunc_api_Seal at hX
 refine TK.endK fun KE hKE=>?_
 refine SR fun K6 hK6=>M rfl rfl (P1 (p_add rfl rfl) rfl rfl (M rfl rfl (TL.nil (hK6 _ _ ?_))))
 refine TK.block ?_
 obtain ⟨o7,hO7,hA7⟩:=bind_some hX
 have E7:∀(l12:List Seal_api) (env:Env) (h:Hp),(∃_u:Unit,keepE [0] env=[(0,true,OL b2 l12)]∧Nd [(b2,RL (α:=Seal_api) 38 l12)]∧HSub [(b2,RL (α:=Seal_api) 38 l12)] h)→X.slices_insertionSortCmpFunc_api_Seal_e7 l12=some r→KE env h:=by
  intro l12 env h hE hX
  obtain ⟨_u,henv,nd,hs⟩:=hE
  unfold X.slices_insertionSortCmpFunc_api_Seal_e7 at hX
  refine hKE _ _ (TL.keep [0] ?_)
  rw[henv]
  refine TL.subH hs ?_
  refine TL.nil ?_
  try dsimp only[thenQ]
  refine RetQ_end ?_
  exact retX (v:= .tup 0 (ofL [])) res0 (by obtain rfl:=some_in hX;exact ⟨rfl,rfl⟩) nd (inH_tup (l:=[]) trivial) ⟨rowIn_RL,trivial⟩
 refine TK.iter [0,1,2,3,8] (fun s env h=>match s with|(data9,i10)=>∃_u:Unit,env=[(0,true,OL b2 data9),(1,true,Enc.v a3),(2,true,Enc.v b4),(3,true,.fn g5f g5m g5c),(8,true,Enc.v i10)]∧Nd [(b2,RL (α:=Seal_api) 38 data9)]∧HSub [(b2,RL (α:=Seal_api) 38 data9)] h) hO7 ⟨(),rfl,(Nd.pick nd (is:=[0]) Dc),(HSub.pick nd (is:=[0]) Dc)⟩ ?_
 rintro ⟨data9,i10⟩ env h x7x ⟨_u,rfl,nd,hs⟩ hX hR7
 refine TK.subH hs ?_
 unfold X.slices_insertionSortCmpFunc_api_Seal_s7 at hX
 try dsimp only at hX
 refine TK.seq_k fun K13 hK13=>?_
 refine SR fun K14 hK14=>M rfl rfl (M rfl rfl (P1 (p_lss rfl rfl) rfl rfl (TL.nil (hK14 _ _ ?_))))
 refine TK.cond (b:=(decide (i10<b4))) rfl (fun hc=>?_) (fun hc=>?_)
 ·have hX:=ite_t hc hX
  refine TK.skip ?_
  refine hK13 _ _ ?_
  refine TK.seq_k fun K15 hK15=>?_
  refine TK.block ?_
  refine SR fun K16 hK16=>M rfl rfl (M rfl rfl (TL.nil (hK16 _ _ ?_)))
  refine TK.block ?_
  obtain ⟨o17,hO17,hA17⟩:=bind_some hX
  have E17:∀(l22:List Seal_api) (env:Env) (h:Hp),(∃_u:Unit,keepE [0,1,2,3,8] env=[(0,true,OL b2 l22),(1,true,Enc.v a3),(2,true,Enc.v b4),(3,true,.fn g5f g5m g5c),(8,true,Enc.v i10)]∧Nd [(b2,RL (α:=Seal_api) 38 l22)]∧HSub [(b2,RL (α:=Seal_api) 38 l22)] h)→X.slices_insertionSortCmpFunc_api_Seal_e17 i10 l22=some x7x→K15 env h:=by
   intro l22 env h hE hX
   obtain ⟨_u,henv,nd,hs⟩:=hE
   unfold X.slices_insertionSortCmpFunc_api_Seal_e17 at hX
   refine hK15 _ _ (TK.keep [0,1,2,3,8] ?_)
   rw[henv]
   refine TK.subH hs ?_
   refine TK.reg ?_
   refine M rfl rfl (P1 (p_add rfl rfl) rfl rfl (M rfl rfl (TL.nil ?_)))
   exact ⟨_,(some_in hX).symm,(),rfl,(Nd.pick nd (is:=[0]) Dc),(HSub.pick nd (is:=[0]) Dc)⟩
  refine TK.iter [0,1,2,3,8,9] (fun s env h=>match s with|(data19,j20)=>∃_u:Unit,env=[(0,true,OL b2 data19),(1,true,Enc.v a3),(2,true,Enc.v b4),(3,true,.fn g5f g5m g5c),(8,true,Enc.v i10),(9,true,Enc.v j20)]∧Nd [(b2,RL (α:=Seal_api) 38 data19)]∧HSub [(b2,RL (α:=Seal_api) 38 data19)] h) hO17 ⟨(),rfl,(Nd.pick nd (is:=[0]) Dc),(HSub.pick nd (is:=[0]) Dc)⟩ ?_
  rintro ⟨data19,j20⟩ env h x17x ⟨_u,rfl,nd,hs⟩ hX hR17
  refine TK.subH hs ?_
  unfold X.slices_insertionSortCmpFunc_api_Seal_s17 at hX
  try dsimp only at hX
  refine TK.seq_k fun K23 hK23=>?_
  refine TK.seq_k fun K24 hK24=>?_
  have ndS:Nd [(b2,RL (α:=Seal_api) 38 data19)]:=Nd.pick nd (is:=[0]) Dc
  refine TK.drwX (h:=[]) (hS:=[(b2,RL (α:=Seal_api) 38 data19)]) [(0,0),(0,1),(0,2),(0,3),(0,4),(0,5),(0,6),(0,7),(0,8),(0,9),(0,10),(0,11),(0,12),(0,13),(0,14),(0,15),(0,16)] mixed (by kernel_rfl) (HSub_app nd) ?_
  refine DM rfl rfl rfl ?_
  refine DM rfl rfl rfl ?_
  refine D0 rfl (p_gtr rfl rfl) rfl rfl ?_
  refine DM rfl rfl rfl ?_
  refine DR0 (gc:=((decide (j20>a3)))) rfl (vok_p (C:=cx) (p_mv rfl (hg:=fun e=>rfl))) (gcT1 rfl) rfl ?_
  refine DR0 (gc:=((decide (j20>a3)))) rfl (vok_p (C:=cx) (p_mv rfl (hg:=fun e=>rfl))) (gcT1 rfl) rfl ?_
  refine DR0 (gc:=((decide (j20>a3)))) rfl (vok_p (C:=cx) (p_mv rfl (hg:=fun e=>rfl))) (gcT1 rfl) rfl ?_
  obtain ⟨e25,he25,hX⟩:=bind_some hX
  refine DR0 (gc:=((decide (j20>a3)))) rfl (vok_p (C:=cx) (p_iaO (xs:=data19) kd33 ty38 rfl rfl rfl ndS (j:=0) rfl (fun e=>optG_t he25 e) (hg:=fun e=>⟨e,e⟩))) (gcT1 rfl) rfl ?_
  refine DR0 (gc:=((decide (j20>a3)))) rfl (vok_p (C:=cx) (p_ldO (xs:=data19) (a:=e25) (e25:Seal_api) ty38 rfl rfl ndS (j:=0) rfl (fun e=>optG_t he25 e) rfl rfl rfl (hg:=fun e=>e))) (gcT1 rfl) rfl ?_
  refine DR0 (gc:=((decide (j20>a3)))) rfl (vok_p (C:=cx) (p_mv rfl (hg:=fun e=>rfl))) (gcT1 rfl) rfl ?_
  refine DR0 (gc:=((decide (j20>a3)))) rfl (vok_p (C:=cx) (p_mv rfl (hg:=fun e=>rfl))) (gcT1 rfl) rfl ?_
  refine DR0 (gc:=((decide (j20>a3)))) rfl (vok_p (C:=cx) (p_sub rfl rfl (hg:=fun e=>⟨e,rfl⟩))) (gcT1 rfl) rfl ?_
  obtain ⟨e26,he26,hX⟩:=bind_some hX
  refine DR0 (gc:=((decide (j20>a3)))) rfl (vok_p (C:=cx) (p_iaO (xs:=data19) kd33 ty38 rfl rfl rfl ndS (j:=0) rfl (fun e=>optG_t he26 e) (hg:=fun e=>⟨e,e⟩))) (gcT1 rfl) rfl ?_
  refine DR0 (gc:=((decide (j20>a3)))) rfl (vok_p (C:=cx) (p_ldO (xs:=data19) (a:=e26) (e26:Seal_api) ty38 rfl rfl ndS (j:=0) rfl (fun e=>optG_t he26 e) rfl rfl rfl (hg:=fun e=>e))) (gcT1 rfl) rfl ?_
  obtain ⟨r27,hr27,hX⟩:=bind_some hX
  refine DR0 (gc:=((decide (j20>a3)))) rfl (vok_c rfl (fun e=>⟨e,⟨e,⟨e,trivial⟩⟩⟩) (fun e=>hg5 e25 e26 _ (optG_t hr27 e))) (gcT1 rfl) rfl ?_
  refine DR0 (gc:=((decide (j20>a3)))) rfl (vok_p (C:=cx) (p_lss rfl rfl (hg:=fun e=>⟨e,rfl⟩))) (gcT1 rfl) rfl ?_
  refine D0 rfl (p_and rfl rfl (fun e=>⟨rfl,fun h=>h⟩)) rfl rfl ?_
  refine DRend ?_
  refine hK24 _ _ ?_
  refine TK.cond (b:=((decide (j20>a3))&&(decide (r27<(0:Int))))) rfl (fun hc=>?_) (fun hc=>?_)
  ·have hX:=ite_t hc hX
   refine TK.skip ?_
   refine hK23 _ _ ?_
   refine TK.seq_k fun K28 hK28=>?_
   refine TK.block ?_
   have ndS:Nd []:=Nd.pick nd (is:=[]) Dc
   refine TK.endK fun KD hKD=>?_
   refine TK.drwX (h:=[(b2,RL (α:=Seal_api) 38 data19)]) (hS:=[]) [(0,0),(0,1),(0,2),(0,3),(0,4),(0,5),(0,6),(0,7),(1,8),(1,9),(0,10),(0,11),(1,12),(1,13),(1,14),(2,15),(1,16),(2,17)] mixed (by kernel_rfl) (HSub_app nd) ?_
   refine DM rfl rfl rfl ?_
   refine DM rfl rfl rfl ?_
   refine DM rfl rfl rfl ?_
   refine DM rfl rfl rfl ?_
   refine D0 rfl (p_sub rfl rfl) rfl rfl ?_
   refine DM rfl rfl rfl ?_
   refine DM rfl rfl rfl ?_
   refine D0 rfl (p_sub rfl rfl) rfl rfl ?_
   obtain ⟨e29,he29,hX⟩:=bind_some hX
   refine DR1 (gc:=true) rfl (vok_p (C:=cx) (p_iaO (xs:=data19) kd33 ty38 rfl rfl rfl nd (j:=0) rfl (fun _=>he29))) rfl rfl ?_
   refine DR1 (gc:=true) rfl (vok_p (C:=cx) (p_ldO (xs:=data19) (a:=e29) (e29:Seal_api) ty38 rfl rfl nd (j:=0) rfl (fun _=>he29) rfl rfl rfl)) rfl rfl ?_
   refine DM rfl rfl rfl ?_
   refine DM rfl rfl rfl ?_
   obtain ⟨e30,he30,hX⟩:=bind_some hX
   refine DR1 (gc:=true) rfl (vok_p (C:=cx) (p_iaO (xs:=data19) kd33 ty38 rfl rfl rfl nd (j:=0) rfl (fun _=>he30))) rfl rfl ?_
   refine DR1 (gc:=true) rfl (vok_p (C:=cx) (p_ldO (xs:=data19) (a:=e30) (e30:Seal_api) ty38 rfl rfl nd (j:=0) rfl (fun _=>he30) rfl rfl rfl)) rfl rfl ?_
   obtain ⟨e31,he31,hX⟩:=bind_some hX
   refine DR1 (gc:=true) rfl (vok_p (C:=cx) (p_iaO (xs:=data19) kd33 ty38 rfl rfl rfl nd (j:=0) rfl (fun _=>he31))) rfl rfl ?_
   refine DR2n rfl ?_
   refine TLc.stW (xs:=data19) (i:=j20) (lu:=Enc.cl (e29:Seal_api)) (a':=e29) nd ty38 rfl (j:=0) rfl (by simp[Enc.sz]) (inb_of he31 (by simp)) rfl (Cells_v (e29:Seal_api)) rfl (WkL_refl _) fun nd=>?_
   refine TL.nil ⟨.nilp,[(b2,RL (α:=Seal_api) 38 (data19.set j20.toNat e29))],rfl,rfl,HSub_app nd,?_⟩
   obtain ⟨e32,he32,hX⟩:=bind_some hX
   refine DR1 (gc:=true) rfl (vok_p (C:=cx) (p_iaO (xs:=(data19.set j20.toNat e29)) (gx:=true) kd33 ty38 rfl (by rw[OL_len (xs:=(data19.set j20.toNat e29)) (ys:=data19) (by simp)];rfl) rfl nd (j:=0) rfl (fun _=>he32))) rfl rfl ?_
   refine DR2n rfl ?_
   refine TLc.stW (xs:=(data19.set j20.toNat e29)) (i:=(wr (j20-(1:Int)))) (lu:=Enc.cl (e30:Seal_api)) (a':=e30) nd ty38 rfl (j:=0) rfl (by simp[Enc.sz]) (inb_of he32 (by simp)) rfl (Cells_v (e30:Seal_api)) rfl (WkL_refl _) fun nd=>?_
   refine TL.nil ⟨.nilp,[(b2,RL (α:=Seal_api) 38 ((data19.set j20.toNat e29).set (wr (j20-(1:Int))).toNat e30))],rfl,rfl,HSub_app nd,?_⟩
   refine DRend ?_
   refine hKD _ _ ?_
   refine TL.cv 0 (OL (α:=Seal_api) b2 ((data19.set j20.toNat e29).set (wr (j20-(1:Int))).toNat e30)) rfl (Wk_eq (OL_len (by simp))) ?_
   refine TL.nil (hK28 _ _ ?_)
   refine TK.reg ?_
   refine M rfl rfl (P1 (p_sub rfl rfl) rfl rfl (M rfl rfl (TL.nil ?_)))
   exact ⟨_,(some_in hX).symm,(),rfl,(Nd.pick nd (is:=[0]) Dc),(HSub.pick nd (is:=[0]) Dc)⟩
  ·have hX:=ite_f hc hX
   refine TK.exit ?_
   obtain rfl:=hR17 _ (some_in hX).symm
   exact E17 data19 _ _ ⟨(),rfl,(Nd.pick nd (is:=[0]) Dc),(HSub.pick nd (is:=[0]) Dc)⟩ hA17
 ·have hX:=ite_f hc hX
  refine TK.exit ?_
  obtain rfl:=hR7 _ (some_in hX).symm
  exact E7 data9 _ _ ⟨(),rfl,(Nd.pick nd (is:=[0]) Dc),(HSub.pick nd (is:=[0]) Dc)⟩ hA7
theorem ok_slices_nextPowerOfTwo (length1:Int) (r:UInt64) (hX:X.slices_nextPowerOfTwo length1=some r):Fun Tryz.prog 118 [Enc.v (length1:Int)] (·=Enc.v (r:UInt64)):=by
 refine Fun.of b118 (Nat.le_of_ble_eq_true rfl) (allVal.mem ⟨(by exact (v_val _)),trivial⟩) ?_
 unfold k118
 have nd:Nd []:=Nd_nil
 unfold X.slices_nextPowerOfTwo at hX
 refine SR fun K2 hK2=>M rfl rfl (TL.nil (hK2 _ _ (SR fun K3 hK3=>M rfl rfl (P1 (p_cvt src3 kd80 rfl (cv_u64 _)) rfl rfl ?_))))
 obtain ⟨r4,hr4,hX⟩:=bind_some hX
 refine TL.cvX rfl rfl rfl (fun _=>⟨rfl,⟨rfl,trivial⟩⟩) (fun e=>ok_math_bits_Len (u64 length1) _ hr4) ?_
 obtain ⟨u5,hu5,hX⟩:=bind_some hX
 refine P1 (pu64_shlI (a:=(1:UInt64)) (b:=r4) rfl rfl (fun _=>need_t hu5)) rfl rfl (M rfl rfl (TL.nil (hK3 _ _ ?_)))
 refine TK.ret ?_
 try dsimp only[thenQ]
 exact R1 rfl hX
theorem ok_slices_xorshift_Next (x1:UInt64) (b2:Nat) (nd:Nd [(b2,RV 155 [Enc.v (x1:UInt64)])]) (r:(UInt64×UInt64)) (hX:X.slices_xorshift_Next x1=some r):TCX Tryz.prog 119 [.ref b2 0 1] [(b2,RV 155 [Enc.v (x1:UInt64)])] (fun rv h'=>rv=Enc.v (r.1:UInt64)∧h'=[(b2,RV 155 [Enc.v (r.2:UInt64)])]):=by
 refine TCX.of b119 (Nat.le_of_ble_eq_true rfl) ?_
 unfold k119
 unfold X.slices_xorshift_Next at hX
 refine SR fun K3 hK3=>M rfl rfl (TL.nil (hK3 _ _ ?_))
 refine TK.seq_k fun K4 hK4=>?_
 have ndS:Nd []:=Nd.pick nd (is:=[]) Dc
 refine TK.drwX (h:=[(b2,RV 155 [Enc.v x1])]) (hS:=[]) [(0,0),(1,1),(1,2),(0,3),(1,4),(1,5),(0,6),(0,7),(1,8),(2,9)] mixed (by kernel_rfl) (HSub_app nd) ?_
 refine DM rfl rfl rfl ?_
 refine DR1 (gc:=true) rfl (vok_p (C:=cx) (p_ncR rfl (fun _=>refOK_of nd (j:=0) rfl rfl))) rfl rfl ?_
 refine DR1 (gc:=true) rfl (vok_p (C:=cx) (p_ldV (v:=Enc.v x1) ty155 rfl rfl nd (j:=0) rfl rfl rfl rfl rfl)) rfl rfl ?_
 refine DM rfl rfl rfl ?_
 refine DR1 (gc:=true) rfl (vok_p (C:=cx) (p_ncR rfl (fun _=>refOK_of nd (j:=0) rfl rfl))) rfl rfl ?_
 refine DR1 (gc:=true) rfl (vok_p (C:=cx) (p_ldV (v:=Enc.v x1) ty155 rfl rfl nd (j:=0) rfl rfl rfl rfl rfl)) rfl rfl ?_
 refine D0 rfl (pu64_shl (a:=x1) (b:=13) rfl rfl) rfl rfl ?_
 refine D0 rfl (pu64_xor (a:=x1) (b:=(shlu64 x1 13)) rfl rfl) rfl rfl ?_
 refine DR1 (gc:=true) rfl (vok_p (C:=cx) (p_ncR rfl (fun _=>refOK_of nd (j:=0) rfl rfl))) rfl rfl ?_
 refine DR2n rfl ?_
 refine TLc.stV (lu:=Enc.cl ((x1^^^(shlu64 x1 13)):UInt64)) nd ty155 rfl (j:=0) rfl rfl rfl (Cells_v ((x1^^^(shlu64 x1 13)):UInt64)) rfl rfl [Enc.v ((x1^^^(shlu64 x1 13)):UInt64)] rfl fun nd=>?_
 refine TL.nil ⟨.nilp,[(b2,RV 155 [Enc.v ((x1^^^(shlu64 x1 13)):UInt64)])],rfl,rfl,HSub_app nd,?_⟩
 refine DRend ?_
 refine hK4 _ _ ?_
 refine TK.seq_k fun K5 hK5=>?_
 have ndS:Nd []:=Nd.pick nd (is:=[]) Dc
 refine TK.drwX (h:=[(b2,RV 155 [Enc.v ((x1^^^(shlu64 x1 13)):UInt64)])]) (hS:=[]) [(0,0),(1,1),(1,2),(0,3),(1,4),(1,5),(0,6),(0,7),(1,8),(2,9)] mixed (by kernel_rfl) (HSub_app nd) ?_
 refine DM rfl rfl rfl ?_
 refine DR1 (gc:=true) rfl (vok_p (C:=cx) (p_ncR rfl (fun _=>refOK_of nd (j:=0) rfl rfl))) rfl rfl ?_
 refine DR1 (gc:=true) rfl (vok_p (C:=cx) (p_ldV (v:=Enc.v ((x1^^^(shlu64 x1 13)):UInt64)) ty155 rfl rfl nd (j:=0) rfl rfl rfl rfl rfl)) rfl rfl ?_
 refine DM rfl rfl rfl ?_
 refine DR1 (gc:=true) rfl (vok_p (C:=cx) (p_ncR rfl (fun _=>refOK_of nd (j:=0) rfl rfl))) rfl rfl ?_
 refine DR1 (gc:=true) rfl (vok_p (C:=cx) (p_ldV (v:=Enc.v ((x1^^^(shlu64 x1 13)):UInt64)) ty155 rfl rfl nd (j:=0) rfl rfl rfl rfl rfl)) rfl rfl ?_
 refine D0 rfl (pu64_shr (a:=(x1^^^(shlu64 x1 13))) (b:=7) rfl rfl) rfl rfl ?_
 refine D0 rfl (pu64_xor (a:=(x1^^^(shlu64 x1 13))) (b:=(shru64 (x1^^^(shlu64 x1 13)) 7)) rfl rfl) rfl rfl ?_
 refine DR1 (gc:=true) rfl (vok_p (C:=cx) (p_ncR rfl (fun _=>refOK_of nd (j:=0) rfl rfl))) rfl rfl ?_
 refine DR2n rfl ?_
 refine TLc.stV (lu:=Enc.cl (((x1^^^(shlu64 x1 13))^^^(shru64 (x1^^^(shlu64 x1 13)) 7)):UInt64)) nd ty155 rfl (j:=0) rfl rfl rfl (Cells_v (((x1^^^(shlu64 x1 13))^^^(shru64 (x1^^^(shlu64 x1 13)) 7)):UInt64)) rfl rfl [Enc.v (((x1^^^(shlu64 x1 13))^^^(shru64 (x1^^^(shlu64 x1 13)) 7)):UInt64)] rfl fun nd=>?_
 refine TL.nil ⟨.nilp,[(b2,RV 155 [Enc.v (((x1^^^(shlu64 x1 13))^^^(shru64 (x1^^^(shlu64 x1 13)) 7)):UInt64)])],rfl,rfl,HSub_app nd,?_⟩
 refine DRend ?_
 refine hK5 _ _ ?_
 refine TK.seq_k fun K6 hK6=>?_
 have ndS:Nd []:=Nd.pick nd (is:=[]) Dc
 refine TK.drwX (h:=[(b2,RV 155 [Enc.v (((x1^^^(shlu64 x1 13))^^^(shru64 (x1^^^(shlu64 x1 13)) 7)):UInt64)])]) (hS:=[]) [(0,0),(1,1),(1,2),(0,3),(1,4),(1,5),(0,6),(0,7),(1,8),(2,9)] mixed (by kernel_rfl) (HSub_app nd) ?_
 refine DM rfl rfl rfl ?_
 refine DR1 (gc:=true) rfl (vok_p (C:=cx) (p_ncR rfl (fun _=>refOK_of nd (j:=0) rfl rfl))) rfl rfl ?_
 refine DR1 (gc:=true) rfl (vok_p (C:=cx) (p_ldV (v:=Enc.v (((x1^^^(shlu64 x1 13))^^^(shru64 (x1^^^(shlu64 x1 13)) 7)):UInt64)) ty155 rfl rfl nd (j:=0) rfl rfl rfl rfl rfl)) rfl rfl ?_
 refine DM rfl rfl rfl ?_
 refine DR1 (gc:=true) rfl (vok_p (C:=cx) (p_ncR rfl (fun _=>refOK_of nd (j:=0) rfl rfl))) rfl rfl ?_
 refine DR1 (gc:=true) rfl (vok_p (C:=cx) (p_ldV (v:=Enc.v (((x1^^^(shlu64 x1 13))^^^(shru64 (x1^^^(shlu64 x1 13)) 7)):UInt64)) ty155 rfl rfl nd (j:=0) rfl rfl rfl rfl rfl)) rfl rfl ?_
 refine D0 rfl (pu64_shl (a:=((x1^^^(shlu64 x1 13))^^^(shru64 (x1^^^(shlu64 x1 13)) 7))) (b:=17) rfl rfl) rfl rfl ?_
 refine D0 rfl (pu64_xor (a:=((x1^^^(shlu64 x1 13))^^^(shru64 (x1^^^(shlu64 x1 13)) 7))) (b:=(shlu64 ((x1^^^(shlu64 x1 13))^^^(shru64 (x1^^^(shlu64 x1 13)) 7)) 17)) rfl rfl) rfl rfl ?_
 refine DR1 (gc:=true) rfl (vok_p (C:=cx) (p_ncR rfl (fun _=>refOK_of nd (j:=0) rfl rfl))) rfl rfl ?_
 refine DR2n rfl ?_
 refine TLc.stV (lu:=Enc.cl ((((x1^^^(shlu64 x1 13))^^^(shru64 (x1^^^(shlu64 x1 13)) 7))^^^(shlu64 ((x1^^^(shlu64 x1 13))^^^(shru64 (x1^^^(shlu64 x1 13)) 7)) 17)):UInt64)) nd ty155 rfl (j:=0) rfl rfl rfl (Cells_v ((((x1^^^(shlu64 x1 13))^^^(shru64 (x1^^^(shlu64 x1 13)) 7))^^^(shlu64 ((x1^^^(shlu64 x1 13))^^^(shru64 (x1^^^(shlu64 x1 13)) 7)) 17)):UInt64)) rfl rfl [Enc.v ((((x1^^^(shlu64 x1 13))^^^(shru64 (x1^^^(shlu64 x1 13)) 7))^^^(shlu64 ((x1^^^(shlu64 x1 13))^^^(shru64 (x1^^^(shlu64 x1 13)) 7)) 17)):UInt64)] rfl fun nd=>?_
 refine TL.nil ⟨.nilp,[(b2,RV 155 [Enc.v ((((x1^^^(shlu64 x1 13))^^^(shru64 (x1^^^(shlu64 x1 13)) 7))^^^(shlu64 ((x1^^^(shlu64 x1 13))^^^(shru64 (x1^^^(shlu64 x1 13)) 7)) 17)):UInt64)])],rfl,rfl,HSub_app nd,?_⟩
 refine DRend ?_
 refine hK6 _ _ (SR fun K7 hK7=>M rfl rfl (P1 (p_ncR rfl (fun _=>refOK_of nd (j:=0) rfl rfl)) rfl rfl (P1 (p_ldV (v:=Enc.v ((((x1^^^(shlu64 x1 13))^^^(shru64 (x1^^^(shlu64 x1 13)) 7))^^^(shlu64 ((x1^^^(shlu64 x1 13))^^^(shru64 (x1^^^(shlu64 x1 13)) 7)) 17)):UInt64)) ty155 rfl rfl nd (j:=0) rfl rfl rfl rfl rfl) rfl rfl (M rfl rfl (TL.nil (hK7 _ _ ?_))))))
 refine TK.ret ?_
 try dsimp only[thenQ]
 exact retX (v:=Enc.v ((((x1^^^(shlu64 x1 13))^^^(shru64 (x1^^^(shlu64 x1 13)) 7))^^^(shlu64 ((x1^^^(shlu64 x1 13))^^^(shru64 (x1^^^(shlu64 x1 13)) 7)) 17)):UInt64)) (res1 rfl) (by obtain rfl:=some_in hX;exact ⟨rfl,rfl⟩) nd (inH_val (v_val _)) ⟨rowIn_RV ⟨inH_val (v_val _),trivial⟩,trivial⟩
theorem ok_slices_breakPatternsCmpFunc_api_Seal (a3:Int) (b4:Int) (g5:Seal_api→Seal_api→Option Int) (data1:(List Seal_api)) (b2:Nat) (nd:Nd [(b2,RL (α:=Seal_api) 38 data1)]) (r:(List Seal_api)) (hX:X.slices_breakPatternsCmpFunc_api_Seal a3 b4 g5 data1=some r) {g5V:AV} (hg5V:∃f m c,g5V= .fn f m c∧(∀i,i<m→(c i).val)∧∀(a0:Seal_api) (a1:Seal_api) r,g5 a0 a1=some r→Fun Tryz.prog f ([Enc.v a0,Enc.v a1]++(List.range m).map c) (·=Enc.v r)):TCX Tryz.prog 98 [OL (α:=Seal_api) b2 data1,Enc.v (a3:Int),Enc.v (b4:Int),g5V] [(b2,RL (α:=Seal_api) 38 data1)] (fun rv h'=>rv= .tup 0 (ofL [])∧h'=[(b2,RL (α:=Seal_api) 38 r)]):=by
 obtain ⟨g5f,g5m,g5c,rfl,hg5v,hg5⟩:=hg5V
 have:NoA (.fn g5f g5m g5c):=⟨fun i hi=>(hg5v i hi).no⟩
 refine TCX.of b98 (Nat.le_of_ble_eq_true rfl) ?_
 unfold k98
 unfold X.slices_breakPatternsCmpFunc_api_Seal at hX
 refine TK.endK fun KE hKE=>?_
 refine SR fun K6 hK6=>M rfl rfl (M rfl rfl (P1 (p_sub rfl rfl) rfl rfl (M rfl rfl (TL.nil (hK6 _ _ (SR fun K7 hK7=>M rfl rfl (P1 (p_geq rfl rfl) rfl rfl (TL.nil (hK7 _ _ ?_)))))))))
 refine TK.cond (b:=(decide ((wr (b4-a3))≥(8:Int)))) rfl (fun hc=>?_) (fun hc=>?_)
 ·have hX:=ite_t hc hX
  refine SR fun K8 hK8=>M rfl rfl (P1 (p_cvt src3 kd155 rfl (cv_u64 _)) rfl rfl ?_)
  refine TLc.alO (l:=[Enc.v ((0:UInt64):UInt64)]) nd ty155 ti155_z rfl rfl fun b9 nd=>?_
  refine TLc.stV (lu:=Enc.cl ((u64 (wr (b4-a3))):UInt64)) nd ty155 rfl (j:=0) rfl rfl rfl (Cells_v ((u64 (wr (b4-a3))):UInt64)) rfl rfl [Enc.v ((u64 (wr (b4-a3))):UInt64)] rfl fun nd=>?_
  refine TL.nil (hK8 _ _ (SR fun K10 hK10=>M rfl rfl ?_))
  obtain ⟨r11,hr11,hX⟩:=bind_some hX
  refine TL.cvX rfl rfl rfl (fun _=>⟨rfl,⟨rfl,trivial⟩⟩) (fun e=>ok_slices_nextPowerOfTwo (wr (b4-a3)) _ hr11) ?_
  refine M rfl rfl (TL.nil (hK10 _ _ (SR fun K12 hK12=>M rfl rfl (M rfl rfl (P1 (p_quo rfl rfl (fun _=>by decide)) rfl rfl (P1 (p_mul rfl rfl) rfl rfl (P1 (p_add rfl rfl) rfl rfl (P1 (p_sub rfl rfl) rfl rfl (M rfl rfl (TL.nil (hK12 _ _ ?_)))))))))))
  refine TK.block ?_
  obtain ⟨o13,hO13,hA13⟩:=bind_some hX
  have E13:∀(l20:List Seal_api) (env:Env) (h:Hp),(∃_u:Unit,keepE [0] env=[(0,true,OL b2 l20)]∧Nd [(b2,RL (α:=Seal_api) 38 l20)]∧HSub [(b2,RL (α:=Seal_api) 38 l20)] h)→X.slices_breakPatternsCmpFunc_api_Seal_e13 l20=some r→KE env h:=by
   intro l20 env h hE hX
   obtain ⟨_u,henv,nd,hs⟩:=hE
   unfold X.slices_breakPatternsCmpFunc_api_Seal_e13 at hX
   refine hKE _ _ (TL.keep [0] ?_)
   rw[henv]
   refine TL.subH hs ?_
   refine TL.nil ?_
   try dsimp only[thenQ]
   refine RetQ_end ?_
   exact retX (v:= .tup 0 (ofL [])) res0 (by obtain rfl:=some_in hX;exact ⟨rfl,rfl⟩) nd (inH_tup (l:=[]) trivial) ⟨rowIn_RL,trivial⟩
  refine TK.iter [0,1,8,9,10,11] (fun s env h=>match s with|(data15,c17,idx18)=>∃b16,env=[(0,true,OL b2 data15),(1,true,Enc.v a3),(8,true,Enc.v ((wr (b4-a3)):Int)),(9,true,.ref b16 0 1),(10,true,Enc.v r11),(11,true,Enc.v idx18)]∧Nd [(b2,RL (α:=Seal_api) 38 data15),(b16,RV 155 [Enc.v c17])]∧HSub [(b2,RL (α:=Seal_api) 38 data15),(b16,RV 155 [Enc.v c17])] h) hO13 ⟨b9,rfl,(Nd.pick nd (is:=[1,0]) Dc),(HSub.pick nd (is:=[1,0]) Dc)⟩ ?_
  rintro ⟨data15,c17,idx18⟩ env h x13x ⟨b16,rfl,nd,hs⟩ hX hR13
  refine TK.subH hs ?_
  unfold X.slices_breakPatternsCmpFunc_api_Seal_s13 at hX
  try dsimp only at hX
  refine TK.seq_k fun K21 hK21=>?_
  refine SR fun K22 hK22=>M rfl rfl (M rfl rfl (M rfl rfl (P1 (p_quo rfl rfl (fun _=>by decide)) rfl rfl (P1 (p_mul rfl rfl) rfl rfl (P1 (p_add rfl rfl) rfl rfl (P1 (p_add rfl rfl) rfl rfl (P1 (p_leq rfl rfl) rfl rfl (TL.nil (hK22 _ _ ?_)))))))))
  refine TK.cond (b:=(decide (idx18≤(wr ((wr (a3+(wr ((wr ((wr (b4-a3)).tdiv (4:Int)))*(2:Int)))))+(1:Int)))))) rfl (fun hc=>?_) (fun hc=>?_)
  ·have hX:=ite_t hc hX
   refine TK.skip ?_
   refine hK21 _ _ ?_
   refine TK.seq_k fun K23 hK23=>?_
   refine TK.block ?_
   refine SR fun K24 hK24=>?_
   obtain ⟨r25,hr25,hX⟩:=bind_some hX
   refine TL.pick [1,0] nd Dc fun nd=>?_
   refine TL.tcX [(b16,RV 155 [Enc.v c17])] [(b2,RL (α:=Seal_api) 38 data15)] rfl nd (dlt rfl) rfl ⟨rfl,⟨rfl,trivial⟩⟩ (ok_slices_xorshift_Next c17 b16 (Nd.take nd 1 rfl) _ hr25) ?_
   rintro _ _ hQ nd
   obtain ⟨rfl,rfl⟩:=hQ
   refine M rfl rfl (P1 (pu64_sub (a:=r11) (b:=(1:UInt64)) rfl rfl) rfl rfl (P1 (pu64_and (a:=r25.1) (b:=(u64 ((r11.toNat:Int)-(1:UInt64).toNat))) rfl rfl) rfl rfl (P1 (p_cvt src80 kd3 rfl (cv_i64 _)) rfl rfl (M rfl rfl (TL.nil (hK24 _ _ ?_))))))
   refine TK.seq_k fun K27 hK27=>?_
   have J27:∀(other30:Int) (env:Env) (h:Hp),(∃b29,keepE [0,1,8,9,10,11,12] env=[(0,true,OL b2 data15),(1,true,Enc.v a3),(8,true,Enc.v ((wr (b4-a3)):Int)),(9,true,.ref b29 0 1),(10,true,Enc.v r11),(11,true,Enc.v idx18),(12,true,Enc.v other30)]∧Nd [(b2,RL (α:=Seal_api) 38 data15),(b29,RV 155 [Enc.v r25.2])]∧HSub [(b2,RL (α:=Seal_api) 38 data15),(b29,RV 155 [Enc.v r25.2])] h)→X.slices_breakPatternsCmpFunc_api_Seal_j27 data15 a3 idx18 r25 other30=some x13x→K27 env h:=by
    intro other30 env h hE hX
    obtain ⟨b29,henv,nd,hs⟩:=hE
    unfold X.slices_breakPatternsCmpFunc_api_Seal_j27 at hX
    refine hK27 _ _ (TK.keep [0,1,8,9,10,11,12] ?_)
    rw[henv]
    refine TK.subH hs ?_
    have ndS:Nd [(b29,RV 155 [Enc.v r25.2])]:=Nd.pick nd (is:=[1]) Dc
    refine TK.endK fun KD hKD=>?_
    refine TK.drwX (h:=[(b2,RL (α:=Seal_api) 38 data15)]) (hS:=[(b29,RV 155 [Enc.v r25.2])]) [(0,0),(0,1),(0,2),(0,3),(0,4),(0,5),(0,6),(0,7),(0,8),(0,9),(1,10),(1,11),(0,12),(0,13),(1,14),(1,15),(1,16),(2,17),(1,18),(2,19)] mixed (by kernel_rfl) (HSub_app nd) ?_
    refine DM rfl rfl rfl ?_
    refine DM rfl rfl rfl ?_
    refine DM rfl rfl rfl ?_
    refine DM rfl rfl rfl ?_
    refine DM rfl rfl rfl ?_
    refine D0 rfl (p_add rfl rfl) rfl rfl ?_
    refine DM rfl rfl rfl ?_
    refine DM rfl rfl rfl ?_
    refine DM rfl rfl rfl ?_
    refine D0 rfl (p_add rfl rfl) rfl rfl ?_
    obtain ⟨e31,he31,hX⟩:=bind_some hX
    refine DR1 (gc:=true) rfl (vok_p (C:=cx) (p_iaO (xs:=data15) kd33 ty38 rfl rfl rfl nd (j:=0) rfl (fun _=>he31))) rfl rfl ?_
    refine DR1 (gc:=true) rfl (vok_p (C:=cx) (p_ldO (xs:=data15) (a:=e31) (e31:Seal_api) ty38 rfl rfl nd (j:=0) rfl (fun _=>he31) rfl rfl rfl)) rfl rfl ?_
    refine DM rfl rfl rfl ?_
    refine DM rfl rfl rfl ?_
    obtain ⟨e32,he32,hX⟩:=bind_some hX
    refine DR1 (gc:=true) rfl (vok_p (C:=cx) (p_iaO (xs:=data15) kd33 ty38 rfl rfl rfl nd (j:=0) rfl (fun _=>he32))) rfl rfl ?_
    refine DR1 (gc:=true) rfl (vok_p (C:=cx) (p_ldO (xs:=data15) (a:=e32) (e32:Seal_api) ty38 rfl rfl nd (j:=0) rfl (fun _=>he32) rfl rfl rfl)) rfl rfl ?_
    obtain ⟨e33,he33,hX⟩:=bind_some hX
    refine DR1 (gc:=true) rfl (vok_p (C:=cx) (p_iaO (xs:=data15) kd33 ty38 rfl rfl rfl nd (j:=0) rfl (fun _=>he33))) rfl rfl ?_
    refine DR2n rfl ?_
    refine TLc.stW (xs:=data15) (i:=idx18) (lu:=Enc.cl (e31:Seal_api)) (a':=e31) nd ty38 rfl (j:=0) rfl (by simp[Enc.sz]) (inb_of he33 (by simp)) rfl (Cells_v (e31:Seal_api)) rfl (WkL_refl _) fun nd=>?_
    refine TL.nil ⟨.nilp,[(b2,RL (α:=Seal_api) 38 (data15.set idx18.toNat e31))],rfl,rfl,HSub_app nd,?_⟩
    obtain ⟨e34,he34,hX⟩:=bind_some hX
    refine DR1 (gc:=true) rfl (vok_p (C:=cx) (p_iaO (xs:=(data15.set idx18.toNat e31)) (gx:=true) kd33 ty38 rfl (by rw[OL_len (xs:=(data15.set idx18.toNat e31)) (ys:=data15) (by simp)];rfl) rfl nd (j:=0) rfl (fun _=>he34))) rfl rfl ?_
    refine DR2n rfl ?_
    refine TLc.stW (xs:=(data15.set idx18.toNat e31)) (i:=(wr (a3+other30))) (lu:=Enc.cl (e32:Seal_api)) (a':=e32) nd ty38 rfl (j:=0) rfl (by simp[Enc.sz]) (inb_of he34 (by simp)) rfl (Cells_v (e32:Seal_api)) rfl (WkL_refl _) fun nd=>?_
    refine TL.nil ⟨.nilp,[(b2,RL (α:=Seal_api) 38 ((data15.set idx18.toNat e31).set (wr (a3+other30)).toNat e32))],rfl,rfl,HSub_app nd,?_⟩
    refine DRend ?_
    refine hKD _ _ ?_
    refine TL.cv 0 (OL (α:=Seal_api) b2 ((data15.set idx18.toNat e31).set (wr (a3+other30)).toNat e32)) rfl (Wk_eq (OL_len (by simp))) ?_
    refine TL.nil (hK23 _ _ ?_)
    refine TK.reg ?_
    refine M rfl rfl (P1 (p_add rfl rfl) rfl rfl (M rfl rfl (TL.nil ?_)))
    exact ⟨_,(some_in hX).symm,b29,rfl,(Nd.pick nd (is:=[0,1]) Dc),(HSub.pick nd (is:=[0,1]) Dc)⟩
   refine SR fun K35 hK35=>M rfl rfl (M rfl rfl (P1 (p_geq rfl rfl) rfl rfl (TL.nil (hK35 _ _ ?_))))
   refine TK.cond (b:=(decide ((wr ((r25.1&&&(u64 ((r11.toNat:Int)-(1:UInt64).toNat))).toNat:Int))≥(wr (b4-a3))))) rfl (fun hc=>?_) (fun hc=>?_)
   ·have hX:=ite_t hc hX
    refine TK.reg ?_
    refine M rfl rfl (M rfl rfl (P1 (p_sub rfl rfl) rfl rfl (M rfl rfl (TL.nil ?_))))
    exact J27 (wr ((wr ((r25.1&&&(u64 ((r11.toNat:Int)-(1:UInt64).toNat))).toNat:Int))-(wr (b4-a3)))) _ _ ⟨b16,rfl,(Nd.pick nd (is:=[1,0]) Dc),(HSub.pick nd (is:=[1,0]) Dc)⟩ hX
   ·have hX:=ite_f hc hX
    refine TK.skip ?_
    exact J27 (wr ((r25.1&&&(u64 ((r11.toNat:Int)-(1:UInt64).toNat))).toNat:Int)) _ _ ⟨b16,rfl,(Nd.pick nd (is:=[1,0]) Dc),(HSub.pick nd (is:=[1,0]) Dc)⟩ hX
  ·have hX:=ite_f hc hX
   refine TK.exit ?_
   obtain rfl:=hR13 _ (some_in hX).symm
   exact E13 data15 _ _ ⟨(),rfl,(Nd.pick nd (is:=[0]) Dc),(HSub.pick nd (is:=[0]) Dc)⟩ hA13
 ·have hX:=ite_f hc hX
  refine TK.skip ?_
  refine hKE _ _ (TL.nil ?_)
  try dsimp only[thenQ]
  refine RetQ_end ?_
  exact retX (v:= .tup 0 (ofL [])) res0 (by obtain rfl:=some_in hX;exact ⟨rfl,rfl⟩) nd (inH_tup (l:=[]) trivial) ⟨rowIn_RL,trivial⟩
theorem len_slices_breakPatternsCmpFunc_api_SealL {a3:Int} {b4:Int} {g5:Seal_api→Seal_api→Option Int} {data1:(List Seal_api)} {r:(List Seal_api)} (hX:X.slices_breakPatternsCmpFunc_api_SealL a3 b4 g5 data1=some r):r.length=data1.length:=by
 obtain ⟨q,_,h⟩:=bind_some hX
 split at h
 ·injection h with h
  subst h
  assumption
 ·cases h
theorem ok_slices_breakPatternsCmpFunc_api_SealL (a3:Int) (b4:Int) (g5:Seal_api→Seal_api→Option Int) (data1:(List Seal_api)) (b2:Nat) (nd:Nd [(b2,RL (α:=Seal_api) 38 data1)]) (r:(List Seal_api)) (hX:X.slices_breakPatternsCmpFunc_api_SealL a3 b4 g5 data1=some r) {g5V:AV} (hg5V:∃f m c,g5V= .fn f m c∧(∀i,i<m→(c i).val)∧∀(a0:Seal_api) (a1:Seal_api) r,g5 a0 a1=some r→Fun Tryz.prog f ([Enc.v a0,Enc.v a1]++(List.range m).map c) (·=Enc.v r)):TCX Tryz.prog 98 [OL (α:=Seal_api) b2 data1,Enc.v (a3:Int),Enc.v (b4:Int),g5V] [(b2,RL (α:=Seal_api) 38 data1)] (fun rv h'=>rv= .tup 0 (ofL [])∧h'=[(b2,RL (α:=Seal_api) 38 r)]):=by
 obtain ⟨q,h1,h2⟩:=bind_some hX
 split at h2
 ·injection h2 with h2
  subst h2
  exact ok_slices_breakPatternsCmpFunc_api_Seal a3 b4 g5 data1 b2 nd _ h1 hg5V
 ·cases h2
theorem ok_slices_order2CmpFunc_api_Seal (a3:Int) (b4:Int) (g7:Seal_api→Seal_api→Option Int) (data1:(List Seal_api)) (x5:Int) (b2:Nat) (b6:Nat) (nd:Nd [(b2,RL (α:=Seal_api) 38 data1),(b6,RV 3 [Enc.v (x5:Int)])]) (r:(Int×Int×Int)) (hX:X.slices_order2CmpFunc_api_Seal a3 b4 g7 data1 x5=some r) {g7V:AV} (hg7V:∃f m c,g7V= .fn f m c∧(∀i,i<m→(c i).val)∧∀(a0:Seal_api) (a1:Seal_api) r,g7 a0 a1=some r→Fun Tryz.prog f ([Enc.v a0,Enc.v a1]++(List.range m).map c) (·=Enc.v r)):TCX Tryz.prog 126 [OL (α:=Seal_api) b2 data1,Enc.v (a3:Int),Enc.v (b4:Int),.ref b6 0 1,g7V] [(b2,RL (α:=Seal_api) 38 data1),(b6,RV 3 [Enc.v (x5:Int)])] (fun rv h'=>rv= .tup 2 (ofL [Enc.v (r.1:Int),Enc.v (r.2.1:Int)])∧h'=[(b6,RV 3 [Enc.v (r.2.2:Int)]),(b2,RL (α:=Seal_api) 38 data1)]):=by
 obtain ⟨g7f,g7m,g7c,rfl,hg7v,hg7⟩:=hg7V
 have:NoA (.fn g7f g7m g7c):=⟨fun i hi=>(hg7v i hi).no⟩
 refine TCX.of b126 (Nat.le_of_ble_eq_true rfl) ?_
 unfold k126
 unfold X.slices_order2CmpFunc_api_Seal at hX
 refine SR fun K8 hK8=>M rfl rfl (M rfl rfl (TL.nil (hK8 _ _ ?_)))
 refine TK.seq_k fun K9 hK9=>?_
 refine TK.seq_k fun K10 hK10=>?_
 have ndS:Nd [(b2,RL (α:=Seal_api) 38 data1),(b6,RV 3 [Enc.v x5])]:=Nd.pick nd (is:=[0,1]) Dc
 refine TK.drwX (h:=[]) (hS:=[(b2,RL (α:=Seal_api) 38 data1),(b6,RV 3 [Enc.v x5])]) [(0,0),(0,1),(0,2),(0,3),(0,4),(0,5),(0,6),(0,7),(0,8),(0,9),(0,10)] mixed (by kernel_rfl) (HSub_app nd) ?_
 refine DM rfl rfl rfl ?_
 refine DM rfl rfl rfl ?_
 refine DM rfl rfl rfl ?_
 obtain ⟨e11,he11,hX⟩:=bind_some hX
 refine D0 rfl (p_iaO (xs:=data1) kd33 ty38 rfl rfl rfl ndS (j:=0) rfl (fun _=>he11)) rfl rfl ?_
 refine D0 rfl (p_ldO (xs:=data1) (a:=e11) (e11:Seal_api) ty38 rfl rfl ndS (j:=0) rfl (fun _=>he11) rfl rfl rfl) rfl rfl ?_
 refine DM rfl rfl rfl ?_
 refine DM rfl rfl rfl ?_
 obtain ⟨e12,he12,hX⟩:=bind_some hX
 refine D0 rfl (p_iaO (xs:=data1) kd33 ty38 rfl rfl rfl ndS (j:=0) rfl (fun _=>he12)) rfl rfl ?_
 refine D0 rfl (p_ldO (xs:=data1) (a:=e12) (e12:Seal_api) ty38 rfl rfl ndS (j:=0) rfl (fun _=>he12) rfl rfl rfl) rfl rfl ?_
 obtain ⟨r13,hr13,hX⟩:=bind_some hX
 refine DR0 (gc:=true) rfl (vok_c rfl (fun _=>⟨rfl,⟨rfl,⟨rfl,trivial⟩⟩⟩) (fun e=>hg7 e11 e12 _ hr13)) rfl rfl ?_
 refine D0 rfl (p_lss rfl rfl) rfl rfl ?_
 refine DRend ?_
 refine hK10 _ _ ?_
 refine TK.cond (b:=(decide (r13<(0:Int)))) rfl (fun hc=>?_) (fun hc=>?_)
 ·have hX:=ite_t hc hX
  refine SR fun K14 hK14=>M rfl rfl (P1 (p_ncR rfl (fun _=>refOK_of nd (j:=1) rfl rfl)) rfl rfl (P1 (p_ldV (v:=Enc.v x5) ty3 rfl rfl nd (j:=1) rfl rfl rfl rfl rfl) rfl rfl (P1 (p_add rfl rfl) rfl rfl (P1 (p_ncR rfl (fun _=>refOK_of nd (j:=1) rfl rfl)) rfl rfl ?_))))
  refine TLc.stV (lu:=Enc.cl ((wr (x5+(1:Int))):Int)) nd ty3 rfl (j:=1) rfl rfl rfl (Cells_v ((wr (x5+(1:Int))):Int)) rfl rfl [Enc.v ((wr (x5+(1:Int))):Int)] rfl fun nd=>?_
  refine TL.nil (hK14 _ _ (SR fun K15 hK15=>M rfl rfl (M rfl rfl (M rfl rfl (M rfl rfl (TL.nil (hK15 _ _ ?_)))))))
  refine TK.pick [1,0] nd Dc fun nd=>?_
  refine TK.ret ?_
  try dsimp only[thenQ]
  exact retX (v:= .tup 2 (ofL [Enc.v b4,Enc.v a3])) (resN (vs:=[Enc.v b4,Enc.v a3]) ⟨rfl,rfl,trivial⟩) (by obtain rfl:=some_in hX;exact ⟨rfl,rfl⟩) nd (inH_tup (l:=[Enc.v b4,Enc.v a3]) ⟨inH_val (v_val _),inH_val (v_val _),trivial⟩) ⟨rowIn_RV ⟨inH_val (v_val _),trivial⟩,rowIn_RL,trivial⟩
 ·have hX:=ite_f hc hX
  refine TK.skip ?_
  refine hK9 _ _ (SR fun K16 hK16=>M rfl rfl (M rfl rfl (M rfl rfl (M rfl rfl (TL.nil (hK16 _ _ ?_))))))
  refine TK.pick [1,0] nd Dc fun nd=>?_
  refine TK.ret ?_
  try dsimp only[thenQ]
  exact retX (v:= .tup 2 (ofL [Enc.v a3,Enc.v b4])) (resN (vs:=[Enc.v a3,Enc.v b4]) ⟨rfl,rfl,trivial⟩) (by obtain rfl:=some_in hX;exact ⟨rfl,rfl⟩) nd (inH_tup (l:=[Enc.v a3,Enc.v b4]) ⟨inH_val (v_val _),inH_val (v_val _),trivial⟩) ⟨rowIn_RV ⟨inH_val (v_val _),trivial⟩,rowIn_RL,trivial⟩
theorem ok_slices_medianCmpFunc_api_Seal (a3:Int) (b4:Int) (c5:Int) (g8:Seal_api→Seal_api→Option Int) (data1:(List Seal_api)) (x6:Int) (b2:Nat) (b7:Nat) (nd:Nd [(b2,RL (α:=Seal_api) 38 data1),(b7,RV 3 [Enc.v (x6:Int)])]) (r:(Int×Int)) (hX:X.slices_medianCmpFunc_api_Seal a3 b4 c5 g8 data1 x6=some r) {g8V:AV} (hg8V:∃f m c,g8V= .fn f m c∧(∀i,i<m→(c i).val)∧∀(a0:Seal_api) (a1:Seal_api) r,g8 a0 a1=some r→Fun Tryz.prog f ([Enc.v a0,Enc.v a1]++(List.range m).map c) (·=Enc.v r)):TCX Tryz.prog 121 [OL (α:=Seal_api) b2 data1,Enc.v (a3:Int),Enc.v (b4:Int),Enc.v (c5:Int),.ref b7 0 1,g8V] [(b2,RL (α:=Seal_api) 38 data1),(b7,RV 3 [Enc.v (x6:Int)])] (fun rv h'=>rv=Enc.v (r.1:Int)∧h'=[(b7,RV 3 [Enc.v (r.2:Int)]),(b2,RL (α:=Seal_api) 38 data1)]):=by
 obtain ⟨g8f,g8m,g8c,rfl,hg8v,hg8⟩:=hg8V
 have:NoA (.fn g8f g8m g8c):=⟨fun i hi=>(hg8v i hi).no⟩
 refine TCX.of b121 (Nat.le_of_ble_eq_true rfl) ?_
 unfold k121
 unfold X.slices_medianCmpFunc_api_Seal at hX
 refine SR fun K9 hK9=>M rfl rfl (TL.nil (hK9 _ _ (SR fun K10 hK10=>M rfl rfl (M rfl rfl (M rfl rfl (M rfl rfl (M rfl rfl ?_)))))))
 obtain ⟨r11,hr11,hX⟩:=bind_some hX
 refine TL.tcX [(b2,RL (α:=Seal_api) 38 data1),(b7,RV 3 [Enc.v x6])] [] rfl nd (dlt rfl) rfl ⟨rfl,⟨rfl,⟨rfl,⟨rfl,⟨rfl,⟨rfl,trivial⟩⟩⟩⟩⟩⟩ (ok_slices_order2CmpFunc_api_Seal a3 b4 g8 data1 x6 b2 b7 (Nd.take nd 2 rfl) _ hr11 ⟨_,_,_,rfl,hg8v,hg8⟩) ?_
 rintro _ _ hQ nd
 obtain ⟨rfl,rfl⟩:=hQ
 refine M rfl rfl (P1 (p_ex rfl rfl Dc) rfl rfl (P1 (p_ex rfl rfl Dc) rfl rfl (M rfl rfl (M rfl rfl (TL.nil (hK10 _ _ (SR fun K13 hK13=>M rfl rfl (M rfl rfl (M rfl rfl (M rfl rfl (M rfl rfl ?_)))))))))))
 obtain ⟨r14,hr14,hX⟩:=bind_some hX
 refine TL.pick [1,0] nd Dc fun nd=>?_
 refine TL.tcX [(b2,RL (α:=Seal_api) 38 data1),(b7,RV 3 [Enc.v r11.2.2])] [] rfl nd (dlt rfl) rfl ⟨rfl,⟨rfl,⟨rfl,⟨rfl,⟨rfl,⟨rfl,trivial⟩⟩⟩⟩⟩⟩ (ok_slices_order2CmpFunc_api_Seal r11.2.1 c5 g8 data1 r11.2.2 b2 b7 (Nd.take nd 2 rfl) _ hr14 ⟨_,_,_,rfl,hg8v,hg8⟩) ?_
 rintro _ _ hQ nd
 obtain ⟨rfl,rfl⟩:=hQ
 refine M rfl rfl (P1 (p_ex rfl rfl Dc) rfl rfl (P1 (p_ex rfl rfl Dc) rfl rfl (M rfl rfl (M rfl rfl (TL.nil (hK13 _ _ (SR fun K16 hK16=>M rfl rfl (M rfl rfl (M rfl rfl (M rfl rfl (M rfl rfl ?_)))))))))))
 obtain ⟨r17,hr17,hX⟩:=bind_some hX
 refine TL.pick [1,0] nd Dc fun nd=>?_
 refine TL.tcX [(b2,RL (α:=Seal_api) 38 data1),(b7,RV 3 [Enc.v r14.2.2])] [] rfl nd (dlt rfl) rfl ⟨rfl,⟨rfl,⟨rfl,⟨rfl,⟨rfl,⟨rfl,trivial⟩⟩⟩⟩⟩⟩ (ok_slices_order2CmpFunc_api_Seal r11.1 r14.1 g8 data1 r14.2.2 b2 b7 (Nd.take nd 2 rfl) _ hr17 ⟨_,_,_,rfl,hg8v,hg8⟩) ?_
 rintro _ _ hQ nd
 obtain ⟨rfl,rfl⟩:=hQ
 refine M rfl rfl (P1 (p_ex rfl rfl Dc) rfl rfl (P1 (p_ex rfl rfl Dc) rfl rfl (M rfl rfl (M rfl rfl (TL.nil (hK16 _ _ (SR fun K19 hK19=>M rfl rfl (M rfl rfl (TL.nil (hK19 _ _ ?_))))))))))
 refine TK.ret ?_
 try dsimp only[thenQ]
 exact retX (v:=Enc.v r17.2.1) (res1 rfl) (by obtain rfl:=some_in hX;exact ⟨rfl,rfl⟩) nd (inH_val (v_val _)) ⟨rowIn_RV ⟨inH_val (v_val _),trivial⟩,rowIn_RL,trivial⟩
theorem ok_slices_medianAdjacentCmpFunc_api_Seal (a3:Int) (g6:Seal_api→Seal_api→Option Int) (data1:(List Seal_api)) (x4:Int) (b2:Nat) (b5:Nat) (nd:Nd [(b2,RL (α:=Seal_api) 38 data1),(b5,RV 3 [Enc.v (x4:Int)])]) (r:(Int×Int)) (hX:X.slices_medianAdjacentCmpFunc_api_Seal a3 g6 data1 x4=some r) {g6V:AV} (hg6V:∃f m c,g6V= .fn f m c∧(∀i,i<m→(c i).val)∧∀(a0:Seal_api) (a1:Seal_api) r,g6 a0 a1=some r→Fun Tryz.prog f ([Enc.v a0,Enc.v a1]++(List.range m).map c) (·=Enc.v r)):TCX Tryz.prog 120 [OL (α:=Seal_api) b2 data1,Enc.v (a3:Int),.ref b5 0 1,g6V] [(b2,RL (α:=Seal_api) 38 data1),(b5,RV 3 [Enc.v (x4:Int)])] (fun rv h'=>rv=Enc.v (r.1:Int)∧h'=[(b5,RV 3 [Enc.v (r.2:Int)]),(b2,RL (α:=Seal_api) 38 data1)]):=by
 obtain ⟨g6f,g6m,g6c,rfl,hg6v,hg6⟩:=hg6V
 have:NoA (.fn g6f g6m g6c):=⟨fun i hi=>(hg6v i hi).no⟩
 refine TCX.of b120 (Nat.le_of_ble_eq_true rfl) ?_
 unfold k120
 unfold X.slices_medianAdjacentCmpFunc_api_Seal at hX
 refine SR fun K7 hK7=>M rfl rfl (TL.nil (hK7 _ _ (SR fun K8 hK8=>M rfl rfl (M rfl rfl (P1 (p_sub rfl rfl) rfl rfl (M rfl rfl (M rfl rfl (P1 (p_add rfl rfl) rfl rfl (M rfl rfl (M rfl rfl ?_))))))))))
 obtain ⟨r9,hr9,hX⟩:=bind_some hX
 refine TL.tcX [(b2,RL (α:=Seal_api) 38 data1),(b5,RV 3 [Enc.v x4])] [] rfl nd (dlt rfl) rfl ⟨rfl,⟨rfl,⟨rfl,⟨rfl,⟨rfl,⟨rfl,⟨rfl,trivial⟩⟩⟩⟩⟩⟩⟩ (ok_slices_medianCmpFunc_api_Seal (wr (a3-(1:Int))) a3 (wr (a3+(1:Int))) g6 data1 x4 b2 b5 (Nd.take nd 2 rfl) _ hr9 ⟨_,_,_,rfl,hg6v,hg6⟩) ?_
 rintro _ _ hQ nd
 obtain ⟨rfl,rfl⟩:=hQ
 refine M rfl rfl (TL.nil (hK8 _ _ ?_))
 refine TK.ret ?_
 try dsimp only[thenQ]
 exact retX (v:=Enc.v r9.1) (res1 rfl) (by obtain rfl:=some_in hX;exact ⟨rfl,rfl⟩) nd (inH_val (v_val _)) ⟨rowIn_RV ⟨inH_val (v_val _),trivial⟩,rowIn_RL,trivial⟩
theorem ok_slices_choosePivotCmpFunc_api_Seal (a3:Int) (b4:Int) (g5:Seal_api→Seal_api→Option Int) (data1:(List Seal_api)) (b2:Nat) (nd:Nd [(b2,RL (α:=Seal_api) 38 data1)]) (r:(Int×Int)) (hX:X.slices_choosePivotCmpFunc_api_Seal a3 b4 g5 data1=some r) {g5V:AV} (hg5V:∃f m c,g5V= .fn f m c∧(∀i,i<m→(c i).val)∧∀(a0:Seal_api) (a1:Seal_api) r,g5 a0 a1=some r→Fun Tryz.prog f ([Enc.v a0,Enc.v a1]++(List.range m).map c) (·=Enc.v r)):TCX Tryz.prog 99 [OL (α:=Seal_api) b2 data1,Enc.v (a3:Int),Enc.v (b4:Int),g5V] [(b2,RL (α:=Seal_api) 38 data1)] (fun rv h'=>rv= .tup 2 (ofL [Enc.v (r.1:Int),Enc.v (r.2:Int)])∧h'=[(b2,RL (α:=Seal_api) 38 data1)]):=by
 obtain ⟨g5f,g5m,g5c,rfl,hg5v,hg5⟩:=hg5V
 have:NoA (.fn g5f g5m g5c):=⟨fun i hi=>(hg5v i hi).no⟩
 refine TCX.of b99 (Nat.le_of_ble_eq_true rfl) ?_
 unfold k99
 unfold X.slices_choosePivotCmpFunc_api_Seal at hX
 refine SR fun K6 hK6=>M rfl rfl (M rfl rfl (TL.nil (hK6 _ _ (SR fun K7 hK7=>M rfl rfl (M rfl rfl (P1 (p_sub rfl rfl) rfl rfl (M rfl rfl (TL.nil (hK7 _ _ (SR fun K8 hK8=>?_))))))))))
 refine TLc.alO (l:=[Enc.v ((0:Int):Int)]) nd ty3 ti3_z rfl rfl fun b9 nd=>?_
 refine TL.nil (hK8 _ _ (SR fun K10 hK10=>M rfl rfl (M rfl rfl (P1 (p_quo rfl rfl (fun _=>by decide)) rfl rfl (P1 (p_mul rfl rfl) rfl rfl (P1 (p_add rfl rfl) rfl rfl (M rfl rfl (TL.nil (hK10 _ _ (SR fun K11 hK11=>M rfl rfl (M rfl rfl (P1 (p_quo rfl rfl (fun _=>by decide)) rfl rfl (P1 (p_mul rfl rfl) rfl rfl (P1 (p_add rfl rfl) rfl rfl ?_))))))))))))))
 refine M rfl rfl (TL.nil (hK11 _ _ (SR fun K12 hK12=>M rfl rfl (M rfl rfl (P1 (p_quo rfl rfl (fun _=>by decide)) rfl rfl (P1 (p_mul rfl rfl) rfl rfl (P1 (p_add rfl rfl) rfl rfl (M rfl rfl (TL.nil (hK12 _ _ ?_))))))))))
 refine TK.seq_k fun K13 hK13=>?_
 have J13:∀(c16:Int) (j17:Int) (env:Env) (h:Hp),(∃b15,keepE [0,11,13] env=[(0,true,OL b2 data1),(11,true,.ref b15 0 1),(13,true,Enc.v j17)]∧Nd [(b2,RL (α:=Seal_api) 38 data1),(b15,RV 3 [Enc.v c16])]∧HSub [(b2,RL (α:=Seal_api) 38 data1),(b15,RV 3 [Enc.v c16])] h)→X.slices_choosePivotCmpFunc_api_Seal_j13 c16 j17=some r→K13 env h:=by
  intro c16 j17 env h hE hX
  obtain ⟨b15,henv,nd,hs⟩:=hE
  unfold X.slices_choosePivotCmpFunc_api_Seal_j13 at hX
  refine hK13 _ _ (TK.keep [0,11,13] ?_)
  rw[henv]
  refine TK.subH hs ?_
  refine SR fun K18 hK18=>P1 (p_ldV (v:=Enc.v c16) ty3 rfl rfl nd (j:=1) rfl rfl rfl rfl rfl) rfl rfl (TL.nil (hK18 _ _ ?_))
  refine TK.block ?_
  refine SR fun K19 hK19=>P1 (p_eql rfl rfl) rfl rfl (M rfl rfl (TL.nil (hK19 _ _ ?_)))
  refine TK.cond (b:=(c16==(0:Int))) rfl (fun hc=>?_) (fun hc=>?_)
  ·have hX:=ite_t hc hX
   refine SR fun K20 hK20=>M rfl rfl (M rfl rfl (M rfl rfl (TL.nil (hK20 _ _ ?_))))
   refine TK.pick [0] nd Dc fun nd=>?_
   refine TK.ret ?_
   try dsimp only[thenQ]
   exact retX (v:= .tup 2 (ofL [Enc.v j17,Enc.v ((1:Int):Int)])) (resN (vs:=[Enc.v j17,Enc.v ((1:Int):Int)]) ⟨rfl,rfl,trivial⟩) (by obtain rfl:=some_in hX;exact ⟨rfl,rfl⟩) nd (inH_tup (l:=[Enc.v j17,Enc.v ((1:Int):Int)]) ⟨inH_val (v_val _),inH_val (v_val _),trivial⟩) ⟨rowIn_RL,trivial⟩
  ·have hX:=ite_f hc hX
   refine SR fun K21 hK21=>P1 (p_eql rfl rfl) rfl rfl (M rfl rfl (TL.nil (hK21 _ _ ?_)))
   refine TK.cond (b:=(c16==(12:Int))) rfl (fun hc=>?_) (fun hc=>?_)
   ·have hX:=ite_t hc hX
    refine SR fun K22 hK22=>M rfl rfl (M rfl rfl (M rfl rfl (TL.nil (hK22 _ _ ?_))))
    refine TK.pick [0] nd Dc fun nd=>?_
    refine TK.ret ?_
    try dsimp only[thenQ]
    exact retX (v:= .tup 2 (ofL [Enc.v j17,Enc.v ((2:Int):Int)])) (resN (vs:=[Enc.v j17,Enc.v ((2:Int):Int)]) ⟨rfl,rfl,trivial⟩) (by obtain rfl:=some_in hX;exact ⟨rfl,rfl⟩) nd (inH_tup (l:=[Enc.v j17,Enc.v ((2:Int):Int)]) ⟨inH_val (v_val _),inH_val (v_val _),trivial⟩) ⟨rowIn_RL,trivial⟩
   ·have hX:=ite_f hc hX
    refine SR fun K23 hK23=>M rfl rfl (M rfl rfl (M rfl rfl (TL.nil (hK23 _ _ ?_))))
    refine TK.pick [0] nd Dc fun nd=>?_
    refine TK.ret ?_
    try dsimp only[thenQ]
    exact retX (v:= .tup 2 (ofL [Enc.v j17,Enc.v ((0:Int):Int)])) (resN (vs:=[Enc.v j17,Enc.v ((0:Int):Int)]) ⟨rfl,rfl,trivial⟩) (by obtain rfl:=some_in hX;exact ⟨rfl,rfl⟩) nd (inH_tup (l:=[Enc.v j17,Enc.v ((0:Int):Int)]) ⟨inH_val (v_val _),inH_val (v_val _),trivial⟩) ⟨rowIn_RL,trivial⟩
 refine SR fun K24 hK24=>M rfl rfl (P1 (p_geq rfl rfl) rfl rfl (TL.nil (hK24 _ _ ?_)))
 refine TK.cond (b:=(decide ((wr (b4-a3))≥(8:Int)))) rfl (fun hc=>?_) (fun hc=>?_)
 ·have hX:=ite_t hc hX
  refine TK.seq_k fun K25 hK25=>?_
  have J25:∀(c28:Int) (i29:Int) (j30:Int) (k31:Int) (env:Env) (h:Hp),(∃b27,keepE [0,3,11,12,13,14] env=[(0,true,OL b2 data1),(3,true,.fn g5f g5m g5c),(11,true,.ref b27 0 1),(12,true,Enc.v i29),(13,true,Enc.v j30),(14,true,Enc.v k31)]∧Nd [(b2,RL (α:=Seal_api) 38 data1),(b27,RV 3 [Enc.v c28])]∧HSub [(b2,RL (α:=Seal_api) 38 data1),(b27,RV 3 [Enc.v c28])] h)→X.slices_choosePivotCmpFunc_api_Seal_j25 g5 data1 c28 i29 j30 k31=some r→K25 env h:=by
   intro c28 i29 j30 k31 env h hE hX
   obtain ⟨b27,henv,nd,hs⟩:=hE
   unfold X.slices_choosePivotCmpFunc_api_Seal_j25 at hX
   refine hK25 _ _ (TK.keep [0,3,11,12,13,14] ?_)
   rw[henv]
   refine TK.subH hs ?_
   refine TK.reg ?_
   refine M rfl rfl (M rfl rfl (M rfl rfl (M rfl rfl (M rfl rfl ?_))))
   obtain ⟨r32,hr32,hX⟩:=bind_some hX
   refine TL.tcX [(b2,RL (α:=Seal_api) 38 data1),(b27,RV 3 [Enc.v c28])] [] rfl nd (dlt rfl) rfl ⟨rfl,⟨rfl,⟨rfl,⟨rfl,⟨rfl,⟨rfl,⟨rfl,trivial⟩⟩⟩⟩⟩⟩⟩ (ok_slices_medianCmpFunc_api_Seal i29 j30 k31 g5 data1 c28 b2 b27 (Nd.take nd 2 rfl) _ hr32 ⟨_,_,_,rfl,hg5v,hg5⟩) ?_
   rintro _ _ hQ nd
   obtain ⟨rfl,rfl⟩:=hQ
   refine M rfl rfl (TL.nil ?_)
   exact J13 r32.2 r32.1 _ _ ⟨b27,rfl,(Nd.pick nd (is:=[1,0]) Dc),(HSub.pick nd (is:=[1,0]) Dc)⟩ hX
  refine SR fun K34 hK34=>M rfl rfl (P1 (p_geq rfl rfl) rfl rfl (TL.nil (hK34 _ _ ?_)))
  refine TK.cond (b:=(decide ((wr (b4-a3))≥(50:Int)))) rfl (fun hc=>?_) (fun hc=>?_)
  ·have hX:=ite_t hc hX
   refine SR fun K35 hK35=>M rfl rfl (M rfl rfl (M rfl rfl ?_))
   obtain ⟨r36,hr36,hX⟩:=bind_some hX
   refine TL.pick [1,0] nd Dc fun nd=>?_
   refine TL.tcX [(b2,RL (α:=Seal_api) 38 data1),(b9,RV 3 [Enc.v ((0:Int):Int)])] [] rfl nd (dlt rfl) rfl ⟨rfl,⟨rfl,⟨rfl,⟨rfl,⟨rfl,trivial⟩⟩⟩⟩⟩ (ok_slices_medianAdjacentCmpFunc_api_Seal (wr (a3+(wr ((wr ((wr (b4-a3)).tdiv (4:Int)))*(1:Int))))) g5 data1 (0:Int) b2 b9 (Nd.take nd 2 rfl) _ hr36 ⟨_,_,_,rfl,hg5v,hg5⟩) ?_
   rintro _ _ hQ nd
   obtain ⟨rfl,rfl⟩:=hQ
   refine M rfl rfl (TL.nil (hK35 _ _ (SR fun K38 hK38=>M rfl rfl (M rfl rfl (M rfl rfl ?_)))))
   obtain ⟨r39,hr39,hX⟩:=bind_some hX
   refine TL.pick [1,0] nd Dc fun nd=>?_
   refine TL.tcX [(b2,RL (α:=Seal_api) 38 data1),(b9,RV 3 [Enc.v r36.2])] [] rfl nd (dlt rfl) rfl ⟨rfl,⟨rfl,⟨rfl,⟨rfl,⟨rfl,trivial⟩⟩⟩⟩⟩ (ok_slices_medianAdjacentCmpFunc_api_Seal (wr (a3+(wr ((wr ((wr (b4-a3)).tdiv (4:Int)))*(2:Int))))) g5 data1 r36.2 b2 b9 (Nd.take nd 2 rfl) _ hr39 ⟨_,_,_,rfl,hg5v,hg5⟩) ?_
   rintro _ _ hQ nd
   obtain ⟨rfl,rfl⟩:=hQ
   refine M rfl rfl (TL.nil (hK38 _ _ ?_))
   refine TK.reg ?_
   refine M rfl rfl (M rfl rfl (M rfl rfl ?_))
   obtain ⟨r41,hr41,hX⟩:=bind_some hX
   refine TL.pick [1,0] nd Dc fun nd=>?_
   refine TL.tcX [(b2,RL (α:=Seal_api) 38 data1),(b9,RV 3 [Enc.v r39.2])] [] rfl nd (dlt rfl) rfl ⟨rfl,⟨rfl,⟨rfl,⟨rfl,⟨rfl,trivial⟩⟩⟩⟩⟩ (ok_slices_medianAdjacentCmpFunc_api_Seal (wr (a3+(wr ((wr ((wr (b4-a3)).tdiv (4:Int)))*(3:Int))))) g5 data1 r39.2 b2 b9 (Nd.take nd 2 rfl) _ hr41 ⟨_,_,_,rfl,hg5v,hg5⟩) ?_
   rintro _ _ hQ nd
   obtain ⟨rfl,rfl⟩:=hQ
   refine M rfl rfl (TL.nil ?_)
   exact J25 r41.2 r36.1 r39.1 r41.1 _ _ ⟨b9,rfl,(Nd.pick nd (is:=[1,0]) Dc),(HSub.pick nd (is:=[1,0]) Dc)⟩ hX
  ·have hX:=ite_f hc hX
   refine TK.skip ?_
   exact J25 (0:Int) (wr (a3+(wr ((wr ((wr (b4-a3)).tdiv (4:Int)))*(1:Int))))) (wr (a3+(wr ((wr ((wr (b4-a3)).tdiv (4:Int)))*(2:Int))))) (wr (a3+(wr ((wr ((wr (b4-a3)).tdiv (4:Int)))*(3:Int))))) _ _ ⟨b9,rfl,(Nd.pick nd (is:=[1,0]) Dc),(HSub.pick nd (is:=[1,0]) Dc)⟩ hX
 ·have hX:=ite_f hc hX
  refine TK.skip ?_
  exact J13 (0:Int) (wr (a3+(wr ((wr ((wr (b4-a3)).tdiv (4:Int)))*(2:Int))))) _ _ ⟨b9,rfl,(Nd.pick nd (is:=[1,0]) Dc),(HSub.pick nd (is:=[1,0]) Dc)⟩ hX
theorem ok_slices_partialInsertionSortCmpFunc_api_Seal (a3:Int) (b4:Int) (g5:Seal_api→Seal_api→Option Int) (data1:(List Seal_api)) (b2:Nat) (nd:Nd [(b2,RL (α:=Seal_api) 38 data1)]) (r:(Bool×(List Seal_api))) (hX:X.slices_partialInsertionSortCmpFunc_api_Seal a3 b4 g5 data1=some r) {g5V:AV} (hg5V:∃f m c,g5V= .fn f m c∧(∀i,i<m→(c i).val)∧∀(a0:Seal_api) (a1:Seal_api) r,g5 a0 a1=some r→Fun Tryz.prog f ([Enc.v a0,Enc.v a1]++(List.range m).map c) (·=Enc.v r)):TCX Tryz.prog 101 [OL (α:=Seal_api) b2 data1,Enc.v (a3:Int),Enc.v (b4:Int),g5V] [(b2,RL (α:=Seal_api) 38 data1)] (fun rv h'=>rv=Enc.v (r.1:Bool)∧h'=[(b2,RL (α:=Seal_api) 38 r.2)]):=by
 obtain ⟨g5f,g5m,g5c,rfl,hg5v,hg5⟩:=hg5V
 have:NoA (.fn g5f g5m g5c):=⟨fun i hi=>(hg5v i hi).no⟩
 refine TCX.of b101 (Nat.le_of_ble_eq_true rfl) ?_
 unfold k101
 unfold X.slices_partialInsertionSortCmpFunc_api_Seal at hX
 refine SR fun K6 hK6=>M rfl rfl (TL.nil (hK6 _ _ (SR fun K7 hK7=>M rfl rfl (P1 (p_add rfl rfl) rfl rfl (M rfl rfl (TL.nil (hK7 _ _ ?_)))))))
 refine TK.seq_k fun K8 hK8=>?_
 refine SR fun K9 hK9=>M rfl rfl (TL.nil (hK9 _ _ ?_))
 refine TK.block ?_
 obtain ⟨o10,hO10,hA10⟩:=bind_some hX
 have E10:∀(l16:List Seal_api) (env:Env) (h:Hp),(∃_u:Unit,keepE [0] env=[(0,true,OL b2 l16)]∧Nd [(b2,RL (α:=Seal_api) 38 l16)]∧HSub [(b2,RL (α:=Seal_api) 38 l16)] h)→X.slices_partialInsertionSortCmpFunc_api_Seal_e10 l16=some r→K8 env h:=by
  intro l16 env h hE hX
  obtain ⟨_u,henv,nd,hs⟩:=hE
  unfold X.slices_partialInsertionSortCmpFunc_api_Seal_e10 at hX
  refine hK8 _ _ (TK.keep [0] ?_)
  rw[henv]
  refine TK.subH hs ?_
  refine SR fun K17 hK17=>M rfl rfl (TL.nil (hK17 _ _ ?_))
  refine TK.ret ?_
  try dsimp only[thenQ]
  exact retX (v:=Enc.v false) (res1 rfl) (by obtain rfl:=some_in hX;exact ⟨rfl,rfl⟩) nd (inH_val (v_val _)) ⟨rowIn_RL,trivial⟩
 refine TK.iter [0,1,2,3,9,10] (fun s env h=>match s with|(data12,i13,j14)=>∃_u:Unit,env=[(0,true,OL b2 data12),(1,true,Enc.v a3),(2,true,Enc.v b4),(3,true,.fn g5f g5m g5c),(9,true,Enc.v i13),(10,true,Enc.v j14)]∧Nd [(b2,RL (α:=Seal_api) 38 data12)]∧HSub [(b2,RL (α:=Seal_api) 38 data12)] h) hO10 ⟨(),rfl,(Nd.pick nd (is:=[0]) Dc),(HSub.pick nd (is:=[0]) Dc)⟩ ?_
 rintro ⟨data12,i13,j14⟩ env h x10x ⟨_u,rfl,nd,hs⟩ hX hR10
 refine TK.subH hs ?_
 unfold X.slices_partialInsertionSortCmpFunc_api_Seal_s10 at hX
 try dsimp only at hX
 refine TK.seq_k fun K18 hK18=>?_
 refine SR fun K19 hK19=>M rfl rfl (P1 (p_lss rfl rfl) rfl rfl (TL.nil (hK19 _ _ ?_)))
 refine TK.cond (b:=(decide (j14<(5:Int)))) rfl (fun hc=>?_) (fun hc=>?_)
 ·have hX:=ite_t hc hX
  refine TK.skip ?_
  refine hK18 _ _ ?_
  refine TK.seq_k fun K20 hK20=>?_
  have J20:∀(l22:List Seal_api) (i23:Int) (env:Env) (h:Hp),(∃_u:Unit,keepE [0,1,2,3,9,10] env=[(0,true,OL b2 l22),(1,true,Enc.v a3),(2,true,Enc.v b4),(3,true,.fn g5f g5m g5c),(9,true,Enc.v i23),(10,true,Enc.v j14)]∧Nd [(b2,RL (α:=Seal_api) 38 l22)]∧HSub [(b2,RL (α:=Seal_api) 38 l22)] h)→X.slices_partialInsertionSortCmpFunc_api_Seal_j20 j14 l22 i23=some x10x→K20 env h:=by
   intro l22 i23 env h hE hX
   obtain ⟨_u,henv,nd,hs⟩:=hE
   unfold X.slices_partialInsertionSortCmpFunc_api_Seal_j20 at hX
   refine hK20 _ _ (TK.keep [0,1,2,3,9,10] ?_)
   rw[henv]
   refine TK.subH hs ?_
   refine TK.reg ?_
   refine M rfl rfl (P1 (p_add rfl rfl) rfl rfl (M rfl rfl (TL.nil ?_)))
   exact ⟨_,(some_in hX).symm,(),rfl,(Nd.pick nd (is:=[0]) Dc),(HSub.pick nd (is:=[0]) Dc)⟩
  refine TK.block ?_
  refine TK.seq_k fun K24 hK24=>?_
  refine TK.block ?_
  obtain ⟨o25,hO25,hA25⟩:=bind_some hX
  have E25:∀(i29:Int) (env:Env) (h:Hp),(∃_u:Unit,keepE [0,1,2,3,9,10] env=[(0,true,OL b2 data12),(1,true,Enc.v a3),(2,true,Enc.v b4),(3,true,.fn g5f g5m g5c),(9,true,Enc.v i29),(10,true,Enc.v j14)]∧Nd [(b2,RL (α:=Seal_api) 38 data12)]∧HSub [(b2,RL (α:=Seal_api) 38 data12)] h)→X.slices_partialInsertionSortCmpFunc_api_Seal_e25 b4 data12 a3 g5 j14 i29=some x10x→K24 env h:=by
   intro i29 env h hE hX
   obtain ⟨_u,henv,nd,hs⟩:=hE
   unfold X.slices_partialInsertionSortCmpFunc_api_Seal_e25 at hX
   refine hK24 _ _ (TK.keep [0,1,2,3,9,10] ?_)
   rw[henv]
   refine TK.subH hs ?_
   refine TK.seq_k fun K30 hK30=>?_
   refine SR fun K31 hK31=>M rfl rfl (M rfl rfl (P1 (p_eql rfl rfl) rfl rfl (TL.nil (hK31 _ _ ?_))))
   refine TK.cond (b:=(i29==b4)) rfl (fun hc=>?_) (fun hc=>?_)
   ·have hX:=ite_t hc hX
    refine SR fun K32 hK32=>M rfl rfl (TL.nil (hK32 _ _ ?_))
    refine TK.ret ?_
    obtain rfl:=hR10 _ (some_in hX).symm
    replace hX:=hA10
    try dsimp only[thenQ]
    exact retX (v:=Enc.v true) (res1 rfl) (by obtain rfl:=some_in hX;exact ⟨rfl,rfl⟩) nd (inH_val (v_val _)) ⟨rowIn_RL,trivial⟩
   ·have hX:=ite_f hc hX
    refine TK.skip ?_
    refine hK30 _ _ ?_
    refine TK.seq_k fun K33 hK33=>?_
    refine SR fun K34 hK34=>M rfl rfl (M rfl rfl (P1 (p_sub rfl rfl) rfl rfl (P1 (p_lss rfl rfl) rfl rfl (TL.nil (hK34 _ _ ?_)))))
    refine TK.cond (b:=(decide ((wr (b4-a3))<(50:Int)))) rfl (fun hc=>?_) (fun hc=>?_)
    ·have hX:=ite_t hc hX
     refine SR fun K35 hK35=>M rfl rfl (TL.nil (hK35 _ _ ?_))
     refine TK.ret ?_
     obtain rfl:=hR10 _ (some_in hX).symm
     replace hX:=hA10
     try dsimp only[thenQ]
     exact retX (v:=Enc.v false) (res1 rfl) (by obtain rfl:=some_in hX;exact ⟨rfl,rfl⟩) nd (inH_val (v_val _)) ⟨rowIn_RL,trivial⟩
    ·have hX:=ite_f hc hX
     refine TK.skip ?_
     refine hK33 _ _ ?_
     refine TK.seq_k fun K36 hK36=>?_
     have ndS:Nd []:=Nd.pick nd (is:=[]) Dc
     refine TK.endK fun KD hKD=>?_
     refine TK.drwX (h:=[(b2,RL (α:=Seal_api) 38 data12)]) (hS:=[]) [(0,0),(0,1),(0,2),(0,3),(0,4),(0,5),(0,6),(0,7),(1,8),(1,9),(0,10),(0,11),(1,12),(1,13),(1,14),(2,15),(1,16),(2,17)] mixed (by kernel_rfl) (HSub_app nd) ?_
     refine DM rfl rfl rfl ?_
     refine DM rfl rfl rfl ?_
     refine DM rfl rfl rfl ?_
     refine DM rfl rfl rfl ?_
     refine D0 rfl (p_sub rfl rfl) rfl rfl ?_
     refine DM rfl rfl rfl ?_
     refine DM rfl rfl rfl ?_
     refine D0 rfl (p_sub rfl rfl) rfl rfl ?_
     obtain ⟨e37,he37,hX⟩:=bind_some hX
     refine DR1 (gc:=true) rfl (vok_p (C:=cx) (p_iaO (xs:=data12) kd33 ty38 rfl rfl rfl nd (j:=0) rfl (fun _=>he37))) rfl rfl ?_
     refine DR1 (gc:=true) rfl (vok_p (C:=cx) (p_ldO (xs:=data12) (a:=e37) (e37:Seal_api) ty38 rfl rfl nd (j:=0) rfl (fun _=>he37) rfl rfl rfl)) rfl rfl ?_
     refine DM rfl rfl rfl ?_
     refine DM rfl rfl rfl ?_
     obtain ⟨e38,he38,hX⟩:=bind_some hX
     refine DR1 (gc:=true) rfl (vok_p (C:=cx) (p_iaO (xs:=data12) kd33 ty38 rfl rfl rfl nd (j:=0) rfl (fun _=>he38))) rfl rfl ?_
     refine DR1 (gc:=true) rfl (vok_p (C:=cx) (p_ldO (xs:=data12) (a:=e38) (e38:Seal_api) ty38 rfl rfl nd (j:=0) rfl (fun _=>he38) rfl rfl rfl)) rfl rfl ?_
     obtain ⟨e39,he39,hX⟩:=bind_some hX
     refine DR1 (gc:=true) rfl (vok_p (C:=cx) (p_iaO (xs:=data12) kd33 ty38 rfl rfl rfl nd (j:=0) rfl (fun _=>he39))) rfl rfl ?_
     refine DR2n rfl ?_
     refine TLc.stW (xs:=data12) (i:=i29) (lu:=Enc.cl (e37:Seal_api)) (a':=e37) nd ty38 rfl (j:=0) rfl (by simp[Enc.sz]) (inb_of he39 (by simp)) rfl (Cells_v (e37:Seal_api)) rfl (WkL_refl _) fun nd=>?_
     refine TL.nil ⟨.nilp,[(b2,RL (α:=Seal_api) 38 (data12.set i29.toNat e37))],rfl,rfl,HSub_app nd,?_⟩
     obtain ⟨e40,he40,hX⟩:=bind_some hX
     refine DR1 (gc:=true) rfl (vok_p (C:=cx) (p_iaO (xs:=(data12.set i29.toNat e37)) (gx:=true) kd33 ty38 rfl (by rw[OL_len (xs:=(data12.set i29.toNat e37)) (ys:=data12) (by simp)];rfl) rfl nd (j:=0) rfl (fun _=>he40))) rfl rfl ?_
     refine DR2n rfl ?_
     refine TLc.stW (xs:=(data12.set i29.toNat e37)) (i:=(wr (i29-(1:Int)))) (lu:=Enc.cl (e38:Seal_api)) (a':=e38) nd ty38 rfl (j:=0) rfl (by simp[Enc.sz]) (inb_of he40 (by simp)) rfl (Cells_v (e38:Seal_api)) rfl (WkL_refl _) fun nd=>?_
     refine TL.nil ⟨.nilp,[(b2,RL (α:=Seal_api) 38 ((data12.set i29.toNat e37).set (wr (i29-(1:Int))).toNat e38))],rfl,rfl,HSub_app nd,?_⟩
     refine DRend ?_
     refine hKD _ _ ?_
     refine TL.cv 0 (OL (α:=Seal_api) b2 ((data12.set i29.toNat e37).set (wr (i29-(1:Int))).toNat e38)) rfl (Wk_eq (OL_len (by simp))) ?_
     refine TL.nil (hK36 _ _ ?_)
     refine TK.seq_k fun K41 hK41=>?_
     have J41:∀(l43:List Seal_api) (env:Env) (h:Hp),(∃_u:Unit,keepE [0,1,2,3,9,10] env=[(0,true,OL b2 l43),(1,true,Enc.v a3),(2,true,Enc.v b4),(3,true,.fn g5f g5m g5c),(9,true,Enc.v i29),(10,true,Enc.v j14)]∧Nd [(b2,RL (α:=Seal_api) 38 l43)]∧HSub [(b2,RL (α:=Seal_api) 38 l43)] h)→X.slices_partialInsertionSortCmpFunc_api_Seal_j41 b4 i29 g5 j14 l43=some x10x→K41 env h:=by
      intro l43 env h hE hX
      obtain ⟨_u,henv,nd,hs⟩:=hE
      unfold X.slices_partialInsertionSortCmpFunc_api_Seal_j41 at hX
      refine hK41 _ _ (TK.keep [0,1,2,3,9,10] ?_)
      rw[henv]
      refine TK.subH hs ?_
      refine SR fun K44 hK44=>M rfl rfl (M rfl rfl (P1 (p_sub rfl rfl) rfl rfl (P1 (p_geq rfl rfl) rfl rfl (TL.nil (hK44 _ _ ?_)))))
      refine TK.cond (b:=(decide ((wr (b4-i29))≥(2:Int)))) rfl (fun hc=>?_) (fun hc=>?_)
      ·have hX:=ite_t hc hX
       refine SR fun K45 hK45=>M rfl rfl (P1 (p_add rfl rfl) rfl rfl (M rfl rfl (TL.nil (hK45 _ _ ?_))))
       refine TK.block ?_
       obtain ⟨o46,hO46,hA46⟩:=bind_some hX
       have E46:∀(l51:List Seal_api) (env:Env) (h:Hp),(∃_u:Unit,keepE [0,1,2,3,9,10] env=[(0,true,OL b2 l51),(1,true,Enc.v a3),(2,true,Enc.v b4),(3,true,.fn g5f g5m g5c),(9,true,Enc.v i29),(10,true,Enc.v j14)]∧Nd [(b2,RL (α:=Seal_api) 38 l51)]∧HSub [(b2,RL (α:=Seal_api) 38 l51)] h)→X.slices_partialInsertionSortCmpFunc_api_Seal_e46 j14 i29 l51=some x10x→K20 env h:=by
        intro l51 env h hE hX
        obtain ⟨_u,henv,nd,hs⟩:=hE
        unfold X.slices_partialInsertionSortCmpFunc_api_Seal_e46 at hX
        exact J20 l51 i29 _ _ ⟨(),keep_of henv rfl Dc,(Nd.pick nd (is:=[0]) Dc),(HSub.trans (HSub.pick nd (is:=[0]) Dc) hs)⟩ hX
       refine TK.iter [0,1,2,3,9,10,12] (fun s env h=>match s with|(data48,j49)=>∃_u:Unit,env=[(0,true,OL b2 data48),(1,true,Enc.v a3),(2,true,Enc.v b4),(3,true,.fn g5f g5m g5c),(9,true,Enc.v i29),(10,true,Enc.v j14),(12,true,Enc.v j49)]∧Nd [(b2,RL (α:=Seal_api) 38 data48)]∧HSub [(b2,RL (α:=Seal_api) 38 data48)] h) hO46 ⟨(),rfl,(Nd.pick nd (is:=[0]) Dc),(HSub.pick nd (is:=[0]) Dc)⟩ ?_
       rintro ⟨data48,j49⟩ env h x46x ⟨_u,rfl,nd,hs⟩ hX hR46
       refine TK.subH hs ?_
       unfold X.slices_partialInsertionSortCmpFunc_api_Seal_s46 at hX
       try dsimp only at hX
       refine TK.seq_k fun K52 hK52=>?_
       refine SR fun K53 hK53=>M rfl rfl (M rfl rfl (P1 (p_lss rfl rfl) rfl rfl (TL.nil (hK53 _ _ ?_))))
       refine TK.cond (b:=(decide (j49<b4))) rfl (fun hc=>?_) (fun hc=>?_)
       ·have hX:=ite_t hc hX
        refine TK.skip ?_
        refine hK52 _ _ ?_
        refine TK.seq_k fun K54 hK54=>?_
        refine TK.block ?_
        refine TK.seq_k fun K55 hK55=>?_
        refine TK.seq_k fun K56 hK56=>?_
        have ndS:Nd [(b2,RL (α:=Seal_api) 38 data48)]:=Nd.pick nd (is:=[0]) Dc
        refine TK.drwX (h:=[]) (hS:=[(b2,RL (α:=Seal_api) 38 data48)]) [(0,0),(0,1),(0,2),(0,3),(0,4),(0,5),(0,6),(0,7),(0,8),(0,9),(0,10),(0,11),(0,12)] mixed (by kernel_rfl) (HSub_app nd) ?_
        refine DM rfl rfl rfl ?_
        refine DM rfl rfl rfl ?_
        refine DM rfl rfl rfl ?_
        obtain ⟨e57,he57,hX⟩:=bind_some hX
        refine D0 rfl (p_iaO (xs:=data48) kd33 ty38 rfl rfl rfl ndS (j:=0) rfl (fun _=>he57)) rfl rfl ?_
        refine D0 rfl (p_ldO (xs:=data48) (a:=e57) (e57:Seal_api) ty38 rfl rfl ndS (j:=0) rfl (fun _=>he57) rfl rfl rfl) rfl rfl ?_
        refine DM rfl rfl rfl ?_
        refine DM rfl rfl rfl ?_
        refine D0 rfl (p_sub rfl rfl) rfl rfl ?_
        obtain ⟨e58,he58,hX⟩:=bind_some hX
        refine D0 rfl (p_iaO (xs:=data48) kd33 ty38 rfl rfl rfl ndS (j:=0) rfl (fun _=>he58)) rfl rfl ?_
        refine D0 rfl (p_ldO (xs:=data48) (a:=e58) (e58:Seal_api) ty38 rfl rfl ndS (j:=0) rfl (fun _=>he58) rfl rfl rfl) rfl rfl ?_
        obtain ⟨r59,hr59,hX⟩:=bind_some hX
        refine DR0 (gc:=true) rfl (vok_c rfl (fun _=>⟨rfl,⟨rfl,⟨rfl,trivial⟩⟩⟩) (fun e=>hg5 e57 e58 _ hr59)) rfl rfl ?_
        refine D0 rfl (p_lss rfl rfl) rfl rfl ?_
        refine D0 rfl (p_not rfl) rfl rfl ?_
        refine DRend ?_
        refine hK56 _ _ ?_
        refine TK.cond (b:=(!(decide (r59<(0:Int))))) rfl (fun hc=>?_) (fun hc=>?_)
        ·have hX:=ite_t hc hX
         refine TK.exit ?_
         obtain rfl:=hR46 _ (some_in hX).symm
         exact E46 data48 _ _ ⟨(),rfl,(Nd.pick nd (is:=[0]) Dc),(HSub.pick nd (is:=[0]) Dc)⟩ hA46
        ·have hX:=ite_f hc hX
         refine TK.skip ?_
         refine hK55 _ _ ?_
         have ndS:Nd []:=Nd.pick nd (is:=[]) Dc
         refine TK.endK fun KD hKD=>?_
         refine TK.drwX (h:=[(b2,RL (α:=Seal_api) 38 data48)]) (hS:=[]) [(0,0),(0,1),(0,2),(0,3),(0,4),(0,5),(0,6),(0,7),(1,8),(1,9),(0,10),(0,11),(1,12),(1,13),(1,14),(2,15),(1,16),(2,17)] mixed (by kernel_rfl) (HSub_app nd) ?_
         refine DM rfl rfl rfl ?_
         refine DM rfl rfl rfl ?_
         refine DM rfl rfl rfl ?_
         refine DM rfl rfl rfl ?_
         refine D0 rfl (p_sub rfl rfl) rfl rfl ?_
         refine DM rfl rfl rfl ?_
         refine DM rfl rfl rfl ?_
         refine D0 rfl (p_sub rfl rfl) rfl rfl ?_
         obtain ⟨e60,he60,hX⟩:=bind_some hX
         refine DR1 (gc:=true) rfl (vok_p (C:=cx) (p_iaO (xs:=data48) kd33 ty38 rfl rfl rfl nd (j:=0) rfl (fun _=>he60))) rfl rfl ?_
         refine DR1 (gc:=true) rfl (vok_p (C:=cx) (p_ldO (xs:=data48) (a:=e60) (e60:Seal_api) ty38 rfl rfl nd (j:=0) rfl (fun _=>he60) rfl rfl rfl)) rfl rfl ?_
         refine DM rfl rfl rfl ?_
         refine DM rfl rfl rfl ?_
         obtain ⟨e61,he61,hX⟩:=bind_some hX
         refine DR1 (gc:=true) rfl (vok_p (C:=cx) (p_iaO (xs:=data48) kd33 ty38 rfl rfl rfl nd (j:=0) rfl (fun _=>he61))) rfl rfl ?_
         refine DR1 (gc:=true) rfl (vok_p (C:=cx) (p_ldO (xs:=data48) (a:=e61) (e61:Seal_api) ty38 rfl rfl nd (j:=0) rfl (fun _=>he61) rfl rfl rfl)) rfl rfl ?_
         obtain ⟨e62,he62,hX⟩:=bind_some hX
         refine DR1 (gc:=true) rfl (vok_p (C:=cx) (p_iaO (xs:=data48) kd33 ty38 rfl rfl rfl nd (j:=0) rfl (fun _=>he62))) rfl rfl ?_
         refine DR2n rfl ?_
         refine TLc.stW (xs:=data48) (i:=j49) (lu:=Enc.cl (e60:Seal_api)) (a':=e60) nd ty38 rfl (j:=0) rfl (by simp[Enc.sz]) (inb_of he62 (by simp)) rfl (Cells_v (e60:Seal_api)) rfl (WkL_refl _) fun nd=>?_
         refine TL.nil ⟨.nilp,[(b2,RL (α:=Seal_api) 38 (data48.set j49.toNat e60))],rfl,rfl,HSub_app nd,?_⟩
         obtain ⟨e63,he63,hX⟩:=bind_some hX
         refine DR1 (gc:=true) rfl (vok_p (C:=cx) (p_iaO (xs:=(data48.set j49.toNat e60)) (gx:=true) kd33 ty38 rfl (by rw[OL_len (xs:=(data48.set j49.toNat e60)) (ys:=data48) (by simp)];rfl) rfl nd (j:=0) rfl (fun _=>he63))) rfl rfl ?_
         refine DR2n rfl ?_
         refine TLc.stW (xs:=(data48.set j49.toNat e60)) (i:=(wr (j49-(1:Int)))) (lu:=Enc.cl (e61:Seal_api)) (a':=e61) nd ty38 rfl (j:=0) rfl (by simp[Enc.sz]) (inb_of he63 (by simp)) rfl (Cells_v (e61:Seal_api)) rfl (WkL_refl _) fun nd=>?_
         refine TL.nil ⟨.nilp,[(b2,RL (α:=Seal_api) 38 ((data48.set j49.toNat e60).set (wr (j49-(1:Int))).toNat e61))],rfl,rfl,HSub_app nd,?_⟩
         refine DRend ?_
         refine hKD _ _ ?_
         refine TL.cv 0 (OL (α:=Seal_api) b2 ((data48.set j49.toNat e60).set (wr (j49-(1:Int))).toNat e61)) rfl (Wk_eq (OL_len (by simp))) ?_
         refine TL.nil (hK54 _ _ ?_)
         refine TK.reg ?_
         refine M rfl rfl (P1 (p_add rfl rfl) rfl rfl (M rfl rfl (TL.nil ?_)))
         exact ⟨_,(some_in hX).symm,(),rfl,(Nd.pick nd (is:=[0]) Dc),(HSub.pick nd (is:=[0]) Dc)⟩
       ·have hX:=ite_f hc hX
        refine TK.exit ?_
        obtain rfl:=hR46 _ (some_in hX).symm
        exact E46 data48 _ _ ⟨(),rfl,(Nd.pick nd (is:=[0]) Dc),(HSub.pick nd (is:=[0]) Dc)⟩ hA46
      ·have hX:=ite_f hc hX
       refine TK.skip ?_
       exact J20 l43 i29 _ _ ⟨(),rfl,(Nd.pick nd (is:=[0]) Dc),(HSub.pick nd (is:=[0]) Dc)⟩ hX
     refine SR fun K64 hK64=>M rfl rfl (M rfl rfl (P1 (p_sub rfl rfl) rfl rfl (P1 (p_geq rfl rfl) rfl rfl (TL.nil (hK64 _ _ ?_)))))
     refine TK.cond (b:=(decide ((wr (i29-a3))≥(2:Int)))) rfl (fun hc=>?_) (fun hc=>?_)
     ·have hX:=ite_t hc hX
      refine SR fun K65 hK65=>M rfl rfl (P1 (p_sub rfl rfl) rfl rfl (M rfl rfl (TL.nil (hK65 _ _ ?_))))
      refine TK.block ?_
      obtain ⟨o66,hO66,hA66⟩:=bind_some hX
      have E66:∀(l71:List Seal_api) (env:Env) (h:Hp),(∃_u:Unit,keepE [0,1,2,3,9,10] env=[(0,true,OL b2 l71),(1,true,Enc.v a3),(2,true,Enc.v b4),(3,true,.fn g5f g5m g5c),(9,true,Enc.v i29),(10,true,Enc.v j14)]∧Nd [(b2,RL (α:=Seal_api) 38 l71)]∧HSub [(b2,RL (α:=Seal_api) 38 l71)] h)→X.slices_partialInsertionSortCmpFunc_api_Seal_e66 b4 i29 g5 j14 l71=some x10x→K41 env h:=by
       intro l71 env h hE hX
       obtain ⟨_u,henv,nd,hs⟩:=hE
       unfold X.slices_partialInsertionSortCmpFunc_api_Seal_e66 at hX
       exact J41 l71 _ _ ⟨(),keep_of henv rfl Dc,(Nd.pick nd (is:=[0]) Dc),(HSub.trans (HSub.pick nd (is:=[0]) Dc) hs)⟩ hX
      refine TK.iter [0,1,2,3,9,10,11] (fun s env h=>match s with|(data68,j69)=>∃_u:Unit,env=[(0,true,OL b2 data68),(1,true,Enc.v a3),(2,true,Enc.v b4),(3,true,.fn g5f g5m g5c),(9,true,Enc.v i29),(10,true,Enc.v j14),(11,true,Enc.v j69)]∧Nd [(b2,RL (α:=Seal_api) 38 data68)]∧HSub [(b2,RL (α:=Seal_api) 38 data68)] h) hO66 ⟨(),rfl,(Nd.pick nd (is:=[0]) Dc),(HSub.pick nd (is:=[0]) Dc)⟩ ?_
      rintro ⟨data68,j69⟩ env h x66x ⟨_u,rfl,nd,hs⟩ hX hR66
      refine TK.subH hs ?_
      unfold X.slices_partialInsertionSortCmpFunc_api_Seal_s66 at hX
      try dsimp only at hX
      refine TK.seq_k fun K72 hK72=>?_
      refine SR fun K73 hK73=>M rfl rfl (P1 (p_geq rfl rfl) rfl rfl (TL.nil (hK73 _ _ ?_)))
      refine TK.cond (b:=(decide (j69≥(1:Int)))) rfl (fun hc=>?_) (fun hc=>?_)
      ·have hX:=ite_t hc hX
       refine TK.skip ?_
       refine hK72 _ _ ?_
       refine TK.seq_k fun K74 hK74=>?_
       refine TK.block ?_
       refine TK.seq_k fun K75 hK75=>?_
       refine TK.seq_k fun K76 hK76=>?_
       have ndS:Nd [(b2,RL (α:=Seal_api) 38 data68)]:=Nd.pick nd (is:=[0]) Dc
       refine TK.drwX (h:=[]) (hS:=[(b2,RL (α:=Seal_api) 38 data68)]) [(0,0),(0,1),(0,2),(0,3),(0,4),(0,5),(0,6),(0,7),(0,8),(0,9),(0,10),(0,11),(0,12)] mixed (by kernel_rfl) (HSub_app nd) ?_
       refine DM rfl rfl rfl ?_
       refine DM rfl rfl rfl ?_
       refine DM rfl rfl rfl ?_
       obtain ⟨e77,he77,hX⟩:=bind_some hX
       refine D0 rfl (p_iaO (xs:=data68) kd33 ty38 rfl rfl rfl ndS (j:=0) rfl (fun _=>he77)) rfl rfl ?_
       refine D0 rfl (p_ldO (xs:=data68) (a:=e77) (e77:Seal_api) ty38 rfl rfl ndS (j:=0) rfl (fun _=>he77) rfl rfl rfl) rfl rfl ?_
       refine DM rfl rfl rfl ?_
       refine DM rfl rfl rfl ?_
       refine D0 rfl (p_sub rfl rfl) rfl rfl ?_
       obtain ⟨e78,he78,hX⟩:=bind_some hX
       refine D0 rfl (p_iaO (xs:=data68) kd33 ty38 rfl rfl rfl ndS (j:=0) rfl (fun _=>he78)) rfl rfl ?_
       refine D0 rfl (p_ldO (xs:=data68) (a:=e78) (e78:Seal_api) ty38 rfl rfl ndS (j:=0) rfl (fun _=>he78) rfl rfl rfl) rfl rfl ?_
       obtain ⟨r79,hr79,hX⟩:=bind_some hX
       refine DR0 (gc:=true) rfl (vok_c rfl (fun _=>⟨rfl,⟨rfl,⟨rfl,trivial⟩⟩⟩) (fun e=>hg5 e77 e78 _ hr79)) rfl rfl ?_
       refine D0 rfl (p_lss rfl rfl) rfl rfl ?_
       refine D0 rfl (p_not rfl) rfl rfl ?_
       refine DRend ?_
       refine hK76 _ _ ?_
       refine TK.cond (b:=(!(decide (r79<(0:Int))))) rfl (fun hc=>?_) (fun hc=>?_)
       ·have hX:=ite_t hc hX
        refine TK.exit ?_
        obtain rfl:=hR66 _ (some_in hX).symm
        exact E66 data68 _ _ ⟨(),rfl,(Nd.pick nd (is:=[0]) Dc),(HSub.pick nd (is:=[0]) Dc)⟩ hA66
       ·have hX:=ite_f hc hX
        refine TK.skip ?_
        refine hK75 _ _ ?_
        have ndS:Nd []:=Nd.pick nd (is:=[]) Dc
        refine TK.endK fun KD hKD=>?_
        refine TK.drwX (h:=[(b2,RL (α:=Seal_api) 38 data68)]) (hS:=[]) [(0,0),(0,1),(0,2),(0,3),(0,4),(0,5),(0,6),(0,7),(1,8),(1,9),(0,10),(0,11),(1,12),(1,13),(1,14),(2,15),(1,16),(2,17)] mixed (by kernel_rfl) (HSub_app nd) ?_
        refine DM rfl rfl rfl ?_
        refine DM rfl rfl rfl ?_
        refine DM rfl rfl rfl ?_
        refine DM rfl rfl rfl ?_
        refine D0 rfl (p_sub rfl rfl) rfl rfl ?_
        refine DM rfl rfl rfl ?_
        refine DM rfl rfl rfl ?_
        refine D0 rfl (p_sub rfl rfl) rfl rfl ?_
        obtain ⟨e80,he80,hX⟩:=bind_some hX
        refine DR1 (gc:=true) rfl (vok_p (C:=cx) (p_iaO (xs:=data68) kd33 ty38 rfl rfl rfl nd (j:=0) rfl (fun _=>he80))) rfl rfl ?_
        refine DR1 (gc:=true) rfl (vok_p (C:=cx) (p_ldO (xs:=data68) (a:=e80) (e80:Seal_api) ty38 rfl rfl nd (j:=0) rfl (fun _=>he80) rfl rfl rfl)) rfl rfl ?_
        refine DM rfl rfl rfl ?_
        refine DM rfl rfl rfl ?_
        obtain ⟨e81,he81,hX⟩:=bind_some hX
        refine DR1 (gc:=true) rfl (vok_p (C:=cx) (p_iaO (xs:=data68) kd33 ty38 rfl rfl rfl nd (j:=0) rfl (fun _=>he81))) rfl rfl ?_
        refine DR1 (gc:=true) rfl (vok_p (C:=cx) (p_ldO (xs:=data68) (a:=e81) (e81:Seal_api) ty38 rfl rfl nd (j:=0) rfl (fun _=>he81) rfl rfl rfl)) rfl rfl ?_
        obtain ⟨e82,he82,hX⟩:=bind_some hX
        refine DR1 (gc:=true) rfl (vok_p (C:=cx) (p_iaO (xs:=data68) kd33 ty38 rfl rfl rfl nd (j:=0) rfl (fun _=>he82))) rfl rfl ?_
        refine DR2n rfl ?_
        refine TLc.stW (xs:=data68) (i:=j69) (lu:=Enc.cl (e80:Seal_api)) (a':=e80) nd ty38 rfl (j:=0) rfl (by simp[Enc.sz]) (inb_of he82 (by simp)) rfl (Cells_v (e80:Seal_api)) rfl (WkL_refl _) fun nd=>?_
        refine TL.nil ⟨.nilp,[(b2,RL (α:=Seal_api) 38 (data68.set j69.toNat e80))],rfl,rfl,HSub_app nd,?_⟩
        obtain ⟨e83,he83,hX⟩:=bind_some hX
        refine DR1 (gc:=true) rfl (vok_p (C:=cx) (p_iaO (xs:=(data68.set j69.toNat e80)) (gx:=true) kd33 ty38 rfl (by rw[OL_len (xs:=(data68.set j69.toNat e80)) (ys:=data68) (by simp)];rfl) rfl nd (j:=0) rfl (fun _=>he83))) rfl rfl ?_
        refine DR2n rfl ?_
        refine TLc.stW (xs:=(data68.set j69.toNat e80)) (i:=(wr (j69-(1:Int)))) (lu:=Enc.cl (e81:Seal_api)) (a':=e81) nd ty38 rfl (j:=0) rfl (by simp[Enc.sz]) (inb_of he83 (by simp)) rfl (Cells_v (e81:Seal_api)) rfl (WkL_refl _) fun nd=>?_
        refine TL.nil ⟨.nilp,[(b2,RL (α:=Seal_api) 38 ((data68.set j69.toNat e80).set (wr (j69-(1:Int))).toNat e81))],rfl,rfl,HSub_app nd,?_⟩
        refine DRend ?_
        refine hKD _ _ ?_
        refine TL.cv 0 (OL (α:=Seal_api) b2 ((data68.set j69.toNat e80).set (wr (j69-(1:Int))).toNat e81)) rfl (Wk_eq (OL_len (by simp))) ?_
        refine TL.nil (hK74 _ _ ?_)
        refine TK.reg ?_
        refine M rfl rfl (P1 (p_sub rfl rfl) rfl rfl (M rfl rfl (TL.nil ?_)))
        exact ⟨_,(some_in hX).symm,(),rfl,(Nd.pick nd (is:=[0]) Dc),(HSub.pick nd (is:=[0]) Dc)⟩
      ·have hX:=ite_f hc hX
       refine TK.exit ?_
       obtain rfl:=hR66 _ (some_in hX).symm
       exact E66 data68 _ _ ⟨(),rfl,(Nd.pick nd (is:=[0]) Dc),(HSub.pick nd (is:=[0]) Dc)⟩ hA66
     ·have hX:=ite_f hc hX
      refine TK.skip ?_
      exact J41 ((data12.set i29.toNat e37).set (wr (i29-(1:Int))).toNat e38) _ _ ⟨(),rfl,(Nd.pick nd (is:=[0]) Dc),(HSub.pick nd (is:=[0]) Dc)⟩ hX
  refine TK.iter [0,1,2,3,9,10] (fun s env h=>match s with|i27=>∃_u:Unit,env=[(0,true,OL b2 data12),(1,true,Enc.v a3),(2,true,Enc.v b4),(3,true,.fn g5f g5m g5c),(9,true,Enc.v i27),(10,true,Enc.v j14)]∧Nd [(b2,RL (α:=Seal_api) 38 data12)]∧HSub [(b2,RL (α:=Seal_api) 38 data12)] h) hO25 ⟨(),rfl,(Nd.pick nd (is:=[0]) Dc),(HSub.pick nd (is:=[0]) Dc)⟩ ?_
  rintro i27 env h x25x ⟨_u,rfl,nd,hs⟩ hX hR25
  refine TK.subH hs ?_
  unfold X.slices_partialInsertionSortCmpFunc_api_Seal_s25 at hX
  try dsimp only at hX
  refine TK.seq_k fun K84 hK84=>?_
  refine TK.seq_k fun K85 hK85=>?_
  have ndS:Nd [(b2,RL (α:=Seal_api) 38 data12)]:=Nd.pick nd (is:=[0]) Dc
  refine TK.drwX (h:=[]) (hS:=[(b2,RL (α:=Seal_api) 38 data12)]) [(0,0),(0,1),(0,2),(0,3),(0,4),(0,5),(0,6),(0,7),(0,8),(0,9),(0,10),(0,11),(0,12),(0,13),(0,14),(0,15),(0,16),(0,17)] mixed (by kernel_rfl) (HSub_app nd) ?_
  refine DM rfl rfl rfl ?_
  refine DM rfl rfl rfl ?_
  refine D0 rfl (p_lss rfl rfl) rfl rfl ?_
  refine DM rfl rfl rfl ?_
  refine DR0 (gc:=((decide (i27<b4)))) rfl (vok_p (C:=cx) (p_mv rfl (hg:=fun e=>rfl))) (gcT1 rfl) rfl ?_
  refine DR0 (gc:=((decide (i27<b4)))) rfl (vok_p (C:=cx) (p_mv rfl (hg:=fun e=>rfl))) (gcT1 rfl) rfl ?_
  refine DR0 (gc:=((decide (i27<b4)))) rfl (vok_p (C:=cx) (p_mv rfl (hg:=fun e=>rfl))) (gcT1 rfl) rfl ?_
  obtain ⟨e86,he86,hX⟩:=bind_some hX
  refine DR0 (gc:=((decide (i27<b4)))) rfl (vok_p (C:=cx) (p_iaO (xs:=data12) kd33 ty38 rfl rfl rfl ndS (j:=0) rfl (fun e=>optG_t he86 e) (hg:=fun e=>⟨e,e⟩))) (gcT1 rfl) rfl ?_
  refine DR0 (gc:=((decide (i27<b4)))) rfl (vok_p (C:=cx) (p_ldO (xs:=data12) (a:=e86) (e86:Seal_api) ty38 rfl rfl ndS (j:=0) rfl (fun e=>optG_t he86 e) rfl rfl rfl (hg:=fun e=>e))) (gcT1 rfl) rfl ?_
  refine DR0 (gc:=((decide (i27<b4)))) rfl (vok_p (C:=cx) (p_mv rfl (hg:=fun e=>rfl))) (gcT1 rfl) rfl ?_
  refine DR0 (gc:=((decide (i27<b4)))) rfl (vok_p (C:=cx) (p_mv rfl (hg:=fun e=>rfl))) (gcT1 rfl) rfl ?_
  refine DR0 (gc:=((decide (i27<b4)))) rfl (vok_p (C:=cx) (p_sub rfl rfl (hg:=fun e=>⟨e,rfl⟩))) (gcT1 rfl) rfl ?_
  obtain ⟨e87,he87,hX⟩:=bind_some hX
  refine DR0 (gc:=((decide (i27<b4)))) rfl (vok_p (C:=cx) (p_iaO (xs:=data12) kd33 ty38 rfl rfl rfl ndS (j:=0) rfl (fun e=>optG_t he87 e) (hg:=fun e=>⟨e,e⟩))) (gcT1 rfl) rfl ?_
  refine DR0 (gc:=((decide (i27<b4)))) rfl (vok_p (C:=cx) (p_ldO (xs:=data12) (a:=e87) (e87:Seal_api) ty38 rfl rfl ndS (j:=0) rfl (fun e=>optG_t he87 e) rfl rfl rfl (hg:=fun e=>e))) (gcT1 rfl) rfl ?_
  obtain ⟨r88,hr88,hX⟩:=bind_some hX
  refine DR0 (gc:=((decide (i27<b4)))) rfl (vok_c rfl (fun e=>⟨e,⟨e,⟨e,trivial⟩⟩⟩) (fun e=>hg5 e86 e87 _ (optG_t hr88 e))) (gcT1 rfl) rfl ?_
  refine DR0 (gc:=((decide (i27<b4)))) rfl (vok_p (C:=cx) (p_lss rfl rfl (hg:=fun e=>⟨e,rfl⟩))) (gcT1 rfl) rfl ?_
  refine DR0 (gc:=((decide (i27<b4)))) rfl (vok_p (C:=cx) (p_not rfl (hg:=fun e=>e))) (gcT1 rfl) rfl ?_
  refine D0 rfl (p_and rfl rfl (fun e=>⟨rfl,fun h=>h⟩)) rfl rfl ?_
  refine DRend ?_
  refine hK85 _ _ ?_
  refine TK.cond (b:=((decide (i27<b4))&&(!(decide (r88<(0:Int)))))) rfl (fun hc=>?_) (fun hc=>?_)
  ·have hX:=ite_t hc hX
   refine TK.skip ?_
   refine hK84 _ _ ?_
   refine TK.block ?_
   refine TK.reg ?_
   refine M rfl rfl (P1 (p_add rfl rfl) rfl rfl (M rfl rfl (TL.nil ?_)))
   exact ⟨_,(some_in hX).symm,(),rfl,(Nd.pick nd (is:=[0]) Dc),(HSub.pick nd (is:=[0]) Dc)⟩
  ·have hX:=ite_f hc hX
   refine TK.exit ?_
   obtain rfl:=hR25 _ (some_in hX).symm
   exact E25 i27 _ _ ⟨(),rfl,(Nd.pick nd (is:=[0]) Dc),(HSub.pick nd (is:=[0]) Dc)⟩ hA25
 ·have hX:=ite_f hc hX
  refine TK.exit ?_
  obtain rfl:=hR10 _ (some_in hX).symm
  exact E10 data12 _ _ ⟨(),rfl,(Nd.pick nd (is:=[0]) Dc),(HSub.pick nd (is:=[0]) Dc)⟩ hA10
theorem len_slices_partialInsertionSortCmpFunc_api_SealL {a3:Int} {b4:Int} {g5:Seal_api→Seal_api→Option Int} {data1:(List Seal_api)} {r:(Bool×(List Seal_api))} (hX:X.slices_partialInsertionSortCmpFunc_api_SealL a3 b4 g5 data1=some r):r.2.length=data1.length:=by
 obtain ⟨q,_,h⟩:=bind_some hX
 split at h
 ·injection h with h
  subst h
  assumption
 ·cases h
theorem ok_slices_partialInsertionSortCmpFunc_api_SealL (a3:Int) (b4:Int) (g5:Seal_api→Seal_api→Option Int) (data1:(List Seal_api)) (b2:Nat) (nd:Nd [(b2,RL (α:=Seal_api) 38 data1)]) (r:(Bool×(List Seal_api))) (hX:X.slices_partialInsertionSortCmpFunc_api_SealL a3 b4 g5 data1=some r) {g5V:AV} (hg5V:∃f m c,g5V= .fn f m c∧(∀i,i<m→(c i).val)∧∀(a0:Seal_api) (a1:Seal_api) r,g5 a0 a1=some r→Fun Tryz.prog f ([Enc.v a0,Enc.v a1]++(List.range m).map c) (·=Enc.v r)):TCX Tryz.prog 101 [OL (α:=Seal_api) b2 data1,Enc.v (a3:Int),Enc.v (b4:Int),g5V] [(b2,RL (α:=Seal_api) 38 data1)] (fun rv h'=>rv=Enc.v (r.1:Bool)∧h'=[(b2,RL (α:=Seal_api) 38 r.2)]):=by
 obtain ⟨q,h1,h2⟩:=bind_some hX
 split at h2
 ·injection h2 with h2
  subst h2
  exact ok_slices_partialInsertionSortCmpFunc_api_Seal a3 b4 g5 data1 b2 nd _ h1 hg5V
 ·cases h2
theorem ok_slices_partitionCmpFunc_api_Seal (a3:Int) (b4:Int) (pivot5:Int) (g6:Seal_api→Seal_api→Option Int) (data1:(List Seal_api)) (b2:Nat) (nd:Nd [(b2,RL (α:=Seal_api) 38 data1)]) (r:(Int×Bool×(List Seal_api))) (hX:X.slices_partitionCmpFunc_api_Seal a3 b4 pivot5 g6 data1=some r) {g6V:AV} (hg6V:∃f m c,g6V= .fn f m c∧(∀i,i<m→(c i).val)∧∀(a0:Seal_api) (a1:Seal_api) r,g6 a0 a1=some r→Fun Tryz.prog f ([Enc.v a0,Enc.v a1]++(List.range m).map c) (·=Enc.v r)):TCX Tryz.prog 103 [OL (α:=Seal_api) b2 data1,Enc.v (a3:Int),Enc.v (b4:Int),Enc.v (pivot5:Int),g6V] [(b2,RL (α:=Seal_api) 38 data1)] (fun rv h'=>rv= .tup 2 (ofL [Enc.v (r.1:Int),Enc.v (r.2.1:Bool)])∧h'=[(b2,RL (α:=Seal_api) 38 r.2.2)]):=by
 obtain ⟨g6f,g6m,g6c,rfl,hg6v,hg6⟩:=hg6V
 have:NoA (.fn g6f g6m g6c):=⟨fun i hi=>(hg6v i hi).no⟩
 refine TCX.of b103 (Nat.le_of_ble_eq_true rfl) ?_
 unfold k103
 unfold X.slices_partitionCmpFunc_api_Seal at hX
 refine SR fun K7 hK7=>M rfl rfl (M rfl rfl (TL.nil (hK7 _ _ ?_)))
 refine TK.seq_k fun K8 hK8=>?_
 have ndS:Nd []:=Nd.pick nd (is:=[]) Dc
 refine TK.endK fun KD hKD=>?_
 refine TK.drwX (h:=[(b2,RL (α:=Seal_api) 38 data1)]) (hS:=[]) [(0,0),(0,1),(0,2),(0,3),(0,4),(0,5),(1,6),(1,7),(0,8),(0,9),(1,10),(1,11),(1,12),(2,13),(1,14),(2,15)] mixed (by kernel_rfl) (HSub_app nd) ?_
 refine DM rfl rfl rfl ?_
 refine DM rfl rfl rfl ?_
 refine DM rfl rfl rfl ?_
 refine DM rfl rfl rfl ?_
 refine DM rfl rfl rfl ?_
 refine DM rfl rfl rfl ?_
 obtain ⟨e9,he9,hX⟩:=bind_some hX
 refine DR1 (gc:=true) rfl (vok_p (C:=cx) (p_iaO (xs:=data1) kd33 ty38 rfl rfl rfl nd (j:=0) rfl (fun _=>he9))) rfl rfl ?_
 refine DR1 (gc:=true) rfl (vok_p (C:=cx) (p_ldO (xs:=data1) (a:=e9) (e9:Seal_api) ty38 rfl rfl nd (j:=0) rfl (fun _=>he9) rfl rfl rfl)) rfl rfl ?_
 refine DM rfl rfl rfl ?_
 refine DM rfl rfl rfl ?_
 obtain ⟨e10,he10,hX⟩:=bind_some hX
 refine DR1 (gc:=true) rfl (vok_p (C:=cx) (p_iaO (xs:=data1) kd33 ty38 rfl rfl rfl nd (j:=0) rfl (fun _=>he10))) rfl rfl ?_
 refine DR1 (gc:=true) rfl (vok_p (C:=cx) (p_ldO (xs:=data1) (a:=e10) (e10:Seal_api) ty38 rfl rfl nd (j:=0) rfl (fun _=>he10) rfl rfl rfl)) rfl rfl ?_
 obtain ⟨e11,he11,hX⟩:=bind_some hX
 refine DR1 (gc:=true) rfl (vok_p (C:=cx) (p_iaO (xs:=data1) kd33 ty38 rfl rfl rfl nd (j:=0) rfl (fun _=>he11))) rfl rfl ?_
 refine DR2n rfl ?_
 refine TLc.stW (xs:=data1) (i:=a3) (lu:=Enc.cl (e9:Seal_api)) (a':=e9) nd ty38 rfl (j:=0) rfl (by simp[Enc.sz]) (inb_of he11 (by simp)) rfl (Cells_v (e9:Seal_api)) rfl (WkL_refl _) fun nd=>?_
 refine TL.nil ⟨.nilp,[(b2,RL (α:=Seal_api) 38 (data1.set a3.toNat e9))],rfl,rfl,HSub_app nd,?_⟩
 obtain ⟨e12,he12,hX⟩:=bind_some hX
 refine DR1 (gc:=true) rfl (vok_p (C:=cx) (p_iaO (xs:=(data1.set a3.toNat e9)) (gx:=true) kd33 ty38 rfl (by rw[OL_len (xs:=(data1.set a3.toNat e9)) (ys:=data1) (by simp)];rfl) rfl nd (j:=0) rfl (fun _=>he12))) rfl rfl ?_
 refine DR2n rfl ?_
 refine TLc.stW (xs:=(data1.set a3.toNat e9)) (i:=pivot5) (lu:=Enc.cl (e10:Seal_api)) (a':=e10) nd ty38 rfl (j:=0) rfl (by simp[Enc.sz]) (inb_of he12 (by simp)) rfl (Cells_v (e10:Seal_api)) rfl (WkL_refl _) fun nd=>?_
 refine TL.nil ⟨.nilp,[(b2,RL (α:=Seal_api) 38 ((data1.set a3.toNat e9).set pivot5.toNat e10))],rfl,rfl,HSub_app nd,?_⟩
 refine DRend ?_
 refine hKD _ _ ?_
 refine TL.cv 0 (OL (α:=Seal_api) b2 ((data1.set a3.toNat e9).set pivot5.toNat e10)) rfl (Wk_eq (OL_len (by simp))) ?_
 refine TL.nil (hK8 _ _ (SR fun K13 hK13=>M rfl rfl (P1 (p_add rfl rfl) rfl rfl (M rfl rfl (P1 (p_sub rfl rfl) rfl rfl (M rfl rfl (M rfl rfl (TL.nil (hK13 _ _ ?_)))))))))
 refine TK.seq_k fun K14 hK14=>?_
 refine TK.block ?_
 obtain ⟨o15,hO15,hA15⟩:=bind_some hX
 have E15:∀(i19:Int) (env:Env) (h:Hp),(∃_u:Unit,keepE [0,1,4,12,13] env=[(0,true,OL (α:=Seal_api) b2 ((data1.set a3.toNat e9).set pivot5.toNat e10)),(1,true,Enc.v a3),(4,true,.fn g6f g6m g6c),(12,true,Enc.v i19),(13,true,Enc.v ((wr (b4-(1:Int))):Int))]∧Nd [(b2,RL (α:=Seal_api) 38 ((data1.set a3.toNat e9).set pivot5.toNat e10))]∧HSub [(b2,RL (α:=Seal_api) 38 ((data1.set a3.toNat e9).set pivot5.toNat e10))] h)→X.slices_partitionCmpFunc_api_Seal_e15 data1 a3 e9 pivot5 e10 g6 b4 i19=some r→K14 env h:=by
  intro i19 env h hE hX
  obtain ⟨_u,henv,nd,hs⟩:=hE
  unfold X.slices_partitionCmpFunc_api_Seal_e15 at hX
  refine hK14 _ _ (TK.keep [0,1,4,12,13] ?_)
  rw[henv]
  refine TK.subH hs ?_
  refine TK.seq_k fun K20 hK20=>?_
  refine TK.block ?_
  obtain ⟨o21,hO21,hA21⟩:=bind_some hX
  have E21:∀(j25:Int) (env:Env) (h:Hp),(∃_u:Unit,keepE [0,1,4,12,13] env=[(0,true,OL (α:=Seal_api) b2 ((data1.set a3.toNat e9).set pivot5.toNat e10)),(1,true,Enc.v a3),(4,true,.fn g6f g6m g6c),(12,true,Enc.v i19),(13,true,Enc.v j25)]∧Nd [(b2,RL (α:=Seal_api) 38 ((data1.set a3.toNat e9).set pivot5.toNat e10))]∧HSub [(b2,RL (α:=Seal_api) 38 ((data1.set a3.toNat e9).set pivot5.toNat e10))] h)→X.slices_partitionCmpFunc_api_Seal_e21 i19 data1 a3 e9 pivot5 e10 g6 j25=some r→K20 env h:=by
   intro j25 env h hE hX
   obtain ⟨_u,henv,nd,hs⟩:=hE
   unfold X.slices_partitionCmpFunc_api_Seal_e21 at hX
   refine hK20 _ _ (TK.keep [0,1,4,12,13] ?_)
   rw[henv]
   refine TK.subH hs ?_
   refine TK.seq_k fun K26 hK26=>?_
   refine SR fun K27 hK27=>M rfl rfl (M rfl rfl (P1 (p_gtr rfl rfl) rfl rfl (TL.nil (hK27 _ _ ?_))))
   refine TK.cond (b:=(decide (i19>j25))) rfl (fun hc=>?_) (fun hc=>?_)
   ·have hX:=ite_t hc hX
    refine TK.seq_k fun K28 hK28=>?_
    have ndS:Nd []:=Nd.pick nd (is:=[]) Dc
    refine TK.endK fun KD hKD=>?_
    refine TK.drwX (h:=[(b2,RL (α:=Seal_api) 38 ((data1.set a3.toNat e9).set pivot5.toNat e10))]) (hS:=[]) [(0,0),(0,1),(0,2),(0,3),(0,4),(0,5),(1,6),(1,7),(0,8),(0,9),(1,10),(1,11),(1,12),(2,13),(1,14),(2,15)] mixed (by kernel_rfl) (HSub_app nd) ?_
    refine DM rfl rfl rfl ?_
    refine DM rfl rfl rfl ?_
    refine DM rfl rfl rfl ?_
    refine DM rfl rfl rfl ?_
    refine DM rfl rfl rfl ?_
    refine DM rfl rfl rfl ?_
    obtain ⟨e29,he29,hX⟩:=bind_some hX
    refine DR1 (gc:=true) rfl (vok_p (C:=cx) (p_iaO (xs:=((data1.set a3.toNat e9).set pivot5.toNat e10)) kd33 ty38 rfl rfl rfl nd (j:=0) rfl (fun _=>he29))) rfl rfl ?_
    refine DR1 (gc:=true) rfl (vok_p (C:=cx) (p_ldO (xs:=((data1.set a3.toNat e9).set pivot5.toNat e10)) (a:=e29) (e29:Seal_api) ty38 rfl rfl nd (j:=0) rfl (fun _=>he29) rfl rfl rfl)) rfl rfl ?_
    refine DM rfl rfl rfl ?_
    refine DM rfl rfl rfl ?_
    obtain ⟨e30,he30,hX⟩:=bind_some hX
    refine DR1 (gc:=true) rfl (vok_p (C:=cx) (p_iaO (xs:=((data1.set a3.toNat e9).set pivot5.toNat e10)) kd33 ty38 rfl rfl rfl nd (j:=0) rfl (fun _=>he30))) rfl rfl ?_
    refine DR1 (gc:=true) rfl (vok_p (C:=cx) (p_ldO (xs:=((data1.set a3.toNat e9).set pivot5.toNat e10)) (a:=e30) (e30:Seal_api) ty38 rfl rfl nd (j:=0) rfl (fun _=>he30) rfl rfl rfl)) rfl rfl ?_
    obtain ⟨e31,he31,hX⟩:=bind_some hX
    refine DR1 (gc:=true) rfl (vok_p (C:=cx) (p_iaO (xs:=((data1.set a3.toNat e9).set pivot5.toNat e10)) kd33 ty38 rfl rfl rfl nd (j:=0) rfl (fun _=>he31))) rfl rfl ?_
    refine DR2n rfl ?_
    refine TLc.stW (xs:=((data1.set a3.toNat e9).set pivot5.toNat e10)) (i:=j25) (lu:=Enc.cl (e29:Seal_api)) (a':=e29) nd ty38 rfl (j:=0) rfl (by simp[Enc.sz]) (inb_of he31 (by simp)) rfl (Cells_v (e29:Seal_api)) rfl (WkL_refl _) fun nd=>?_
    refine TL.nil ⟨.nilp,[(b2,RL (α:=Seal_api) 38 (((data1.set a3.toNat e9).set pivot5.toNat e10).set j25.toNat e29))],rfl,rfl,HSub_app nd,?_⟩
    obtain ⟨e32,he32,hX⟩:=bind_some hX
    refine DR1 (gc:=true) rfl (vok_p (C:=cx) (p_iaO (xs:=(((data1.set a3.toNat e9).set pivot5.toNat e10).set j25.toNat e29)) (gx:=true) kd33 ty38 rfl (by rw[OL_len (xs:=(((data1.set a3.toNat e9).set pivot5.toNat e10).set j25.toNat e29)) (ys:=((data1.set a3.toNat e9).set pivot5.toNat e10)) (by simp)];rfl) rfl nd (j:=0) rfl (fun _=>he32))) rfl rfl ?_
    refine DR2n rfl ?_
    refine TLc.stW (xs:=(((data1.set a3.toNat e9).set pivot5.toNat e10).set j25.toNat e29)) (i:=a3) (lu:=Enc.cl (e30:Seal_api)) (a':=e30) nd ty38 rfl (j:=0) rfl (by simp[Enc.sz]) (inb_of he32 (by simp)) rfl (Cells_v (e30:Seal_api)) rfl (WkL_refl _) fun nd=>?_
    refine TL.nil ⟨.nilp,[(b2,RL (α:=Seal_api) 38 ((((data1.set a3.toNat e9).set pivot5.toNat e10).set j25.toNat e29).set a3.toNat e30))],rfl,rfl,HSub_app nd,?_⟩
    refine DRend ?_
    refine hKD _ _ ?_
    refine TL.cv 0 (OL (α:=Seal_api) b2 ((((data1.set a3.toNat e9).set pivot5.toNat e10).set j25.toNat e29).set a3.toNat e30)) rfl (Wk_eq (OL_len (by simp))) ?_
    refine TL.nil (hK28 _ _ (SR fun K33 hK33=>M rfl rfl (M rfl rfl (M rfl rfl (TL.nil (hK33 _ _ ?_))))))
    refine TK.ret ?_
    try dsimp only[thenQ]
    exact retX (v:= .tup 2 (ofL [Enc.v j25,Enc.v true])) (resN (vs:=[Enc.v j25,Enc.v true]) ⟨rfl,rfl,trivial⟩) (by obtain rfl:=some_in hX;exact ⟨rfl,rfl⟩) nd (inH_tup (l:=[Enc.v j25,Enc.v true]) ⟨inH_val (v_val _),inH_val (v_val _),trivial⟩) ⟨rowIn_RL,trivial⟩
   ·have hX:=ite_f hc hX
    refine TK.skip ?_
    refine hK26 _ _ ?_
    refine TK.seq_k fun K34 hK34=>?_
    have ndS:Nd []:=Nd.pick nd (is:=[]) Dc
    refine TK.endK fun KD hKD=>?_
    refine TK.drwX (h:=[(b2,RL (α:=Seal_api) 38 ((data1.set a3.toNat e9).set pivot5.toNat e10))]) (hS:=[]) [(0,0),(0,1),(0,2),(0,3),(0,4),(0,5),(1,6),(1,7),(0,8),(0,9),(1,10),(1,11),(1,12),(2,13),(1,14),(2,15)] mixed (by kernel_rfl) (HSub_app nd) ?_
    refine DM rfl rfl rfl ?_
    refine DM rfl rfl rfl ?_
    refine DM rfl rfl rfl ?_
    refine DM rfl rfl rfl ?_
    refine DM rfl rfl rfl ?_
    refine DM rfl rfl rfl ?_
    obtain ⟨e35,he35,hX⟩:=bind_some hX
    refine DR1 (gc:=true) rfl (vok_p (C:=cx) (p_iaO (xs:=((data1.set a3.toNat e9).set pivot5.toNat e10)) kd33 ty38 rfl rfl rfl nd (j:=0) rfl (fun _=>he35))) rfl rfl ?_
    refine DR1 (gc:=true) rfl (vok_p (C:=cx) (p_ldO (xs:=((data1.set a3.toNat e9).set pivot5.toNat e10)) (a:=e35) (e35:Seal_api) ty38 rfl rfl nd (j:=0) rfl (fun _=>he35) rfl rfl rfl)) rfl rfl ?_
    refine DM rfl rfl rfl ?_
    refine DM rfl rfl rfl ?_
    obtain ⟨e36,he36,hX⟩:=bind_some hX
    refine DR1 (gc:=true) rfl (vok_p (C:=cx) (p_iaO (xs:=((data1.set a3.toNat e9).set pivot5.toNat e10)) kd33 ty38 rfl rfl rfl nd (j:=0) rfl (fun _=>he36))) rfl rfl ?_
    refine DR1 (gc:=true) rfl (vok_p (C:=cx) (p_ldO (xs:=((data1.set a3.toNat e9).set pivot5.toNat e10)) (a:=e36) (e36:Seal_api) ty38 rfl rfl nd (j:=0) rfl (fun _=>he36) rfl rfl rfl)) rfl rfl ?_
    obtain ⟨e37,he37,hX⟩:=bind_some hX
    refine DR1 (gc:=true) rfl (vok_p (C:=cx) (p_iaO (xs:=((data1.set a3.toNat e9).set pivot5.toNat e10)) kd33 ty38 rfl rfl rfl nd (j:=0) rfl (fun _=>he37))) rfl rfl ?_
    refine DR2n rfl ?_
    refine TLc.stW (xs:=((data1.set a3.toNat e9).set pivot5.toNat e10)) (i:=i19) (lu:=Enc.cl (e35:Seal_api)) (a':=e35) nd ty38 rfl (j:=0) rfl (by simp[Enc.sz]) (inb_of he37 (by simp)) rfl (Cells_v (e35:Seal_api)) rfl (WkL_refl _) fun nd=>?_
    refine TL.nil ⟨.nilp,[(b2,RL (α:=Seal_api) 38 (((data1.set a3.toNat e9).set pivot5.toNat e10).set i19.toNat e35))],rfl,rfl,HSub_app nd,?_⟩
    obtain ⟨e38,he38,hX⟩:=bind_some hX
    refine DR1 (gc:=true) rfl (vok_p (C:=cx) (p_iaO (xs:=(((data1.set a3.toNat e9).set pivot5.toNat e10).set i19.toNat e35)) (gx:=true) kd33 ty38 rfl (by rw[OL_len (xs:=(((data1.set a3.toNat e9).set pivot5.toNat e10).set i19.toNat e35)) (ys:=((data1.set a3.toNat e9).set pivot5.toNat e10)) (by simp)];rfl) rfl nd (j:=0) rfl (fun _=>he38))) rfl rfl ?_
    refine DR2n rfl ?_
    refine TLc.stW (xs:=(((data1.set a3.toNat e9).set pivot5.toNat e10).set i19.toNat e35)) (i:=j25) (lu:=Enc.cl (e36:Seal_api)) (a':=e36) nd ty38 rfl (j:=0) rfl (by simp[Enc.sz]) (inb_of he38 (by simp)) rfl (Cells_v (e36:Seal_api)) rfl (WkL_refl _) fun nd=>?_
    refine TL.nil ⟨.nilp,[(b2,RL (α:=Seal_api) 38 ((((data1.set a3.toNat e9).set pivot5.toNat e10).set i19.toNat e35).set j25.toNat e36))],rfl,rfl,HSub_app nd,?_⟩
    refine DRend ?_
    refine hKD _ _ ?_
    refine TL.cv 0 (OL (α:=Seal_api) b2 ((((data1.set a3.toNat e9).set pivot5.toNat e10).set i19.toNat e35).set j25.toNat e36)) rfl (Wk_eq (OL_len (by simp))) ?_
    refine TL.nil (hK34 _ _ (SR fun K39 hK39=>M rfl rfl (P1 (p_add rfl rfl) rfl rfl (M rfl rfl (TL.nil (hK39 _ _ (SR fun K40 hK40=>M rfl rfl (P1 (p_sub rfl rfl) rfl rfl (M rfl rfl (TL.nil (hK40 _ _ ?_)))))))))))
    refine TK.seq_k fun K41 hK41=>?_
    refine TK.block ?_
    obtain ⟨o42,hO42,hA42⟩:=bind_some hX
    have E42:∀(l48:List Seal_api) (j49:Int) (env:Env) (h:Hp),(∃_u:Unit,keepE [0,1,13] env=[(0,true,OL b2 l48),(1,true,Enc.v a3),(13,true,Enc.v j49)]∧Nd [(b2,RL (α:=Seal_api) 38 l48)]∧HSub [(b2,RL (α:=Seal_api) 38 l48)] h)→X.slices_partitionCmpFunc_api_Seal_e42 a3 l48 j49=some r→K41 env h:=by
     intro l48 j49 env h hE hX
     obtain ⟨_u,henv,nd,hs⟩:=hE
     unfold X.slices_partitionCmpFunc_api_Seal_e42 at hX
     refine hK41 _ _ (TK.keep [0,1,13] ?_)
     rw[henv]
     refine TK.subH hs ?_
     refine TK.seq_k fun K50 hK50=>?_
     have ndS:Nd []:=Nd.pick nd (is:=[]) Dc
     refine TK.endK fun KD hKD=>?_
     refine TK.drwX (h:=[(b2,RL (α:=Seal_api) 38 l48)]) (hS:=[]) [(0,0),(0,1),(0,2),(0,3),(0,4),(0,5),(1,6),(1,7),(0,8),(0,9),(1,10),(1,11),(1,12),(2,13),(1,14),(2,15)] mixed (by kernel_rfl) (HSub_app nd) ?_
     refine DM rfl rfl rfl ?_
     refine DM rfl rfl rfl ?_
     refine DM rfl rfl rfl ?_
     refine DM rfl rfl rfl ?_
     refine DM rfl rfl rfl ?_
     refine DM rfl rfl rfl ?_
     obtain ⟨e51,he51,hX⟩:=bind_some hX
     refine DR1 (gc:=true) rfl (vok_p (C:=cx) (p_iaO (xs:=l48) kd33 ty38 rfl rfl rfl nd (j:=0) rfl (fun _=>he51))) rfl rfl ?_
     refine DR1 (gc:=true) rfl (vok_p (C:=cx) (p_ldO (xs:=l48) (a:=e51) (e51:Seal_api) ty38 rfl rfl nd (j:=0) rfl (fun _=>he51) rfl rfl rfl)) rfl rfl ?_
     refine DM rfl rfl rfl ?_
     refine DM rfl rfl rfl ?_
     obtain ⟨e52,he52,hX⟩:=bind_some hX
     refine DR1 (gc:=true) rfl (vok_p (C:=cx) (p_iaO (xs:=l48) kd33 ty38 rfl rfl rfl nd (j:=0) rfl (fun _=>he52))) rfl rfl ?_
     refine DR1 (gc:=true) rfl (vok_p (C:=cx) (p_ldO (xs:=l48) (a:=e52) (e52:Seal_api) ty38 rfl rfl nd (j:=0) rfl (fun _=>he52) rfl rfl rfl)) rfl rfl ?_
     obtain ⟨e53,he53,hX⟩:=bind_some hX
     refine DR1 (gc:=true) rfl (vok_p (C:=cx) (p_iaO (xs:=l48) kd33 ty38 rfl rfl rfl nd (j:=0) rfl (fun _=>he53))) rfl rfl ?_
     refine DR2n rfl ?_
     refine TLc.stW (xs:=l48) (i:=j49) (lu:=Enc.cl (e51:Seal_api)) (a':=e51) nd ty38 rfl (j:=0) rfl (by simp[Enc.sz]) (inb_of he53 (by simp)) rfl (Cells_v (e51:Seal_api)) rfl (WkL_refl _) fun nd=>?_
     refine TL.nil ⟨.nilp,[(b2,RL (α:=Seal_api) 38 (l48.set j49.toNat e51))],rfl,rfl,HSub_app nd,?_⟩
     obtain ⟨e54,he54,hX⟩:=bind_some hX
     refine DR1 (gc:=true) rfl (vok_p (C:=cx) (p_iaO (xs:=(l48.set j49.toNat e51)) (gx:=true) kd33 ty38 rfl (by rw[OL_len (xs:=(l48.set j49.toNat e51)) (ys:=l48) (by simp)];rfl) rfl nd (j:=0) rfl (fun _=>he54))) rfl rfl ?_
     refine DR2n rfl ?_
     refine TLc.stW (xs:=(l48.set j49.toNat e51)) (i:=a3) (lu:=Enc.cl (e52:Seal_api)) (a':=e52) nd ty38 rfl (j:=0) rfl (by simp[Enc.sz]) (inb_of he54 (by simp)) rfl (Cells_v (e52:Seal_api)) rfl (WkL_refl _) fun nd=>?_
     refine TL.nil ⟨.nilp,[(b2,RL (α:=Seal_api) 38 ((l48.set j49.toNat e51).set a3.toNat e52))],rfl,rfl,HSub_app nd,?_⟩
     refine DRend ?_
     refine hKD _ _ ?_
     refine TL.cv 0 (OL (α:=Seal_api) b2 ((l48.set j49.toNat e51).set a3.toNat e52)) rfl (Wk_eq (OL_len (by simp))) ?_
     refine TL.nil (hK50 _ _ (SR fun K55 hK55=>M rfl rfl (M rfl rfl (M rfl rfl (TL.nil (hK55 _ _ ?_))))))
     refine TK.ret ?_
     try dsimp only[thenQ]
     exact retX (v:= .tup 2 (ofL [Enc.v j49,Enc.v false])) (resN (vs:=[Enc.v j49,Enc.v false]) ⟨rfl,rfl,trivial⟩) (by obtain rfl:=some_in hX;exact ⟨rfl,rfl⟩) nd (inH_tup (l:=[Enc.v j49,Enc.v false]) ⟨inH_val (v_val _),inH_val (v_val _),trivial⟩) ⟨rowIn_RL,trivial⟩
    refine TK.iter [0,1,4,12,13] (fun s env h=>match s with|(data44,i45,j46)=>∃_u:Unit,env=[(0,true,OL b2 data44),(1,true,Enc.v a3),(4,true,.fn g6f g6m g6c),(12,true,Enc.v i45),(13,true,Enc.v j46)]∧Nd [(b2,RL (α:=Seal_api) 38 data44)]∧HSub [(b2,RL (α:=Seal_api) 38 data44)] h) hO42 ⟨(),rfl,(Nd.pick nd (is:=[0]) Dc),(HSub.pick nd (is:=[0]) Dc)⟩ ?_
    rintro ⟨data44,i45,j46⟩ env h x42x ⟨_u,rfl,nd,hs⟩ hX hR42
    refine TK.subH hs ?_
    unfold X.slices_partitionCmpFunc_api_Seal_s42 at hX
    try dsimp only at hX
    refine TK.block ?_
    refine TK.seq_k fun K56 hK56=>?_
    refine TK.block ?_
    obtain ⟨o57,hO57,hA57⟩:=bind_some hX
    have E57:∀(i61:Int) (env:Env) (h:Hp),(∃_u:Unit,keepE [0,1,4,12,13] env=[(0,true,OL b2 data44),(1,true,Enc.v a3),(4,true,.fn g6f g6m g6c),(12,true,Enc.v i61),(13,true,Enc.v j46)]∧Nd [(b2,RL (α:=Seal_api) 38 data44)]∧HSub [(b2,RL (α:=Seal_api) 38 data44)] h)→X.slices_partitionCmpFunc_api_Seal_e57 data44 a3 g6 j46 i61=some x42x→K56 env h:=by
     intro i61 env h hE hX
     obtain ⟨_u,henv,nd,hs⟩:=hE
     unfold X.slices_partitionCmpFunc_api_Seal_e57 at hX
     refine hK56 _ _ (TK.keep [0,1,4,12,13] ?_)
     rw[henv]
     refine TK.subH hs ?_
     refine TK.seq_k fun K62 hK62=>?_
     refine TK.block ?_
     obtain ⟨o63,hO63,hA63⟩:=bind_some hX
     have E63:∀(j67:Int) (env:Env) (h:Hp),(∃_u:Unit,keepE [0,1,4,12,13] env=[(0,true,OL b2 data44),(1,true,Enc.v a3),(4,true,.fn g6f g6m g6c),(12,true,Enc.v i61),(13,true,Enc.v j67)]∧Nd [(b2,RL (α:=Seal_api) 38 data44)]∧HSub [(b2,RL (α:=Seal_api) 38 data44)] h)→X.slices_partitionCmpFunc_api_Seal_e63 i61 data44 j67=some x42x→K62 env h:=by
      intro j67 env h hE hX
      obtain ⟨_u,henv,nd,hs⟩:=hE
      unfold X.slices_partitionCmpFunc_api_Seal_e63 at hX
      refine hK62 _ _ (TK.keep [0,1,4,12,13] ?_)
      rw[henv]
      refine TK.subH hs ?_
      refine TK.seq_k fun K68 hK68=>?_
      refine SR fun K69 hK69=>M rfl rfl (M rfl rfl (P1 (p_gtr rfl rfl) rfl rfl (TL.nil (hK69 _ _ ?_))))
      refine TK.cond (b:=(decide (i61>j67))) rfl (fun hc=>?_) (fun hc=>?_)
      ·have hX:=ite_t hc hX
       refine TK.exit ?_
       obtain rfl:=hR42 _ (some_in hX).symm
       exact E42 data44 j67 _ _ ⟨(),rfl,(Nd.pick nd (is:=[0]) Dc),(HSub.pick nd (is:=[0]) Dc)⟩ hA42
      ·have hX:=ite_f hc hX
       refine TK.skip ?_
       refine hK68 _ _ ?_
       refine TK.seq_k fun K70 hK70=>?_
       have ndS:Nd []:=Nd.pick nd (is:=[]) Dc
       refine TK.endK fun KD hKD=>?_
       refine TK.drwX (h:=[(b2,RL (α:=Seal_api) 38 data44)]) (hS:=[]) [(0,0),(0,1),(0,2),(0,3),(0,4),(0,5),(1,6),(1,7),(0,8),(0,9),(1,10),(1,11),(1,12),(2,13),(1,14),(2,15)] mixed (by kernel_rfl) (HSub_app nd) ?_
       refine DM rfl rfl rfl ?_
       refine DM rfl rfl rfl ?_
       refine DM rfl rfl rfl ?_
       refine DM rfl rfl rfl ?_
       refine DM rfl rfl rfl ?_
       refine DM rfl rfl rfl ?_
       obtain ⟨e71,he71,hX⟩:=bind_some hX
       refine DR1 (gc:=true) rfl (vok_p (C:=cx) (p_iaO (xs:=data44) kd33 ty38 rfl rfl rfl nd (j:=0) rfl (fun _=>he71))) rfl rfl ?_
       refine DR1 (gc:=true) rfl (vok_p (C:=cx) (p_ldO (xs:=data44) (a:=e71) (e71:Seal_api) ty38 rfl rfl nd (j:=0) rfl (fun _=>he71) rfl rfl rfl)) rfl rfl ?_
       refine DM rfl rfl rfl ?_
       refine DM rfl rfl rfl ?_
       obtain ⟨e72,he72,hX⟩:=bind_some hX
       refine DR1 (gc:=true) rfl (vok_p (C:=cx) (p_iaO (xs:=data44) kd33 ty38 rfl rfl rfl nd (j:=0) rfl (fun _=>he72))) rfl rfl ?_
       refine DR1 (gc:=true) rfl (vok_p (C:=cx) (p_ldO (xs:=data44) (a:=e72) (e72:Seal_api) ty38 rfl rfl nd (j:=0) rfl (fun _=>he72) rfl rfl rfl)) rfl rfl ?_
       obtain ⟨e73,he73,hX⟩:=bind_some hX
       refine DR1 (gc:=true) rfl (vok_p (C:=cx) (p_iaO (xs:=data44) kd33 ty38 rfl rfl rfl nd (j:=0) rfl (fun _=>he73))) rfl rfl ?_
       refine DR2n rfl ?_
       refine TLc.stW (xs:=data44) (i:=i61) (lu:=Enc.cl (e71:Seal_api)) (a':=e71) nd ty38 rfl (j:=0) rfl (by simp[Enc.sz]) (inb_of he73 (by simp)) rfl (Cells_v (e71:Seal_api)) rfl (WkL_refl _) fun nd=>?_
       refine TL.nil ⟨.nilp,[(b2,RL (α:=Seal_api) 38 (data44.set i61.toNat e71))],rfl,rfl,HSub_app nd,?_⟩
       obtain ⟨e74,he74,hX⟩:=bind_some hX
       refine DR1 (gc:=true) rfl (vok_p (C:=cx) (p_iaO (xs:=(data44.set i61.toNat e71)) (gx:=true) kd33 ty38 rfl (by rw[OL_len (xs:=(data44.set i61.toNat e71)) (ys:=data44) (by simp)];rfl) rfl nd (j:=0) rfl (fun _=>he74))) rfl rfl ?_
       refine DR2n rfl ?_
       refine TLc.stW (xs:=(data44.set i61.toNat e71)) (i:=j67) (lu:=Enc.cl (e72:Seal_api)) (a':=e72) nd ty38 rfl (j:=0) rfl (by simp[Enc.sz]) (inb_of he74 (by simp)) rfl (Cells_v (e72:Seal_api)) rfl (WkL_refl _) fun nd=>?_
       refine TL.nil ⟨.nilp,[(b2,RL (α:=Seal_api) 38 ((data44.set i61.toNat e71).set j67.toNat e72))],rfl,rfl,HSub_app nd,?_⟩
       refine DRend ?_
       refine hKD _ _ ?_
       refine TL.cv 0 (OL (α:=Seal_api) b2 ((data44.set i61.toNat e71).set j67.toNat e72)) rfl (Wk_eq (OL_len (by simp))) ?_
       refine TL.nil (hK70 _ _ (SR fun K75 hK75=>M rfl rfl (P1 (p_add rfl rfl) rfl rfl (M rfl rfl (TL.nil (hK75 _ _ ?_))))))
       refine TK.reg ?_
       refine M rfl rfl (P1 (p_sub rfl rfl) rfl rfl (M rfl rfl (TL.nil ?_)))
       exact ⟨_,(some_in hX).symm,(),rfl,(Nd.pick nd (is:=[0]) Dc),(HSub.pick nd (is:=[0]) Dc)⟩
     refine TK.iter [0,1,4,12,13] (fun s env h=>match s with|j65=>∃_u:Unit,env=[(0,true,OL b2 data44),(1,true,Enc.v a3),(4,true,.fn g6f g6m g6c),(12,true,Enc.v i61),(13,true,Enc.v j65)]∧Nd [(b2,RL (α:=Seal_api) 38 data44)]∧HSub [(b2,RL (α:=Seal_api) 38 data44)] h) hO63 ⟨(),rfl,(Nd.pick nd (is:=[0]) Dc),(HSub.pick nd (is:=[0]) Dc)⟩ ?_
     rintro j65 env h x63x ⟨_u,rfl,nd,hs⟩ hX hR63
     refine TK.subH hs ?_
     unfold X.slices_partitionCmpFunc_api_Seal_s63 at hX
     try dsimp only at hX
     refine TK.seq_k fun K76 hK76=>?_
     refine TK.seq_k fun K77 hK77=>?_
     have ndS:Nd [(b2,RL (α:=Seal_api) 38 data44)]:=Nd.pick nd (is:=[0]) Dc
     refine TK.drwX (h:=[]) (hS:=[(b2,RL (α:=Seal_api) 38 data44)]) [(0,0),(0,1),(0,2),(0,3),(0,4),(0,5),(0,6),(0,7),(0,8),(0,9),(0,10),(0,11),(0,12),(0,13),(0,14),(0,15),(0,16)] mixed (by kernel_rfl) (HSub_app nd) ?_
     refine DM rfl rfl rfl ?_
     refine DM rfl rfl rfl ?_
     refine D0 rfl (p_leq rfl rfl) rfl rfl ?_
     refine DM rfl rfl rfl ?_
     refine DR0 (gc:=((decide (i61≤j65)))) rfl (vok_p (C:=cx) (p_mv rfl (hg:=fun e=>rfl))) (gcT1 rfl) rfl ?_
     refine DR0 (gc:=((decide (i61≤j65)))) rfl (vok_p (C:=cx) (p_mv rfl (hg:=fun e=>rfl))) (gcT1 rfl) rfl ?_
     refine DR0 (gc:=((decide (i61≤j65)))) rfl (vok_p (C:=cx) (p_mv rfl (hg:=fun e=>rfl))) (gcT1 rfl) rfl ?_
     obtain ⟨e78,he78,hX⟩:=bind_some hX
     refine DR0 (gc:=((decide (i61≤j65)))) rfl (vok_p (C:=cx) (p_iaO (xs:=data44) kd33 ty38 rfl rfl rfl ndS (j:=0) rfl (fun e=>optG_t he78 e) (hg:=fun e=>⟨e,e⟩))) (gcT1 rfl) rfl ?_
     refine DR0 (gc:=((decide (i61≤j65)))) rfl (vok_p (C:=cx) (p_ldO (xs:=data44) (a:=e78) (e78:Seal_api) ty38 rfl rfl ndS (j:=0) rfl (fun e=>optG_t he78 e) rfl rfl rfl (hg:=fun e=>e))) (gcT1 rfl) rfl ?_
     refine DR0 (gc:=((decide (i61≤j65)))) rfl (vok_p (C:=cx) (p_mv rfl (hg:=fun e=>rfl))) (gcT1 rfl) rfl ?_
     refine DR0 (gc:=((decide (i61≤j65)))) rfl (vok_p (C:=cx) (p_mv rfl (hg:=fun e=>rfl))) (gcT1 rfl) rfl ?_
     obtain ⟨e79,he79,hX⟩:=bind_some hX
     refine DR0 (gc:=((decide (i61≤j65)))) rfl (vok_p (C:=cx) (p_iaO (xs:=data44) kd33 ty38 rfl rfl rfl ndS (j:=0) rfl (fun e=>optG_t he79 e) (hg:=fun e=>⟨e,e⟩))) (gcT1 rfl) rfl ?_
     refine DR0 (gc:=((decide (i61≤j65)))) rfl (vok_p (C:=cx) (p_ldO (xs:=data44) (a:=e79) (e79:Seal_api) ty38 rfl rfl ndS (j:=0) rfl (fun e=>optG_t he79 e) rfl rfl rfl (hg:=fun e=>e))) (gcT1 rfl) rfl ?_
     obtain ⟨r80,hr80,hX⟩:=bind_some hX
     refine DR0 (gc:=((decide (i61≤j65)))) rfl (vok_c rfl (fun e=>⟨e,⟨e,⟨e,trivial⟩⟩⟩) (fun e=>hg6 e78 e79 _ (optG_t hr80 e))) (gcT1 rfl) rfl ?_
     refine DR0 (gc:=((decide (i61≤j65)))) rfl (vok_p (C:=cx) (p_lss rfl rfl (hg:=fun e=>⟨e,rfl⟩))) (gcT1 rfl) rfl ?_
     refine DR0 (gc:=((decide (i61≤j65)))) rfl (vok_p (C:=cx) (p_not rfl (hg:=fun e=>e))) (gcT1 rfl) rfl ?_
     refine D0 rfl (p_and rfl rfl (fun e=>⟨rfl,fun h=>h⟩)) rfl rfl ?_
     refine DRend ?_
     refine hK77 _ _ ?_
     refine TK.cond (b:=((decide (i61≤j65))&&(!(decide (r80<(0:Int)))))) rfl (fun hc=>?_) (fun hc=>?_)
     ·have hX:=ite_t hc hX
      refine TK.skip ?_
      refine hK76 _ _ ?_
      refine TK.block ?_
      refine TK.reg ?_
      refine M rfl rfl (P1 (p_sub rfl rfl) rfl rfl (M rfl rfl (TL.nil ?_)))
      exact ⟨_,(some_in hX).symm,(),rfl,(Nd.pick nd (is:=[0]) Dc),(HSub.pick nd (is:=[0]) Dc)⟩
     ·have hX:=ite_f hc hX
      refine TK.exit ?_
      obtain rfl:=hR63 _ (some_in hX).symm
      exact E63 j65 _ _ ⟨(),rfl,(Nd.pick nd (is:=[0]) Dc),(HSub.pick nd (is:=[0]) Dc)⟩ hA63
    refine TK.iter [0,1,4,12,13] (fun s env h=>match s with|i59=>∃_u:Unit,env=[(0,true,OL b2 data44),(1,true,Enc.v a3),(4,true,.fn g6f g6m g6c),(12,true,Enc.v i59),(13,true,Enc.v j46)]∧Nd [(b2,RL (α:=Seal_api) 38 data44)]∧HSub [(b2,RL (α:=Seal_api) 38 data44)] h) hO57 ⟨(),rfl,(Nd.pick nd (is:=[0]) Dc),(HSub.pick nd (is:=[0]) Dc)⟩ ?_
    rintro i59 env h x57x ⟨_u,rfl,nd,hs⟩ hX hR57
    refine TK.subH hs ?_
    unfold X.slices_partitionCmpFunc_api_Seal_s57 at hX
    try dsimp only at hX
    refine TK.seq_k fun K81 hK81=>?_
    refine TK.seq_k fun K82 hK82=>?_
    have ndS:Nd [(b2,RL (α:=Seal_api) 38 data44)]:=Nd.pick nd (is:=[0]) Dc
    refine TK.drwX (h:=[]) (hS:=[(b2,RL (α:=Seal_api) 38 data44)]) [(0,0),(0,1),(0,2),(0,3),(0,4),(0,5),(0,6),(0,7),(0,8),(0,9),(0,10),(0,11),(0,12),(0,13),(0,14),(0,15)] mixed (by kernel_rfl) (HSub_app nd) ?_
    refine DM rfl rfl rfl ?_
    refine DM rfl rfl rfl ?_
    refine D0 rfl (p_leq rfl rfl) rfl rfl ?_
    refine DM rfl rfl rfl ?_
    refine DR0 (gc:=((decide (i59≤j46)))) rfl (vok_p (C:=cx) (p_mv rfl (hg:=fun e=>rfl))) (gcT1 rfl) rfl ?_
    refine DR0 (gc:=((decide (i59≤j46)))) rfl (vok_p (C:=cx) (p_mv rfl (hg:=fun e=>rfl))) (gcT1 rfl) rfl ?_
    refine DR0 (gc:=((decide (i59≤j46)))) rfl (vok_p (C:=cx) (p_mv rfl (hg:=fun e=>rfl))) (gcT1 rfl) rfl ?_
    obtain ⟨e83,he83,hX⟩:=bind_some hX
    refine DR0 (gc:=((decide (i59≤j46)))) rfl (vok_p (C:=cx) (p_iaO (xs:=data44) kd33 ty38 rfl rfl rfl ndS (j:=0) rfl (fun e=>optG_t he83 e) (hg:=fun e=>⟨e,e⟩))) (gcT1 rfl) rfl ?_
    refine DR0 (gc:=((decide (i59≤j46)))) rfl (vok_p (C:=cx) (p_ldO (xs:=data44) (a:=e83) (e83:Seal_api) ty38 rfl rfl ndS (j:=0) rfl (fun e=>optG_t he83 e) rfl rfl rfl (hg:=fun e=>e))) (gcT1 rfl) rfl ?_
    refine DR0 (gc:=((decide (i59≤j46)))) rfl (vok_p (C:=cx) (p_mv rfl (hg:=fun e=>rfl))) (gcT1 rfl) rfl ?_
    refine DR0 (gc:=((decide (i59≤j46)))) rfl (vok_p (C:=cx) (p_mv rfl (hg:=fun e=>rfl))) (gcT1 rfl) rfl ?_
    obtain ⟨e84,he84,hX⟩:=bind_some hX
    refine DR0 (gc:=((decide (i59≤j46)))) rfl (vok_p (C:=cx) (p_iaO (xs:=data44) kd33 ty38 rfl rfl rfl ndS (j:=0) rfl (fun e=>optG_t he84 e) (hg:=fun e=>⟨e,e⟩))) (gcT1 rfl) rfl ?_
    refine DR0 (gc:=((decide (i59≤j46)))) rfl (vok_p (C:=cx) (p_ldO (xs:=data44) (a:=e84) (e84:Seal_api) ty38 rfl rfl ndS (j:=0) rfl (fun e=>optG_t he84 e) rfl rfl rfl (hg:=fun e=>e))) (gcT1 rfl) rfl ?_
    obtain ⟨r85,hr85,hX⟩:=bind_some hX
    refine DR0 (gc:=((decide (i59≤j46)))) rfl (vok_c rfl (fun e=>⟨e,⟨e,⟨e,trivial⟩⟩⟩) (fun e=>hg6 e83 e84 _ (optG_t hr85 e))) (gcT1 rfl) rfl ?_
    refine DR0 (gc:=((decide (i59≤j46)))) rfl (vok_p (C:=cx) (p_lss rfl rfl (hg:=fun e=>⟨e,rfl⟩))) (gcT1 rfl) rfl ?_
    refine D0 rfl (p_and rfl rfl (fun e=>⟨rfl,fun h=>h⟩)) rfl rfl ?_
    refine DRend ?_
    refine hK82 _ _ ?_
    refine TK.cond (b:=((decide (i59≤j46))&&(decide (r85<(0:Int))))) rfl (fun hc=>?_) (fun hc=>?_)
    ·have hX:=ite_t hc hX
     refine TK.skip ?_
     refine hK81 _ _ ?_
     refine TK.block ?_
     refine TK.reg ?_
     refine M rfl rfl (P1 (p_add rfl rfl) rfl rfl (M rfl rfl (TL.nil ?_)))
     exact ⟨_,(some_in hX).symm,(),rfl,(Nd.pick nd (is:=[0]) Dc),(HSub.pick nd (is:=[0]) Dc)⟩
    ·have hX:=ite_f hc hX
     refine TK.exit ?_
     obtain rfl:=hR57 _ (some_in hX).symm
     exact E57 i59 _ _ ⟨(),rfl,(Nd.pick nd (is:=[0]) Dc),(HSub.pick nd (is:=[0]) Dc)⟩ hA57
  refine TK.iter [0,1,4,12,13] (fun s env h=>match s with|j23=>∃_u:Unit,env=[(0,true,OL (α:=Seal_api) b2 ((data1.set a3.toNat e9).set pivot5.toNat e10)),(1,true,Enc.v a3),(4,true,.fn g6f g6m g6c),(12,true,Enc.v i19),(13,true,Enc.v j23)]∧Nd [(b2,RL (α:=Seal_api) 38 ((data1.set a3.toNat e9).set pivot5.toNat e10))]∧HSub [(b2,RL (α:=Seal_api) 38 ((data1.set a3.toNat e9).set pivot5.toNat e10))] h) hO21 ⟨(),rfl,(Nd.pick nd (is:=[0]) Dc),(HSub.pick nd (is:=[0]) Dc)⟩ ?_
  rintro j23 env h x21x ⟨_u,rfl,nd,hs⟩ hX hR21
  refine TK.subH hs ?_
  unfold X.slices_partitionCmpFunc_api_Seal_s21 at hX
  try dsimp only at hX
  refine TK.seq_k fun K86 hK86=>?_
  refine TK.seq_k fun K87 hK87=>?_
  have ndS:Nd [(b2,RL (α:=Seal_api) 38 ((data1.set a3.toNat e9).set pivot5.toNat e10))]:=Nd.pick nd (is:=[0]) Dc
  refine TK.drwX (h:=[]) (hS:=[(b2,RL (α:=Seal_api) 38 ((data1.set a3.toNat e9).set pivot5.toNat e10))]) [(0,0),(0,1),(0,2),(0,3),(0,4),(0,5),(0,6),(0,7),(0,8),(0,9),(0,10),(0,11),(0,12),(0,13),(0,14),(0,15),(0,16)] mixed (by kernel_rfl) (HSub_app nd) ?_
  refine DM rfl rfl rfl ?_
  refine DM rfl rfl rfl ?_
  refine D0 rfl (p_leq rfl rfl) rfl rfl ?_
  refine DM rfl rfl rfl ?_
  refine DR0 (gc:=((decide (i19≤j23)))) rfl (vok_p (C:=cx) (p_mv rfl (hg:=fun e=>rfl))) (gcT1 rfl) rfl ?_
  refine DR0 (gc:=((decide (i19≤j23)))) rfl (vok_p (C:=cx) (p_mv rfl (hg:=fun e=>rfl))) (gcT1 rfl) rfl ?_
  refine DR0 (gc:=((decide (i19≤j23)))) rfl (vok_p (C:=cx) (p_mv rfl (hg:=fun e=>rfl))) (gcT1 rfl) rfl ?_
  obtain ⟨e88,he88,hX⟩:=bind_some hX
  refine DR0 (gc:=((decide (i19≤j23)))) rfl (vok_p (C:=cx) (p_iaO (xs:=((data1.set a3.toNat e9).set pivot5.toNat e10)) kd33 ty38 rfl rfl rfl ndS (j:=0) rfl (fun e=>optG_t he88 e) (hg:=fun e=>⟨e,e⟩))) (gcT1 rfl) rfl ?_
  refine DR0 (gc:=((decide (i19≤j23)))) rfl (vok_p (C:=cx) (p_ldO (xs:=((data1.set a3.toNat e9).set pivot5.toNat e10)) (a:=e88) (e88:Seal_api) ty38 rfl rfl ndS (j:=0) rfl (fun e=>optG_t he88 e) rfl rfl rfl (hg:=fun e=>e))) (gcT1 rfl) rfl ?_
  refine DR0 (gc:=((decide (i19≤j23)))) rfl (vok_p (C:=cx) (p_mv rfl (hg:=fun e=>rfl))) (gcT1 rfl) rfl ?_
  refine DR0 (gc:=((decide (i19≤j23)))) rfl (vok_p (C:=cx) (p_mv rfl (hg:=fun e=>rfl))) (gcT1 rfl) rfl ?_
  obtain ⟨e89,he89,hX⟩:=bind_some hX
  refine DR0 (gc:=((decide (i19≤j23)))) rfl (vok_p (C:=cx) (p_iaO (xs:=((data1.set a3.toNat e9).set pivot5.toNat e10)) kd33 ty38 rfl rfl rfl ndS (j:=0) rfl (fun e=>optG_t he89 e) (hg:=fun e=>⟨e,e⟩))) (gcT1 rfl) rfl ?_
  refine DR0 (gc:=((decide (i19≤j23)))) rfl (vok_p (C:=cx) (p_ldO (xs:=((data1.set a3.toNat e9).set pivot5.toNat e10)) (a:=e89) (e89:Seal_api) ty38 rfl rfl ndS (j:=0) rfl (fun e=>optG_t he89 e) rfl rfl rfl (hg:=fun e=>e))) (gcT1 rfl) rfl ?_
  obtain ⟨r90,hr90,hX⟩:=bind_some hX
  refine DR0 (gc:=((decide (i19≤j23)))) rfl (vok_c rfl (fun e=>⟨e,⟨e,⟨e,trivial⟩⟩⟩) (fun e=>hg6 e88 e89 _ (optG_t hr90 e))) (gcT1 rfl) rfl ?_
  refine DR0 (gc:=((decide (i19≤j23)))) rfl (vok_p (C:=cx) (p_lss rfl rfl (hg:=fun e=>⟨e,rfl⟩))) (gcT1 rfl) rfl ?_
  refine DR0 (gc:=((decide (i19≤j23)))) rfl (vok_p (C:=cx) (p_not rfl (hg:=fun e=>e))) (gcT1 rfl) rfl ?_
  refine D0 rfl (p_and rfl rfl (fun e=>⟨rfl,fun h=>h⟩)) rfl rfl ?_
  refine DRend ?_
  refine hK87 _ _ ?_
  refine TK.cond (b:=((decide (i19≤j23))&&(!(decide (r90<(0:Int)))))) rfl (fun hc=>?_) (fun hc=>?_)
  ·have hX:=ite_t hc hX
   refine TK.skip ?_
   refine hK86 _ _ ?_
   refine TK.block ?_
   refine TK.reg ?_
   refine M rfl rfl (P1 (p_sub rfl rfl) rfl rfl (M rfl rfl (TL.nil ?_)))
   exact ⟨_,(some_in hX).symm,(),rfl,(Nd.pick nd (is:=[0]) Dc),(HSub.pick nd (is:=[0]) Dc)⟩
  ·have hX:=ite_f hc hX
   refine TK.exit ?_
   obtain rfl:=hR21 _ (some_in hX).symm
   exact E21 j23 _ _ ⟨(),rfl,(Nd.pick nd (is:=[0]) Dc),(HSub.pick nd (is:=[0]) Dc)⟩ hA21
 refine TK.iter [0,1,4,12,13] (fun s env h=>match s with|i17=>∃_u:Unit,env=[(0,true,OL (α:=Seal_api) b2 ((data1.set a3.toNat e9).set pivot5.toNat e10)),(1,true,Enc.v a3),(4,true,.fn g6f g6m g6c),(12,true,Enc.v i17),(13,true,Enc.v ((wr (b4-(1:Int))):Int))]∧Nd [(b2,RL (α:=Seal_api) 38 ((data1.set a3.toNat e9).set pivot5.toNat e10))]∧HSub [(b2,RL (α:=Seal_api) 38 ((data1.set a3.toNat e9).set pivot5.toNat e10))] h) hO15 ⟨(),rfl,(Nd.pick nd (is:=[0]) Dc),(HSub.pick nd (is:=[0]) Dc)⟩ ?_
 rintro i17 env h x15x ⟨_u,rfl,nd,hs⟩ hX hR15
 refine TK.subH hs ?_
 unfold X.slices_partitionCmpFunc_api_Seal_s15 at hX
 try dsimp only at hX
 refine TK.seq_k fun K91 hK91=>?_
 refine TK.seq_k fun K92 hK92=>?_
 have ndS:Nd [(b2,RL (α:=Seal_api) 38 ((data1.set a3.toNat e9).set pivot5.toNat e10))]:=Nd.pick nd (is:=[0]) Dc
 refine TK.drwX (h:=[]) (hS:=[(b2,RL (α:=Seal_api) 38 ((data1.set a3.toNat e9).set pivot5.toNat e10))]) [(0,0),(0,1),(0,2),(0,3),(0,4),(0,5),(0,6),(0,7),(0,8),(0,9),(0,10),(0,11),(0,12),(0,13),(0,14),(0,15)] mixed (by kernel_rfl) (HSub_app nd) ?_
 refine DM rfl rfl rfl ?_
 refine DM rfl rfl rfl ?_
 refine D0 rfl (p_leq rfl rfl) rfl rfl ?_
 refine DM rfl rfl rfl ?_
 refine DR0 (gc:=((decide (i17≤(wr (b4-(1:Int))))))) rfl (vok_p (C:=cx) (p_mv rfl (hg:=fun e=>rfl))) (gcT1 rfl) rfl ?_
 refine DR0 (gc:=((decide (i17≤(wr (b4-(1:Int))))))) rfl (vok_p (C:=cx) (p_mv rfl (hg:=fun e=>rfl))) (gcT1 rfl) rfl ?_
 refine DR0 (gc:=((decide (i17≤(wr (b4-(1:Int))))))) rfl (vok_p (C:=cx) (p_mv rfl (hg:=fun e=>rfl))) (gcT1 rfl) rfl ?_
 obtain ⟨e93,he93,hX⟩:=bind_some hX
 refine DR0 (gc:=((decide (i17≤(wr (b4-(1:Int))))))) rfl (vok_p (C:=cx) (p_iaO (xs:=((data1.set a3.toNat e9).set pivot5.toNat e10)) kd33 ty38 rfl rfl rfl ndS (j:=0) rfl (fun e=>optG_t he93 e) (hg:=fun e=>⟨e,e⟩))) (gcT1 rfl) rfl ?_
 refine DR0 (gc:=((decide (i17≤(wr (b4-(1:Int))))))) rfl (vok_p (C:=cx) (p_ldO (xs:=((data1.set a3.toNat e9).set pivot5.toNat e10)) (a:=e93) (e93:Seal_api) ty38 rfl rfl ndS (j:=0) rfl (fun e=>optG_t he93 e) rfl rfl rfl (hg:=fun e=>e))) (gcT1 rfl) rfl ?_
 refine DR0 (gc:=((decide (i17≤(wr (b4-(1:Int))))))) rfl (vok_p (C:=cx) (p_mv rfl (hg:=fun e=>rfl))) (gcT1 rfl) rfl ?_
 refine DR0 (gc:=((decide (i17≤(wr (b4-(1:Int))))))) rfl (vok_p (C:=cx) (p_mv rfl (hg:=fun e=>rfl))) (gcT1 rfl) rfl ?_
 obtain ⟨e94,he94,hX⟩:=bind_some hX
 refine DR0 (gc:=((decide (i17≤(wr (b4-(1:Int))))))) rfl (vok_p (C:=cx) (p_iaO (xs:=((data1.set a3.toNat e9).set pivot5.toNat e10)) kd33 ty38 rfl rfl rfl ndS (j:=0) rfl (fun e=>optG_t he94 e) (hg:=fun e=>⟨e,e⟩))) (gcT1 rfl) rfl ?_
 refine DR0 (gc:=((decide (i17≤(wr (b4-(1:Int))))))) rfl (vok_p (C:=cx) (p_ldO (xs:=((data1.set a3.toNat e9).set pivot5.toNat e10)) (a:=e94) (e94:Seal_api) ty38 rfl rfl ndS (j:=0) rfl (fun e=>optG_t he94 e) rfl rfl rfl (hg:=fun e=>e))) (gcT1 rfl) rfl ?_
 obtain ⟨r95,hr95,hX⟩:=bind_some hX
 refine DR0 (gc:=((decide (i17≤(wr (b4-(1:Int))))))) rfl (vok_c rfl (fun e=>⟨e,⟨e,⟨e,trivial⟩⟩⟩) (fun e=>hg6 e93 e94 _ (optG_t hr95 e))) (gcT1 rfl) rfl ?_
 refine DR0 (gc:=((decide (i17≤(wr (b4-(1:Int))))))) rfl (vok_p (C:=cx) (p_lss rfl rfl (hg:=fun e=>⟨e,rfl⟩))) (gcT1 rfl) rfl ?_
 refine D0 rfl (p_and rfl rfl (fun e=>⟨rfl,fun h=>h⟩)) rfl rfl ?_
 refine DRend ?_
 refine hK92 _ _ ?_
 refine TK.cond (b:=((decide (i17≤(wr (b4-(1:Int)))))&&(decide (r95<(0:Int))))) rfl (fun hc=>?_) (fun hc=>?_)
 ·have hX:=ite_t hc hX
  refine TK.skip ?_
  refine hK91 _ _ ?_
  refine TK.block ?_
  refine TK.reg ?_
  refine M rfl rfl (P1 (p_add rfl rfl) rfl rfl (M rfl rfl (TL.nil ?_)))
  exact ⟨_,(some_in hX).symm,(),rfl,(Nd.pick nd (is:=[0]) Dc),(HSub.pick nd (is:=[0]) Dc)⟩
 ·have hX:=ite_f hc hX
  refine TK.exit ?_
  obtain rfl:=hR15 _ (some_in hX).symm
  exact E15 i17 _ _ ⟨(),rfl,(Nd.pick nd (is:=[0]) Dc),(HSub.pick nd (is:=[0]) Dc)⟩ hA15
theorem len_slices_partitionCmpFunc_api_SealL {a3:Int} {b4:Int} {pivot5:Int} {g6:Seal_api→Seal_api→Option Int} {data1:(List Seal_api)} {r:(Int×Bool×(List Seal_api))} (hX:X.slices_partitionCmpFunc_api_SealL a3 b4 pivot5 g6 data1=some r):r.2.2.length=data1.length:=by
 obtain ⟨q,_,h⟩:=bind_some hX
 split at h
 ·injection h with h
  subst h
  assumption
 ·cases h
theorem ok_slices_partitionCmpFunc_api_SealL (a3:Int) (b4:Int) (pivot5:Int) (g6:Seal_api→Seal_api→Option Int) (data1:(List Seal_api)) (b2:Nat) (nd:Nd [(b2,RL (α:=Seal_api) 38 data1)]) (r:(Int×Bool×(List Seal_api))) (hX:X.slices_partitionCmpFunc_api_SealL a3 b4 pivot5 g6 data1=some r) {g6V:AV} (hg6V:∃f m c,g6V= .fn f m c∧(∀i,i<m→(c i).val)∧∀(a0:Seal_api) (a1:Seal_api) r,g6 a0 a1=some r→Fun Tryz.prog f ([Enc.v a0,Enc.v a1]++(List.range m).map c) (·=Enc.v r)):TCX Tryz.prog 103 [OL (α:=Seal_api) b2 data1,Enc.v (a3:Int),Enc.v (b4:Int),Enc.v (pivot5:Int),g6V] [(b2,RL (α:=Seal_api) 38 data1)] (fun rv h'=>rv= .tup 2 (ofL [Enc.v (r.1:Int),Enc.v (r.2.1:Bool)])∧h'=[(b2,RL (α:=Seal_api) 38 r.2.2)]):=by
 obtain ⟨q,h1,h2⟩:=bind_some hX
 split at h2
 ·injection h2 with h2
  subst h2
  exact ok_slices_partitionCmpFunc_api_Seal a3 b4 pivot5 g6 data1 b2 nd _ h1 hg6V
 ·cases h2
theorem ok_slices_pdqsortCmpFunc_api_Seal_0 (a3:Int) (b4:Int) (limit5:Int) (g6:Seal_api→Seal_api→Option Int) (data1:(List Seal_api)) (b2:Nat) (nd:Nd [(b2,RL (α:=Seal_api) 38 data1)]) (r:(List Seal_api)) (hX:X.slices_pdqsortCmpFunc_api_Seal_0 a3 b4 limit5 g6 data1=some r) {g6V:AV} (hg6V:∃f m c,g6V= .fn f m c∧(∀i,i<m→(c i).val)∧∀(a0:Seal_api) (a1:Seal_api) r,g6 a0 a1=some r→Fun Tryz.prog f ([Enc.v a0,Enc.v a1]++(List.range m).map c) (·=Enc.v r)):TCX Tryz.prog 64 [OL (α:=Seal_api) b2 data1,Enc.v (a3:Int),Enc.v (b4:Int),Enc.v (limit5:Int),g6V] [(b2,RL (α:=Seal_api) 38 data1)] (fun rv h'=>rv= .tup 0 (ofL [])∧h'=[(b2,RL (α:=Seal_api) 38 r)]):=by
 obtain ⟨g6f,g6m,g6c,rfl,hg6v,hg6⟩:=hg6V
 have:NoA (.fn g6f g6m g6c):=⟨fun i hi=>(hg6v i hi).no⟩
 refine TCX.of b64 (Nat.le_of_ble_eq_true rfl) ?_
 unfold k64
 unfold X.slices_pdqsortCmpFunc_api_Seal_0 at hX
 refine SR fun K7 hK7=>M rfl rfl (TL.nil (hK7 _ _ (SR fun K8 hK8=>M rfl rfl (TL.nil (hK8 _ _ ?_)))))
 refine TK.block ?_
 refine TK.unroll 1 ?_
 refine unr_s ?_
 refine TK.block ?_
 refine SR fun K10 hK10=>M rfl rfl (M rfl rfl (P1 (p_sub rfl rfl) rfl rfl (M rfl rfl (TL.nil (hK10 _ _ ?_)))))
 refine TK.seq_k fun K11 hK11=>?_
 refine SR fun K12 hK12=>M rfl rfl (P1 (p_leq rfl rfl) rfl rfl (TL.nil (hK12 _ _ ?_)))
 refine TK.cond (b:=(decide ((wr (b4-a3))≤(12:Int)))) rfl (fun hc=>?_) (fun hc=>?_)
 ·have hX:=ite_t hc hX
  refine SR fun K13 hK13=>M rfl rfl (M rfl rfl (M rfl rfl (M rfl rfl ?_)))
  obtain ⟨r14,hr14,hX⟩:=bind_some hX
  refine TL.tcX [(b2,RL (α:=Seal_api) 38 data1)] [] rfl nd (dlt rfl) rfl ⟨rfl,⟨rfl,⟨rfl,⟨rfl,⟨rfl,trivial⟩⟩⟩⟩⟩ (ok_slices_insertionSortCmpFunc_api_Seal a3 b4 g6 data1 b2 (Nd.take nd 1 rfl) _ hr14 ⟨_,_,_,rfl,hg6v,hg6⟩) ?_
  rintro _ _ hQ nd
  obtain ⟨rfl,rfl⟩:=hQ
  refine TL.nil (hK13 _ _ ?_)
  refine TK.ret ?_
  try dsimp only[thenQ]
  exact retX (v:= .tup 0 (ofL [])) res0 (by obtain rfl:=some_in hX;exact ⟨rfl,rfl⟩) nd (inH_tup (l:=[]) trivial) ⟨rowIn_RL,trivial⟩
 ·have hX:=ite_f hc hX
  refine TK.skip ?_
  refine hK11 _ _ ?_
  refine TK.seq_k fun K15 hK15=>?_
  refine SR fun K16 hK16=>M rfl rfl (P1 (p_eql rfl rfl) rfl rfl (TL.nil (hK16 _ _ ?_)))
  refine TK.cond (b:=(limit5==(0:Int))) rfl (fun hc=>?_) (fun hc=>?_)
  ·have hX:=ite_t hc hX
   refine SR fun K17 hK17=>M rfl rfl (M rfl rfl (M rfl rfl (M rfl rfl ?_)))
   cases hX
  ·have hX:=ite_f hc hX
   refine TK.skip ?_
   refine hK15 _ _ ?_
   refine TK.seq_k fun K18 hK18=>?_
   refine SR fun K19 hK19=>M rfl rfl (P1 (p_not rfl) rfl rfl (TL.nil (hK19 _ _ ?_)))
   refine TK.cond (b:=(!true)) rfl (fun hc=>?_) (fun hc=>?_)
   ·have hX:=ite_t hc hX
    refine SR fun K20 hK20=>M rfl rfl (M rfl rfl (M rfl rfl (M rfl rfl ?_)))
    cases hX
   ·have hX:=ite_f hc hX
    refine TK.skip ?_
    refine hK18 _ _ (SR fun K21 hK21=>M rfl rfl (M rfl rfl (M rfl rfl (M rfl rfl ?_))))
    cases hX
theorem len_slices_pdqsortCmpFunc_api_Seal_0L {a3:Int} {b4:Int} {limit5:Int} {g6:Seal_api→Seal_api→Option Int} {data1:(List Seal_api)} {r:(List Seal_api)} (hX:X.slices_pdqsortCmpFunc_api_Seal_0L a3 b4 limit5 g6 data1=some r):r.length=data1.length:=by
 obtain ⟨q,_,h⟩:=bind_some hX
 split at h
 ·injection h with h
  subst h
  assumption
 ·cases h
theorem ok_slices_pdqsortCmpFunc_api_Seal_0L (a3:Int) (b4:Int) (limit5:Int) (g6:Seal_api→Seal_api→Option Int) (data1:(List Seal_api)) (b2:Nat) (nd:Nd [(b2,RL (α:=Seal_api) 38 data1)]) (r:(List Seal_api)) (hX:X.slices_pdqsortCmpFunc_api_Seal_0L a3 b4 limit5 g6 data1=some r) {g6V:AV} (hg6V:∃f m c,g6V= .fn f m c∧(∀i,i<m→(c i).val)∧∀(a0:Seal_api) (a1:Seal_api) r,g6 a0 a1=some r→Fun Tryz.prog f ([Enc.v a0,Enc.v a1]++(List.range m).map c) (·=Enc.v r)):TCX Tryz.prog 64 [OL (α:=Seal_api) b2 data1,Enc.v (a3:Int),Enc.v (b4:Int),Enc.v (limit5:Int),g6V] [(b2,RL (α:=Seal_api) 38 data1)] (fun rv h'=>rv= .tup 0 (ofL [])∧h'=[(b2,RL (α:=Seal_api) 38 r)]):=by
 obtain ⟨q,h1,h2⟩:=bind_some hX
 split at h2
 ·injection h2 with h2
  subst h2
  exact ok_slices_pdqsortCmpFunc_api_Seal_0 a3 b4 limit5 g6 data1 b2 nd _ h1 hg6V
 ·cases h2
theorem ok_slices_pdqsortCmpFunc_api_Seal (a3:Int) (b4:Int) (limit5:Int) (g6:Seal_api→Seal_api→Option Int) (data1:(List Seal_api)) (b2:Nat) (nd:Nd [(b2,RL (α:=Seal_api) 38 data1)]) (r:(List Seal_api)) (hX:X.slices_pdqsortCmpFunc_api_Seal a3 b4 limit5 g6 data1=some r) {g6V:AV} (hg6V:∃f m c,g6V= .fn f m c∧(∀i,i<m→(c i).val)∧∀(a0:Seal_api) (a1:Seal_api) r,g6 a0 a1=some r→Fun Tryz.prog f ([Enc.v a0,Enc.v a1]++(List.range m).map c) (·=Enc.v r)):TCX Tryz.prog 64 [OL (α:=Seal_api) b2 data1,Enc.v (a3:Int),Enc.v (b4:Int),Enc.v (limit5:Int),g6V] [(b2,RL (α:=Seal_api) 38 data1)] (fun rv h'=>rv= .tup 0 (ofL [])∧h'=[(b2,RL (α:=Seal_api) 38 r)]):=by
 obtain ⟨g6f,g6m,g6c,rfl,hg6v,hg6⟩:=hg6V
 have:NoA (.fn g6f g6m g6c):=⟨fun i hi=>(hg6v i hi).no⟩
 refine TCX.of b64 (Nat.le_of_ble_eq_true rfl) ?_
 unfold k64
 unfold X.slices_pdqsortCmpFunc_api_Seal at hX
 refine SR fun K7 hK7=>M rfl rfl (TL.nil (hK7 _ _ (SR fun K8 hK8=>M rfl rfl (TL.nil (hK8 _ _ ?_)))))
 refine TK.block ?_
 obtain ⟨o9,hO9,hA9⟩:=bind_some hX
 refine TK.iter [0,1,2,3,4,10,11] (fun s env h=>match s with|(data11,a12,b13,limit14,wasBalanced15,wasPartitioned16)=>∃_u:Unit,env=[(0,true,OL b2 data11),(1,true,Enc.v a12),(2,true,Enc.v b13),(3,true,Enc.v limit14),(4,true,.fn g6f g6m g6c),(10,true,Enc.v wasBalanced15),(11,true,Enc.v wasPartitioned16)]∧Nd [(b2,RL (α:=Seal_api) 38 data11)]∧HSub [(b2,RL (α:=Seal_api) 38 data11)] h) hO9 ⟨(),rfl,(Nd.pick nd (is:=[0]) Dc),(HSub.pick nd (is:=[0]) Dc)⟩ ?_
 rintro ⟨data11,a12,b13,limit14,wasBalanced15,wasPartitioned16⟩ env h x9x ⟨_u,rfl,nd,hs⟩ hX hR9
 refine TK.subH hs ?_
 unfold X.slices_pdqsortCmpFunc_api_Seal_s9 at hX
 try dsimp only at hX
 refine TK.block ?_
 refine SR fun K17 hK17=>M rfl rfl (M rfl rfl (P1 (p_sub rfl rfl) rfl rfl (M rfl rfl (TL.nil (hK17 _ _ ?_)))))
 refine TK.seq_k fun K18 hK18=>?_
 refine SR fun K19 hK19=>M rfl rfl (P1 (p_leq rfl rfl) rfl rfl (TL.nil (hK19 _ _ ?_)))
 refine TK.cond (b:=(decide ((wr (b13-a12))≤(12:Int)))) rfl (fun hc=>?_) (fun hc=>?_)
 ·have hX:=ite_t hc hX
  refine SR fun K20 hK20=>M rfl rfl (M rfl rfl (M rfl rfl (M rfl rfl ?_)))
  obtain ⟨r21,hr21,hX⟩:=bind_some hX
  refine TL.tcX [(b2,RL (α:=Seal_api) 38 data11)] [] rfl nd (dlt rfl) rfl ⟨rfl,⟨rfl,⟨rfl,⟨rfl,⟨rfl,trivial⟩⟩⟩⟩⟩ (ok_slices_insertionSortCmpFunc_api_Seal a12 b13 g6 data11 b2 (Nd.take nd 1 rfl) _ hr21 ⟨_,_,_,rfl,hg6v,hg6⟩) ?_
  rintro _ _ hQ nd
  obtain ⟨rfl,rfl⟩:=hQ
  refine TL.nil (hK20 _ _ ?_)
  refine TK.ret ?_
  obtain rfl:=hR9 _ (some_in hX).symm
  replace hX:=hA9
  try dsimp only[thenQ]
  exact retX (v:= .tup 0 (ofL [])) res0 (by obtain rfl:=some_in hX;exact ⟨rfl,rfl⟩) nd (inH_tup (l:=[]) trivial) ⟨rowIn_RL,trivial⟩
 ·have hX:=ite_f hc hX
  refine TK.skip ?_
  refine hK18 _ _ ?_
  refine TK.seq_k fun K22 hK22=>?_
  refine SR fun K23 hK23=>M rfl rfl (P1 (p_eql rfl rfl) rfl rfl (TL.nil (hK23 _ _ ?_)))
  refine TK.cond (b:=(limit14==(0:Int))) rfl (fun hc=>?_) (fun hc=>?_)
  ·have hX:=ite_t hc hX
   refine SR fun K24 hK24=>M rfl rfl (M rfl rfl (M rfl rfl (M rfl rfl ?_)))
   cases hX
  ·have hX:=ite_f hc hX
   refine TK.skip ?_
   refine hK22 _ _ ?_
   refine TK.seq_k fun K25 hK25=>?_
   have J25:∀(l27:List Seal_api) (limit28:Int) (env:Env) (h:Hp),(∃_u:Unit,keepE [0,1,2,3,4,10,11,12] env=[(0,true,OL b2 l27),(1,true,Enc.v a12),(2,true,Enc.v b13),(3,true,Enc.v limit28),(4,true,.fn g6f g6m g6c),(10,true,Enc.v wasBalanced15),(11,true,Enc.v wasPartitioned16),(12,true,Enc.v ((wr (b13-a12)):Int))]∧Nd [(b2,RL (α:=Seal_api) 38 l27)]∧HSub [(b2,RL (α:=Seal_api) 38 l27)] h)→X.slices_pdqsortCmpFunc_api_Seal_j25 a12 b13 g6 wasBalanced15 wasPartitioned16 l27 limit28=some x9x→K25 env h:=by
    intro l27 limit28 env h hE hX
    obtain ⟨_u,henv,nd,hs⟩:=hE
    unfold X.slices_pdqsortCmpFunc_api_Seal_j25 at hX
    refine hK25 _ _ (TK.keep [0,1,2,3,4,10,11,12] ?_)
    rw[henv]
    refine TK.subH hs ?_
    refine SR fun K29 hK29=>M rfl rfl (M rfl rfl (M rfl rfl (M rfl rfl ?_)))
    obtain ⟨r30,hr30,hX⟩:=bind_some hX
    refine TL.tcX [(b2,RL (α:=Seal_api) 38 l27)] [] rfl nd (dlt rfl) rfl ⟨rfl,⟨rfl,⟨rfl,⟨rfl,⟨rfl,trivial⟩⟩⟩⟩⟩ (ok_slices_choosePivotCmpFunc_api_Seal a12 b13 g6 l27 b2 (Nd.take nd 1 rfl) _ hr30 ⟨_,_,_,rfl,hg6v,hg6⟩) ?_
    rintro _ _ hQ nd
    obtain ⟨rfl,rfl⟩:=hQ
    refine M rfl rfl (P1 (p_ex rfl rfl Dc) rfl rfl (P1 (p_ex rfl rfl Dc) rfl rfl (M rfl rfl (M rfl rfl (TL.nil (hK29 _ _ ?_))))))
    refine TK.seq_k fun K31 hK31=>?_
    refine SR fun K32 hK32=>M rfl rfl (P1 (p_eql rfl rfl) rfl rfl (TL.nil (hK32 _ _ ?_)))
    refine TK.cond (b:=(r30.2==(2:Int))) rfl (fun hc=>?_) (fun hc=>?_)
    ·have hX:=ite_t hc hX
     refine SR fun K33 hK33=>M rfl rfl (M rfl rfl (M rfl rfl (M rfl rfl ?_)))
     cases hX
    ·have hX:=ite_f hc hX
     refine TK.skip ?_
     refine hK31 _ _ ?_
     refine TK.seq_k fun K34 hK34=>?_
     have J34:∀(l36:List Seal_api) (env:Env) (h:Hp),(∃_u:Unit,keepE [0,1,2,3,4,10,11,12,13] env=[(0,true,OL b2 l36),(1,true,Enc.v a12),(2,true,Enc.v b13),(3,true,Enc.v limit28),(4,true,.fn g6f g6m g6c),(10,true,Enc.v wasBalanced15),(11,true,Enc.v wasPartitioned16),(12,true,Enc.v ((wr (b13-a12)):Int)),(13,true,Enc.v r30.1)]∧Nd [(b2,RL (α:=Seal_api) 38 l36)]∧HSub [(b2,RL (α:=Seal_api) 38 l36)] h)→X.slices_pdqsortCmpFunc_api_Seal_j34 a12 r30 g6 b13 limit28 l36=some x9x→K34 env h:=by
      intro l36 env h hE hX
      obtain ⟨_u,henv,nd,hs⟩:=hE
      unfold X.slices_pdqsortCmpFunc_api_Seal_j34 at hX
      refine hK34 _ _ (TK.keep [0,1,2,3,4,10,11,12,13] ?_)
      rw[henv]
      refine TK.subH hs ?_
      refine TK.seq_k fun K37 hK37=>?_
      refine TK.seq_k fun K38 hK38=>?_
      have ndS:Nd [(b2,RL (α:=Seal_api) 38 l36)]:=Nd.pick nd (is:=[0]) Dc
      refine TK.drwX (h:=[]) (hS:=[(b2,RL (α:=Seal_api) 38 l36)]) [(0,0),(0,1),(0,2),(0,3),(0,4),(0,5),(0,6),(0,7),(0,8),(0,9),(0,10),(0,11),(0,12),(0,13),(0,14),(0,15),(0,16)] mixed (by kernel_rfl) (HSub_app nd) ?_
      refine DM rfl rfl rfl ?_
      refine D0 rfl (p_gtr rfl rfl) rfl rfl ?_
      refine DM rfl rfl rfl ?_
      refine DR0 (gc:=((decide (a12>(0:Int))))) rfl (vok_p (C:=cx) (p_mv rfl (hg:=fun e=>rfl))) (gcT1 rfl) rfl ?_
      refine DR0 (gc:=((decide (a12>(0:Int))))) rfl (vok_p (C:=cx) (p_mv rfl (hg:=fun e=>rfl))) (gcT1 rfl) rfl ?_
      refine DR0 (gc:=((decide (a12>(0:Int))))) rfl (vok_p (C:=cx) (p_mv rfl (hg:=fun e=>rfl))) (gcT1 rfl) rfl ?_
      refine DR0 (gc:=((decide (a12>(0:Int))))) rfl (vok_p (C:=cx) (p_sub rfl rfl (hg:=fun e=>⟨e,rfl⟩))) (gcT1 rfl) rfl ?_
      obtain ⟨e39,he39,hX⟩:=bind_some hX
      refine DR0 (gc:=((decide (a12>(0:Int))))) rfl (vok_p (C:=cx) (p_iaO (xs:=l36) kd33 ty38 rfl rfl rfl ndS (j:=0) rfl (fun e=>optG_t he39 e) (hg:=fun e=>⟨e,e⟩))) (gcT1 rfl) rfl ?_
      refine DR0 (gc:=((decide (a12>(0:Int))))) rfl (vok_p (C:=cx) (p_ldO (xs:=l36) (a:=e39) (e39:Seal_api) ty38 rfl rfl ndS (j:=0) rfl (fun e=>optG_t he39 e) rfl rfl rfl (hg:=fun e=>e))) (gcT1 rfl) rfl ?_
      refine DR0 (gc:=((decide (a12>(0:Int))))) rfl (vok_p (C:=cx) (p_mv rfl (hg:=fun e=>rfl))) (gcT1 rfl) rfl ?_
      refine DR0 (gc:=((decide (a12>(0:Int))))) rfl (vok_p (C:=cx) (p_mv rfl (hg:=fun e=>rfl))) (gcT1 rfl) rfl ?_
      obtain ⟨e40,he40,hX⟩:=bind_some hX
      refine DR0 (gc:=((decide (a12>(0:Int))))) rfl (vok_p (C:=cx) (p_iaO (xs:=l36) kd33 ty38 rfl rfl rfl ndS (j:=0) rfl (fun e=>optG_t he40 e) (hg:=fun e=>⟨e,e⟩))) (gcT1 rfl) rfl ?_
      refine DR0 (gc:=((decide (a12>(0:Int))))) rfl (vok_p (C:=cx) (p_ldO (xs:=l36) (a:=e40) (e40:Seal_api) ty38 rfl rfl ndS (j:=0) rfl (fun e=>optG_t he40 e) rfl rfl rfl (hg:=fun e=>e))) (gcT1 rfl) rfl ?_
      obtain ⟨r41,hr41,hX⟩:=bind_some hX
      refine DR0 (gc:=((decide (a12>(0:Int))))) rfl (vok_c rfl (fun e=>⟨e,⟨e,⟨e,trivial⟩⟩⟩) (fun e=>hg6 e39 e40 _ (optG_t hr41 e))) (gcT1 rfl) rfl ?_
      refine DR0 (gc:=((decide (a12>(0:Int))))) rfl (vok_p (C:=cx) (p_lss rfl rfl (hg:=fun e=>⟨e,rfl⟩))) (gcT1 rfl) rfl ?_
      refine DR0 (gc:=((decide (a12>(0:Int))))) rfl (vok_p (C:=cx) (p_not rfl (hg:=fun e=>e))) (gcT1 rfl) rfl ?_
      refine D0 rfl (p_and rfl rfl (fun e=>⟨rfl,fun h=>h⟩)) rfl rfl ?_
      refine DRend ?_
      refine hK38 _ _ ?_
      refine TK.cond (b:=((decide (a12>(0:Int)))&&(!(decide (r41<(0:Int)))))) rfl (fun hc=>?_) (fun hc=>?_)
      ·have hX:=ite_t hc hX
       refine SR fun K42 hK42=>M rfl rfl (M rfl rfl (M rfl rfl (M rfl rfl (M rfl rfl ?_))))
       cases hX
      ·have hX:=ite_f hc hX
       refine TK.skip ?_
       refine hK37 _ _ (SR fun K43 hK43=>M rfl rfl (M rfl rfl (M rfl rfl (M rfl rfl (M rfl rfl ?_)))))
       obtain ⟨r44,hr44,hX⟩:=bind_some hX
       refine TL.tcX [(b2,RL (α:=Seal_api) 38 l36)] [] rfl nd (dlt rfl) rfl ⟨rfl,⟨rfl,⟨rfl,⟨rfl,⟨rfl,⟨rfl,trivial⟩⟩⟩⟩⟩⟩ (ok_slices_partitionCmpFunc_api_SealL a12 b13 r30.1 g6 l36 b2 (Nd.take nd 1 rfl) _ hr44 ⟨_,_,_,rfl,hg6v,hg6⟩) ?_
       rintro _ _ hQ nd
       obtain ⟨rfl,rfl⟩:=hQ
       refine TL.cv 0 (OL (α:=Seal_api) b2 r44.2.2) rfl (Wk_eq (OL_len (by first|exact len_slices_partitionCmpFunc_api_SealL hr44|exact (len_slices_partitionCmpFunc_api_SealL hr44).symm))) ?_
       refine TL.cv 106 (OL (α:=Seal_api) b2 r44.2.2) rfl (Wk_eq (OL_len (by first|exact len_slices_partitionCmpFunc_api_SealL hr44|exact (len_slices_partitionCmpFunc_api_SealL hr44).symm))) ?_
       refine M rfl rfl (P1 (p_ex rfl rfl Dc) rfl rfl (P1 (p_ex rfl rfl Dc) rfl rfl (M rfl rfl (M rfl rfl (TL.nil (hK43 _ _ (SR fun K45 hK45=>M rfl rfl (M rfl rfl (TL.nil (hK45 _ _ (SR fun K46 hK46=>M rfl rfl (M rfl rfl (P1 (p_sub rfl rfl) rfl rfl (M rfl rfl ?_))))))))))))))
       refine M rfl rfl (P1 (p_sub rfl rfl) rfl rfl (M rfl rfl (M rfl rfl (TL.nil (hK46 _ _ (SR fun K47 hK47=>M rfl rfl (P1 (p_quo rfl rfl (fun _=>by decide)) rfl rfl (M rfl rfl (TL.nil (hK47 _ _ (SR fun K48 hK48=>M rfl rfl (M rfl rfl (P1 (p_lss rfl rfl) rfl rfl (TL.nil ?_))))))))))))))
       refine hK48 _ _ ?_
       refine TK.cond (b:=(decide ((wr (r44.1-a12))<(wr (b13-r44.1))))) rfl (fun hc=>?_) (fun hc=>?_)
       ·have hX:=ite_t hc hX
        refine SR fun K49 hK49=>M rfl rfl (M rfl rfl (P1 (p_geq rfl rfl) rfl rfl (M rfl rfl (TL.nil (hK49 _ _ (SR fun K50 hK50=>M rfl rfl (M rfl rfl (M rfl rfl (M rfl rfl (M rfl rfl ?_))))))))))
        obtain ⟨r51,hr51,hX⟩:=bind_some hX
        refine TL.tcX [(b2,RL (α:=Seal_api) 38 r44.2.2)] [] rfl nd (dlt rfl) rfl ⟨rfl,⟨rfl,⟨rfl,⟨rfl,⟨rfl,⟨rfl,trivial⟩⟩⟩⟩⟩⟩ (ok_slices_pdqsortCmpFunc_api_Seal_0L a12 r44.1 limit28 g6 r44.2.2 b2 (Nd.take nd 1 rfl) _ hr51 ⟨_,_,_,rfl,hg6v,hg6⟩) ?_
        rintro _ _ hQ nd
        obtain ⟨rfl,rfl⟩:=hQ
        refine TL.cv 0 (OL b2 r51) rfl (Wk_eq (OL_len (by first|exact len_slices_pdqsortCmpFunc_api_Seal_0L hr51|exact (len_slices_pdqsortCmpFunc_api_Seal_0L hr51).symm))) ?_
        refine TL.cv 106 (OL b2 r51) rfl (Wk_eq (OL_len (by first|exact len_slices_pdqsortCmpFunc_api_Seal_0L hr51|exact (len_slices_pdqsortCmpFunc_api_Seal_0L hr51).symm))) ?_
        refine TL.cv 129 (OL b2 r51) rfl (Wk_eq (OL_len (by first|exact len_slices_pdqsortCmpFunc_api_Seal_0L hr51|exact (len_slices_pdqsortCmpFunc_api_Seal_0L hr51).symm))) ?_
        refine TL.nil (hK50 _ _ ?_)
        refine TK.reg ?_
        refine M rfl rfl (P1 (p_add rfl rfl) rfl rfl (M rfl rfl (TL.nil ?_)))
        exact ⟨_,(some_in hX).symm,(),rfl,(Nd.pick nd (is:=[0]) Dc),(HSub.pick nd (is:=[0]) Dc)⟩
       ·have hX:=ite_f hc hX
        refine SR fun K52 hK52=>M rfl rfl (M rfl rfl (P1 (p_geq rfl rfl) rfl rfl (M rfl rfl (TL.nil (hK52 _ _ (SR fun K53 hK53=>M rfl rfl (M rfl rfl (P1 (p_add rfl rfl) rfl rfl (M rfl rfl (M rfl rfl (M rfl rfl ?_)))))))))))
        obtain ⟨r54,hr54,hX⟩:=bind_some hX
        refine TL.tcX [(b2,RL (α:=Seal_api) 38 r44.2.2)] [] rfl nd (dlt rfl) rfl ⟨rfl,⟨rfl,⟨rfl,⟨rfl,⟨rfl,⟨rfl,trivial⟩⟩⟩⟩⟩⟩ (ok_slices_pdqsortCmpFunc_api_Seal_0L (wr (r44.1+(1:Int))) b13 limit28 g6 r44.2.2 b2 (Nd.take nd 1 rfl) _ hr54 ⟨_,_,_,rfl,hg6v,hg6⟩) ?_
        rintro _ _ hQ nd
        obtain ⟨rfl,rfl⟩:=hQ
        refine TL.cv 0 (OL b2 r54) rfl (Wk_eq (OL_len (by first|exact len_slices_pdqsortCmpFunc_api_Seal_0L hr54|exact (len_slices_pdqsortCmpFunc_api_Seal_0L hr54).symm))) ?_
        refine TL.cv 106 (OL b2 r54) rfl (Wk_eq (OL_len (by first|exact len_slices_pdqsortCmpFunc_api_Seal_0L hr54|exact (len_slices_pdqsortCmpFunc_api_Seal_0L hr54).symm))) ?_
        refine TL.cv 140 (OL b2 r54) rfl (Wk_eq (OL_len (by first|exact len_slices_pdqsortCmpFunc_api_Seal_0L hr54|exact (len_slices_pdqsortCmpFunc_api_Seal_0L hr54).symm))) ?_
        refine TL.nil (hK53 _ _ ?_)
        refine TK.reg ?_
        refine M rfl rfl (M rfl rfl (TL.nil ?_))
        exact ⟨_,(some_in hX).symm,(),rfl,(Nd.pick nd (is:=[0]) Dc),(HSub.pick nd (is:=[0]) Dc)⟩
     refine SR fun K55 hK55=>M rfl rfl (M rfl rfl ?_)
     refine TLc.p (gc:=wasBalanced15) (p_mv rfl (hg:=fun e=>rfl)) (gcT1 rfl) rfl ?_
     refine P1 (p_and rfl rfl (fun e=>⟨rfl,fun h=>h⟩)) rfl rfl (M rfl rfl ?_)
     refine TLc.p (gc:=((wasBalanced15&&wasPartitioned16))) (p_mv rfl (hg:=fun e=>rfl)) (gcT1 rfl) rfl ?_
     refine TLc.p (gc:=((wasBalanced15&&wasPartitioned16))) (p_eql rfl rfl (hg:=fun e=>⟨e,rfl⟩)) (gcT1 rfl) rfl ?_
     refine P1 (p_and rfl rfl (fun e=>⟨rfl,fun h=>h⟩)) rfl rfl (TL.nil (hK55 _ _ ?_))
     refine TK.cond (b:=((wasBalanced15&&wasPartitioned16)&&(r30.2==(1:Int)))) rfl (fun hc=>?_) (fun hc=>?_)
     ·have hX:=ite_t hc hX
      refine SR fun K56 hK56=>M rfl rfl (M rfl rfl (M rfl rfl (M rfl rfl ?_)))
      obtain ⟨r57,hr57,hX⟩:=bind_some hX
      refine TL.tcX [(b2,RL (α:=Seal_api) 38 l27)] [] rfl nd (dlt rfl) rfl ⟨rfl,⟨rfl,⟨rfl,⟨rfl,⟨rfl,trivial⟩⟩⟩⟩⟩ (ok_slices_partialInsertionSortCmpFunc_api_SealL a12 b13 g6 l27 b2 (Nd.take nd 1 rfl) _ hr57 ⟨_,_,_,rfl,hg6v,hg6⟩) ?_
      rintro _ _ hQ nd
      obtain ⟨rfl,rfl⟩:=hQ
      refine TL.cv 0 (OL (α:=Seal_api) b2 r57.2) rfl (Wk_eq (OL_len (by first|exact len_slices_partialInsertionSortCmpFunc_api_SealL hr57|exact (len_slices_partialInsertionSortCmpFunc_api_SealL hr57).symm))) ?_
      refine TL.cv 48 (OL (α:=Seal_api) b2 r57.2) rfl (Wk_eq (OL_len (by first|exact len_slices_partialInsertionSortCmpFunc_api_SealL hr57|exact (len_slices_partialInsertionSortCmpFunc_api_SealL hr57).symm))) ?_
      refine TL.cv 76 (OL (α:=Seal_api) b2 r57.2) rfl (Wk_eq (OL_len (by first|exact len_slices_partialInsertionSortCmpFunc_api_SealL hr57|exact (len_slices_partialInsertionSortCmpFunc_api_SealL hr57).symm))) ?_
      refine TL.nil (hK56 _ _ ?_)
      refine TK.cond (b:=r57.1) rfl (fun hc=>?_) (fun hc=>?_)
      ·have hX:=ite_t hc hX
       refine TK.ret ?_
       obtain rfl:=hR9 _ (some_in hX).symm
       replace hX:=hA9
       try dsimp only[thenQ]
       exact retX (v:= .tup 0 (ofL [])) res0 (by obtain rfl:=some_in hX;exact ⟨rfl,rfl⟩) nd (inH_tup (l:=[]) trivial) ⟨rowIn_RL,trivial⟩
      ·have hX:=ite_f hc hX
       refine TK.skip ?_
       exact J34 r57.2 _ _ ⟨(),rfl,(Nd.pick nd (is:=[0]) Dc),(HSub.pick nd (is:=[0]) Dc)⟩ hX
     ·have hX:=ite_f hc hX
      refine TK.skip ?_
      exact J34 l27 _ _ ⟨(),rfl,(Nd.pick nd (is:=[0]) Dc),(HSub.pick nd (is:=[0]) Dc)⟩ hX
   refine SR fun K58 hK58=>M rfl rfl (P1 (p_not rfl) rfl rfl (TL.nil (hK58 _ _ ?_)))
   refine TK.cond (b:=(!wasBalanced15)) rfl (fun hc=>?_) (fun hc=>?_)
   ·have hX:=ite_t hc hX
    refine SR fun K59 hK59=>M rfl rfl (M rfl rfl (M rfl rfl (M rfl rfl ?_)))
    obtain ⟨r60,hr60,hX⟩:=bind_some hX
    refine TL.tcX [(b2,RL (α:=Seal_api) 38 data11)] [] rfl nd (dlt rfl) rfl ⟨rfl,⟨rfl,⟨rfl,⟨rfl,⟨rfl,trivial⟩⟩⟩⟩⟩ (ok_slices_breakPatternsCmpFunc_api_SealL a12 b13 g6 data11 b2 (Nd.take nd 1 rfl) _ hr60 ⟨_,_,_,rfl,hg6v,hg6⟩) ?_
    rintro _ _ hQ nd
    obtain ⟨rfl,rfl⟩:=hQ
    refine TL.cv 0 (OL b2 r60) rfl (Wk_eq (OL_len (by first|exact len_slices_breakPatternsCmpFunc_api_SealL hr60|exact (len_slices_breakPatternsCmpFunc_api_SealL hr60).symm))) ?_
    refine TL.cv 40 (OL b2 r60) rfl (Wk_eq (OL_len (by first|exact len_slices_breakPatternsCmpFunc_api_SealL hr60|exact (len_slices_breakPatternsCmpFunc_api_SealL hr60).symm))) ?_
    refine TL.nil (hK59 _ _ ?_)
    refine TK.reg ?_
    refine M rfl rfl (P1 (p_sub rfl rfl) rfl rfl (M rfl rfl (TL.nil ?_)))
    exact J25 r60 (wr (limit14-(1:Int))) _ _ ⟨(),rfl,(Nd.pick nd (is:=[0]) Dc),(HSub.pick nd (is:=[0]) Dc)⟩ hX
   ·have hX:=ite_f hc hX
    refine TK.skip ?_
    exact J25 data11 limit14 _ _ ⟨(),rfl,(Nd.pick nd (is:=[0]) Dc),(HSub.pick nd (is:=[0]) Dc)⟩ hX
theorem ok_slices_SortFunc_Lapi_Seal_api_Seal (g3:Seal_api→Seal_api→Option Int) (x1:(List Seal_api)) (b2:Nat) (nd:Nd [(b2,RL (α:=Seal_api) 38 x1)]) (r:(List Seal_api)) (hX:X.slices_SortFunc_Lapi_Seal_api_Seal g3 x1=some r) {g3V:AV} (hg3V:∃f m c,g3V= .fn f m c∧(∀i,i<m→(c i).val)∧∀(a0:Seal_api) (a1:Seal_api) r,g3 a0 a1=some r→Fun Tryz.prog f ([Enc.v a0,Enc.v a1]++(List.range m).map c) (·=Enc.v r)):TCX Tryz.prog 33 [OL (α:=Seal_api) b2 x1,g3V] [(b2,RL (α:=Seal_api) 38 x1)] (fun rv h'=>rv= .tup 0 (ofL [])∧h'=[(b2,RL (α:=Seal_api) 38 r)]):=by
 obtain ⟨g3f,g3m,g3c,rfl,hg3v,hg3⟩:=hg3V
 have:NoA (.fn g3f g3m g3c):=⟨fun i hi=>(hg3v i hi).no⟩
 refine TCX.of b33 (Nat.le_of_ble_eq_true rfl) ?_
 unfold k33
 unfold X.slices_SortFunc_Lapi_Seal_api_Seal at hX
 refine TK.endK fun KE hKE=>?_
 refine SR fun K4 hK4=>M rfl rfl (P1 (p_lenR kd33 rfl (fun _=>refOK_of nd (j:=0) rfl rfl)) rfl rfl (M rfl rfl (TL.nil (hK4 _ _ ?_))))
 refine TK.reg ?_
 refine M rfl rfl (M rfl rfl (M rfl rfl (P1 (p_cvt src3 kd80 rfl (cv_u64 _)) rfl rfl ?_)))
 obtain ⟨r5,hr5,hX⟩:=bind_some hX
 refine TL.cvX rfl rfl rfl (fun _=>⟨rfl,⟨rfl,trivial⟩⟩) (fun e=>ok_math_bits_Len (u64 (x1.length:Int)) _ hr5) ?_
 refine M rfl rfl ?_
 obtain ⟨r6,hr6,hX⟩:=bind_some hX
 refine TL.tcX [(b2,RL (α:=Seal_api) 38 x1)] [] rfl nd (dlt rfl) rfl ⟨rfl,⟨rfl,⟨rfl,⟨rfl,⟨rfl,⟨rfl,trivial⟩⟩⟩⟩⟩⟩ (ok_slices_pdqsortCmpFunc_api_Seal (0:Int) (x1.length:Int) r5 g3 x1 b2 (Nd.take nd 1 rfl) _ hr6 ⟨_,_,_,rfl,hg3v,hg3⟩) ?_
 rintro _ _ hQ nd
 obtain ⟨rfl,rfl⟩:=hQ
 refine TL.nil (hKE _ _ (TL.nil ?_))
 try dsimp only[thenQ]
 refine RetQ_end ?_
 exact retX (v:= .tup 0 (ofL [])) res0 (by obtain rfl:=some_in hX;exact ⟨rfl,rfl⟩) nd (inH_tup (l:=[]) trivial) ⟨rowIn_RL,trivial⟩
theorem len_slices_SortFunc_Lapi_Seal_api_SealL {g3:Seal_api→Seal_api→Option Int} {x1:(List Seal_api)} {r:(List Seal_api)} (hX:X.slices_SortFunc_Lapi_Seal_api_SealL g3 x1=some r):r.length=x1.length:=by
 obtain ⟨q,_,h⟩:=bind_some hX
 split at h
 ·injection h with h
  subst h
  assumption
 ·cases h
theorem ok_slices_SortFunc_Lapi_Seal_api_SealL (g3:Seal_api→Seal_api→Option Int) (x1:(List Seal_api)) (b2:Nat) (nd:Nd [(b2,RL (α:=Seal_api) 38 x1)]) (r:(List Seal_api)) (hX:X.slices_SortFunc_Lapi_Seal_api_SealL g3 x1=some r) {g3V:AV} (hg3V:∃f m c,g3V= .fn f m c∧(∀i,i<m→(c i).val)∧∀(a0:Seal_api) (a1:Seal_api) r,g3 a0 a1=some r→Fun Tryz.prog f ([Enc.v a0,Enc.v a1]++(List.range m).map c) (·=Enc.v r)):TCX Tryz.prog 33 [OL (α:=Seal_api) b2 x1,g3V] [(b2,RL (α:=Seal_api) 38 x1)] (fun rv h'=>rv= .tup 0 (ofL [])∧h'=[(b2,RL (α:=Seal_api) 38 r)]):=by
 obtain ⟨q,h1,h2⟩:=bind_some hX
 split at h2
 ·injection h2 with h2
  subst h2
  exact ok_slices_SortFunc_Lapi_Seal_api_Seal g3 x1 b2 nd _ h1 hg3V
 ·cases h2
theorem ok_cmp_isNaN_int (x1:Int) (r:Bool) (hX:X.cmp_isNaN_int x1=some r):Fun Tryz.prog 66 [Enc.v (x1:Int)] (·=Enc.v (r:Bool)):=by
 refine Fun.of b66 (Nat.le_of_ble_eq_true rfl) (allVal.mem ⟨(by exact (v_val _)),trivial⟩) ?_
 unfold k66
 have nd:Nd []:=Nd_nil
 unfold X.cmp_isNaN_int at hX
 refine SR fun K2 hK2=>M rfl rfl (TL.nil (hK2 _ _ (SR fun K3 hK3=>M rfl rfl (M rfl rfl (P1 (p_neq rfl rfl) rfl rfl (M rfl rfl (TL.nil (hK3 _ _ ?_))))))))
 refine TK.ret ?_
 try dsimp only[thenQ]
 exact R1 rfl hX
theorem ok_cmp_Compare_int (x1:Int) (y2:Int) (r:Int) (hX:X.cmp_Compare_int x1 y2=some r):Fun Tryz.prog 35 [Enc.v (x1:Int),Enc.v (y2:Int)] (·=Enc.v (r:Int)):=by
 refine Fun.of b35 (Nat.le_of_ble_eq_true rfl) (allVal.mem ⟨(by exact (v_val _)),(by exact (v_val _)),trivial⟩) ?_
 unfold k35
 have nd:Nd []:=Nd_nil
 unfold X.cmp_Compare_int at hX
 refine SR fun K3 hK3=>M rfl rfl (TL.nil (hK3 _ _ (SR fun K4 hK4=>M rfl rfl ?_)))
 obtain ⟨r5,hr5,hX⟩:=bind_some hX
 refine TL.cvX rfl rfl rfl (fun _=>⟨rfl,⟨rfl,trivial⟩⟩) (fun e=>ok_cmp_isNaN_int x1 _ hr5) ?_
 refine M rfl rfl (TL.nil (hK4 _ _ (SR fun K6 hK6=>M rfl rfl ?_)))
 obtain ⟨r7,hr7,hX⟩:=bind_some hX
 refine TL.cvX rfl rfl rfl (fun _=>⟨rfl,⟨rfl,trivial⟩⟩) (fun e=>ok_cmp_isNaN_int y2 _ hr7) ?_
 refine M rfl rfl (TL.nil (hK6 _ _ ?_))
 refine TK.seq_k fun K8 hK8=>?_
 refine SR fun K9 hK9=>M rfl rfl (TL.nil (hK9 _ _ ?_))
 refine TK.cond (b:=r5) rfl (fun hc=>?_) (fun hc=>?_)
 ·have hX:=ite_t hc hX
  refine TK.seq_k fun K10 hK10=>?_
  refine SR fun K11 hK11=>M rfl rfl (TL.nil (hK11 _ _ ?_))
  refine TK.cond (b:=r7) rfl (fun hc=>?_) (fun hc=>?_)
  ·have hX:=ite_t hc hX
   refine SR fun K12 hK12=>M rfl rfl (TL.nil (hK12 _ _ ?_))
   refine TK.ret ?_
   try dsimp only[thenQ]
   exact R1 rfl hX
  ·have hX:=ite_f hc hX
   refine TK.skip ?_
   refine hK10 _ _ (SR fun K13 hK13=>M rfl rfl (TL.nil (hK13 _ _ ?_)))
   refine TK.ret ?_
   try dsimp only[thenQ]
   exact R1 rfl hX
 ·have hX:=ite_f hc hX
  refine TK.skip ?_
  refine hK8 _ _ ?_
  refine TK.seq_k fun K14 hK14=>?_
  refine SR fun K15 hK15=>M rfl rfl (TL.nil (hK15 _ _ ?_))
  refine TK.cond (b:=r7) rfl (fun hc=>?_) (fun hc=>?_)
  ·have hX:=ite_t hc hX
   refine SR fun K16 hK16=>M rfl rfl (TL.nil (hK16 _ _ ?_))
   refine TK.ret ?_
   try dsimp only[thenQ]
   exact R1 rfl hX
  ·have hX:=ite_f hc hX
   refine TK.skip ?_
   refine hK14 _ _ ?_
   refine TK.seq_k fun K17 hK17=>?_
   refine SR fun K18 hK18=>M rfl rfl (M rfl rfl (P1 (p_lss rfl rfl) rfl rfl (TL.nil (hK18 _ _ ?_))))
   refine TK.cond (b:=(decide (x1<y2))) rfl (fun hc=>?_) (fun hc=>?_)
   ·have hX:=ite_t hc hX
    refine SR fun K19 hK19=>M rfl rfl (TL.nil (hK19 _ _ ?_))
    refine TK.ret ?_
    try dsimp only[thenQ]
    exact R1 rfl hX
   ·have hX:=ite_f hc hX
    refine TK.skip ?_
    refine hK17 _ _ ?_
    refine TK.seq_k fun K20 hK20=>?_
    refine SR fun K21 hK21=>M rfl rfl (M rfl rfl (P1 (p_gtr rfl rfl) rfl rfl (TL.nil (hK21 _ _ ?_))))
    refine TK.cond (b:=(decide (x1>y2))) rfl (fun hc=>?_) (fun hc=>?_)
    ·have hX:=ite_t hc hX
     refine SR fun K22 hK22=>M rfl rfl (TL.nil (hK22 _ _ ?_))
     refine TK.ret ?_
     try dsimp only[thenQ]
     exact R1 rfl hX
    ·have hX:=ite_f hc hX
     refine TK.skip ?_
     refine hK20 _ _ (SR fun K23 hK23=>M rfl rfl (TL.nil (hK23 _ _ ?_)))
     refine TK.ret ?_
     try dsimp only[thenQ]
     exact R1 rfl hX
theorem ok_group_Find_c2 (a1:Seal_api) (b2:Seal_api) (r:Int) (hX:X.group_Find_c2 a1 b2=some r):Fun Tryz.prog 34 [Enc.v (a1:Seal_api),Enc.v (b2:Seal_api)] (·=Enc.v (r:Int)):=by
 refine Fun.of b34 (Nat.le_of_ble_eq_true rfl) (allVal.mem ⟨(by exact (v_val _)),(by exact (v_val _)),trivial⟩) ?_
 unfold k34
 have nd:Nd []:=Nd_nil
 unfold X.group_Find_c2 at hX
 refine SR fun K3 hK3=>?_
 refine TLc.boxV (lu:=[Enc.v a1.Number,Enc.v a1.Index,Enc.v a1.Data,Enc.v a1.Parity,Enc.v a1.Labels]) nd rfl (Cells_v (a1:Seal_api)) rfl ?_
 refine TLc.boxV (lu:=[Enc.v b2.Number,Enc.v b2.Index,Enc.v b2.Data,Enc.v b2.Parity,Enc.v b2.Labels]) nd rfl (Cells_v (b2:Seal_api)) rfl ?_
 refine M rfl rfl (TL.nil (hK3 _ _ (SR fun K4 hK4=>P1 (p_faR fs38_0 Dc rfl) rfl rfl (P1 (p_ldR (v:=Enc.v a1.Number) ty3 rfl rfl rfl rfl rfl rfl) rfl rfl (P1 (p_faR fs38_0 Dc rfl) rfl rfl (P1 (p_ldR (v:=Enc.v b2.Number) ty3 rfl rfl rfl rfl rfl rfl) rfl rfl ?_))))))
 obtain ⟨r5,hr5,hX⟩:=bind_some hX
 refine TL.cvX rfl rfl rfl (fun _=>⟨rfl,⟨rfl,⟨rfl,trivial⟩⟩⟩) (fun e=>ok_cmp_Compare_int a1.Number b2.Number _ hr5) ?_
 refine M rfl rfl (TL.nil (hK4 _ _ ?_))
 refine TK.ret ?_
 try dsimp only[thenQ]
 exact R1 rfl hX
theorem ok_group_Find (l1:(List Tape_api)) (r:(List Seal_api)) (hX:X.group_Find l1=some r):Fun Tryz.prog 11 [Enc.v (l1:(List Tape_api))] (·=Enc.v (r:(List Seal_api))):=by
 refine Fun.of b11 (Nat.le_of_ble_eq_true rfl) (allVal.mem ⟨(by exact (v_val _)),trivial⟩) ?_
 unfold k11
 have nd:Nd []:=Nd_nil
 unfold X.group_Find at hX
 refine SR fun K2 hK2=>M rfl rfl (TL.nil (hK2 _ _ (SR fun K3 hK3=>M rfl rfl (TL.nil (hK3 _ _ ?_)))))
 refine TK.ownL (α:=Seal_api) 3 38 nd rfl (.inl rfl) fun b4 nd=>?_
 refine TK.seq_k fun K5 hK5=>?_
 refine SR fun K6 hK6=>M rfl rfl (P1 (p_lenL (xs:=l1) kd22 rfl) rfl rfl (M rfl rfl (TL.nil (hK6 _ _ ?_))))
 refine TK.block ?_
 obtain ⟨o7,hO7,hA7⟩:=bind_some hX
 have E7:∀(l12:List Seal_api) (env:Env) (h:Hp),(∃b11,keepE [3] env=[(3,true,OL b11 l12)]∧Nd [(b11,RL (α:=Seal_api) 38 l12)]∧HSub [(b11,RL (α:=Seal_api) 38 l12)] h)→X.group_Find_e7 l12=some r→K5 env h:=by
  intro l12 env h hE hX
  obtain ⟨b11,henv,nd,hs⟩:=hE
  unfold X.group_Find_e7 at hX
  refine hK5 _ _ (TK.keep [3] ?_)
  rw[henv]
  refine TK.subH hs ?_
  refine SR fun K13 hK13=>M rfl rfl ?_
  obtain ⟨r14,hr14,hX⟩:=bind_some hX
  refine TL.tcX [(b11,RL (α:=Seal_api) 38 l12)] [] rfl nd (dlt rfl) rfl ⟨rfl,⟨rfl,⟨rfl,trivial⟩⟩⟩ (ok_slices_SortFunc_Lapi_Seal_api_SealL (fun a1 a2=>X.group_Find_c2 a1 a2) l12 b11 (Nd.take nd 1 rfl) _ hr14 ⟨34,0,ofL [],rfl,(fun i hi=>by cases hi),fun a1 a2 r hr=>ok_group_Find_c2 a1 a2 r hr⟩) ?_
  rintro _ _ hQ nd
  obtain ⟨rfl,rfl⟩:=hQ
  refine TL.cv 3 (OL b11 r14) rfl (Wk_eq (OL_len (by first|exact len_slices_SortFunc_Lapi_Seal_api_SealL hr14|exact (len_slices_SortFunc_Lapi_Seal_api_SealL hr14).symm))) ?_
  refine TL.cv 42 (OL b11 r14) rfl (Wk_eq (OL_len (by first|exact len_slices_SortFunc_Lapi_Seal_api_SealL hr14|exact (len_slices_SortFunc_Lapi_Seal_api_SealL hr14).symm))) ?_
  refine TL.nil (hK13 _ _ (SR fun K15 hK15=>M rfl rfl (M rfl rfl (TL.nil (hK15 _ _ ?_)))))
  refine TK.lay [(2,L r14)] nd (j:=0) rfl ⟨⟨_,rfl,fix_OL nd (j:=0) rfl,rfl⟩,trivial⟩ fun nd=>?_
  refine TK.ret ?_
  try dsimp only[thenQ]
  exact R1 rfl hX
 refine TK.iter [3,8,9,10] (fun s env h=>match s with|(out9,x10)=>∃b8,env=[(3,true,OL b8 out9),(8,true,Enc.v l1),(9,true,Enc.v ((l1.length:Int):Int)),(10,true,Enc.v x10)]∧Nd [(b8,RL (α:=Seal_api) 38 out9)]∧HSub [(b8,RL (α:=Seal_api) 38 out9)] h) hO7 ⟨b4,rfl,(Nd.pick nd (is:=[0]) Dc),(HSub.pick nd (is:=[0]) Dc)⟩ ?_
 rintro ⟨out9,x10⟩ env h x7x ⟨b8,rfl,nd,hs⟩ hX hR7
 refine TK.subH hs ?_
 unfold X.group_Find_s7 at hX
 try dsimp only at hX
 refine SR fun K16 hK16=>P1 (p_lss rfl rfl) rfl rfl (TL.nil (hK16 _ _ ?_))
 refine TK.seq_k fun K17 hK17=>?_
 refine TK.cond (b:=(decide (x10<(l1.length:Int)))) rfl (fun hc=>?_) (fun hc=>?_)
 ·have hX:=ite_t hc hX
  refine TK.skip ?_
  refine hK17 _ _ ?_
  refine TK.seq_k fun K18 hK18=>?_
  refine TK.block ?_
  refine SR fun K19 hK19=>?_
  obtain ⟨e20,he20,hX⟩:=bind_some hX
  refine P1 (p_iaL (xs:=l1) kd22 ty49 rfl rfl rfl (fun _=>he20)) rfl rfl (P1 (p_ldE (xs:=l1) (a:=e20) (e20:Tape_api) ty49 rfl rfl (fun _=>he20) rfl rfl rfl) rfl rfl ?_)
  refine TLc.alO (l:=[Enc.v ((0:Int):Int),Enc.v ((0:Int):Int),.nils,Enc.v false]) nd ty49 ti49_z rfl rfl fun b21 nd=>?_
  refine TLc.stV (lu:=Enc.cl (e20:Tape_api)) nd ty49 rfl (j:=0) rfl rfl rfl (Cells_v (e20:Tape_api)) rfl rfl [Enc.v e20.Label,Enc.v e20.Cap,Enc.v e20.Blocks,Enc.v e20.Lost] rfl fun nd=>?_
  refine TL.nil (hK19 _ _ (SR fun K22 hK22=>P1 (p_ldVa (l':=Enc.cl (e20:Tape_api)) ty49 rfl rfl nd (j:=0) rfl rfl rfl rfl (Nat.le_of_ble_eq_true rfl)) rfl rfl ?_))
  obtain ⟨r23,hr23,hX⟩:=bind_some hX
  refine TL.cvX rfl rfl rfl (fun _=>⟨rfl,⟨rfl,trivial⟩⟩) (fun e=>ok_volume_Sealed e20 _ hr23) ?_
  refine M rfl rfl (P1 (p_ex rfl rfl Dc) rfl rfl (P1 (p_ex rfl rfl Dc) rfl rfl ?_))
  refine TLc.alO (l:=[Enc.v ((0:Int):Int),Enc.v ((0:Int):Int),Enc.v ((0:Int):Int),Enc.v ((0:Int):Int),.nils]) nd ty38 ti38_z rfl rfl fun b24 nd=>?_
  refine TLc.stV (lu:=Enc.cl (r23.1:Seal_api)) nd ty38 rfl (j:=0) rfl rfl rfl (Cells_v (r23.1:Seal_api)) rfl rfl [Enc.v r23.1.Number,Enc.v r23.1.Index,Enc.v r23.1.Data,Enc.v r23.1.Parity,Enc.v r23.1.Labels] rfl fun nd=>?_
  refine M rfl rfl (TL.nil (hK22 _ _ ?_))
  refine TK.seq_k fun K25 hK25=>?_
  refine TK.seq_k fun K26 hK26=>?_
  refine TK.lay [(6,.vref (ofL [Enc.v r23.1.Number,Enc.v r23.1.Index,Enc.v r23.1.Data,Enc.v r23.1.Parity,Enc.v r23.1.Labels]) 5 0)] nd (j:=0) rfl ⟨⟨_,rfl,fix_ref nd (j:=0) rfl,rfl⟩,trivial⟩ fun nd=>?_
  have ndS:Nd [(b21,RV 49 [Enc.v e20.Label,Enc.v e20.Cap,Enc.v e20.Blocks,Enc.v e20.Lost]),(b8,RL (α:=Seal_api) 38 out9)]:=Nd.pick nd (is:=[0,1]) Dc
  refine TK.drwX (h:=[]) (hS:=[(b21,RV 49 [Enc.v e20.Label,Enc.v e20.Cap,Enc.v e20.Blocks,Enc.v e20.Lost]),(b8,RL (α:=Seal_api) 38 out9)]) [(0,0),(0,1),(0,2),(0,3),(0,4),(0,5),(0,6),(0,7),(0,8),(0,9),(0,10),(0,11),(0,12),(0,13),(0,14),(0,15),(0,16),(0,17)] mixed (by kernel_rfl) (HSub_app nd) ?_
  refine DM rfl rfl rfl ?_
  refine D0 rfl (p_not rfl) rfl rfl ?_
  refine DM rfl rfl rfl ?_
  refine DR0 (gc:=(!((!r23.2)))) rfl (vok_p (C:=cx) (p_faR fs38_4 Dc rfl (hg:=fun e=>rfl))) (gcF1 rfl) rfl ?_
  refine DR0 (gc:=(!((!r23.2)))) rfl (vok_p (C:=cx) (p_ldR (v:=Enc.v r23.1.Labels) ty36 rfl rfl rfl rfl rfl rfl (hg:=fun e=>e))) (gcF1 rfl) rfl ?_
  refine DR0 (gc:=(!((!r23.2)))) rfl (vok_p (C:=cx) (p_faR fs38_1 Dc rfl (hg:=fun e=>rfl))) (gcF1 rfl) rfl ?_
  refine DR0 (gc:=(!((!r23.2)))) rfl (vok_p (C:=cx) (p_ldR (v:=Enc.v r23.1.Index) ty3 rfl rfl rfl rfl rfl rfl (hg:=fun e=>e))) (gcF1 rfl) rfl ?_
  obtain ⟨e27,he27,hX⟩:=bind_some hX
  refine DR0 (gc:=(!((!r23.2)))) rfl (vok_p (C:=cx) (p_iaL (xs:=r23.1.Labels) kd36 ty3 rfl rfl rfl (fun e=>optG_t he27 e) (hg:=fun e=>⟨e,e⟩))) (gcF1 rfl) rfl ?_
  refine DR0 (gc:=(!((!r23.2)))) rfl (vok_p (C:=cx) (p_ldE (xs:=r23.1.Labels) (a:=e27) (e27:Int) ty3 rfl rfl (fun e=>optG_t he27 e) rfl rfl rfl (hg:=fun e=>e))) (gcF1 rfl) rfl ?_
  refine DR0 (gc:=(!((!r23.2)))) rfl (vok_p (C:=cx) (p_faV fs49_0 Dc rfl ndS (j:=0) rfl rfl (hg:=fun e=>rfl))) (gcF1 rfl) rfl ?_
  refine DR0 (gc:=(!((!r23.2)))) rfl (vok_p (C:=cx) (p_ldV (v:=Enc.v e20.Label) ty3 rfl rfl ndS (j:=0) rfl rfl rfl rfl rfl (hg:=fun e=>e))) (gcF1 rfl) rfl ?_
  refine DR0 (gc:=(!((!r23.2)))) rfl (vok_p (C:=cx) (p_neq rfl rfl (hg:=fun e=>⟨e,e⟩))) (gcF1 rfl) rfl ?_
  refine D0 rfl (p_or rfl rfl (fun e=>⟨rfl,fun h=>(not_t h)⟩)) rfl rfl ?_
  refine DM rfl rfl rfl ?_
  refine DR0 (gc:=(!(((!r23.2)||(e27 !=e20.Label))))) rfl (vok_p (C:=cx) (p_mv rfl (hg:=fun e=>rfl))) (gcF1 rfl) rfl ?_
  refine DR0 (gc:=(!(((!r23.2)||(e27 !=e20.Label))))) rfl (vok_p (C:=cx) (p_mf (l:=[.vref (ofL [Enc.v r23.1.Number,Enc.v r23.1.Index,Enc.v r23.1.Data,Enc.v r23.1.Parity,Enc.v r23.1.Labels]) 5 0]) rfl (fun _=>⟨rfl,trivial⟩))) (gcF1 rfl) rfl ?_
  obtain ⟨r28,hr28,hX⟩:=bind_some hX
  refine DR0 (gc:=(!(((!r23.2)||(e27 !=e20.Label))))) rfl (vok_lookX [L out9,.fn 32 1 (ofL [.vref (ofL [Enc.v r23.1.Number,Enc.v r23.1.Index,Enc.v r23.1.Data,Enc.v r23.1.Parity,Enc.v r23.1.Labels]) 5 0])] rfl (fun e=>⟨rfl,⟨e,⟨e,trivial⟩⟩⟩) ⟨look_OL ndS (j:=1) rfl,look_v (caps_val rfl ⟨(vref_val (l:=[Enc.v r23.1.Number,Enc.v r23.1.Index,Enc.v r23.1.Data,Enc.v r23.1.Parity,Enc.v r23.1.Labels]) rfl ⟨(v_val _),(v_val _),(v_val _),(v_val _),(v_val _),trivial⟩),trivial⟩),trivial⟩ (fun e=>ok_slices_ContainsFunc_Lapi_Seal_api_Seal out9 (fun a1=>X.group_Find_c1 a1 r23.1.Number r23.1.Index r23.1.Data r23.1.Parity r23.1.Labels) _ (optG_t hr28 e) ⟨32,1,ofL [.vref (ofL [Enc.v r23.1.Number,Enc.v r23.1.Index,Enc.v r23.1.Data,Enc.v r23.1.Parity,Enc.v r23.1.Labels]) 5 0],rfl,(caps_val rfl ⟨(vref_val (l:=[Enc.v r23.1.Number,Enc.v r23.1.Index,Enc.v r23.1.Data,Enc.v r23.1.Parity,Enc.v r23.1.Labels]) rfl ⟨(v_val _),(v_val _),(v_val _),(v_val _),(v_val _),trivial⟩),trivial⟩),fun a1 r hr=>ok_group_Find_c1 a1 r23.1.Number r23.1.Index r23.1.Data r23.1.Parity r23.1.Labels r hr⟩) (trivial)) (gcF1 rfl) rfl ?_
  refine D0 rfl (p_or rfl rfl (fun e=>⟨rfl,fun h=>(not_t h)⟩)) rfl rfl ?_
  refine DRend ?_
  refine hK26 _ _ ?_
  refine TK.cond (b:=(((!r23.2)||(e27 !=e20.Label))||r28)) rfl (fun hc=>?_) (fun hc=>?_)
  ·have hX:=ite_t hc hX
   refine TK.exit ?_
   refine hK18 _ _ ?_
   refine TK.reg ?_
   refine P1 (p_add rfl rfl) rfl rfl (M rfl rfl (TL.nil ?_))
   exact ⟨_,(some_in hX).symm,b8,rfl,(Nd.pick nd (is:=[1]) Dc),(HSub.pick nd (is:=[1]) Dc)⟩
  ·have hX:=ite_f hc hX
   refine TK.skip ?_
   refine hK25 _ _ ?_
   refine TK.reg ?_
   refine M rfl rfl (P1 (p_ldRa (l':=Enc.cl (r23.1:Seal_api)) ty38 rfl rfl rfl rfl rfl (Nat.le_of_ble_eq_true rfl)) rfl rfl ?_)
   refine TLc.lit ([r23.1]:List Seal_api) kd33 ty38 rfl ⟨⟨rfl,rfl⟩,trivial⟩ rfl rfl rfl ?_
   obtain ⟨u29,hu29,hX⟩:=bind_some hX
   refine TLc.appO nd kd33 bo33 ty38 rfl rfl (j:=1) rfl rfl (Src_L _) Dc (need_t hu29) rfl fun nd=>?_
   refine M rfl rfl (TL.nil (hK18 _ _ ?_))
   refine TK.reg ?_
   refine P1 (p_add rfl rfl) rfl rfl (M rfl rfl (TL.nil ?_))
   exact ⟨_,(some_in hX).symm,b8,rfl,(Nd.pick nd (is:=[1]) Dc),(HSub.pick nd (is:=[1]) Dc)⟩
 ·have hX:=ite_f hc hX
  refine TK.exit ?_
  obtain rfl:=hR7 _ (some_in hX).symm
  exact E7 out9 _ _ ⟨b8,rfl,(Nd.pick nd (is:=[0]) Dc),(HSub.pick nd (is:=[0]) Dc)⟩ hA7
theorem ok_cartridgelaw14_num (e1:Int) (r:Int) (hX:X.cartridgelaw14_num e1=some r):Fun Tryz.prog 10 [Enc.v (e1:Int)] (·=Enc.v (r:Int)):=by
 refine Fun.of b10 (Nat.le_of_ble_eq_true rfl) (allVal.mem ⟨(by exact (v_val _)),trivial⟩) ?_
 unfold k10
 have nd:Nd []:=Nd_nil
 unfold X.cartridgelaw14_num at hX
 refine SR fun K2 hK2=>M rfl rfl (TL.nil (hK2 _ _ (SR fun K3 hK3=>M rfl rfl (M rfl rfl (TL.nil (hK3 _ _ ?_))))))
 refine TK.ret ?_
 try dsimp only[thenQ]
 exact R1 rfl hX
theorem ok_cartridgelaw14_alive (r:Bool) (hX:X.cartridgelaw14_alive=some r):Fun Tryz.prog 5 [] (·=Enc.v (r:Bool)):=by
 refine Fun.of b5 (Nat.le_of_ble_eq_true rfl) (fun x hx=>by cases hx) ?_
 unfold k5
 have nd:Nd []:=Nd_nil
 unfold X.cartridgelaw14_alive at hX
 refine SR fun K1 hK1=>M rfl rfl (TL.nil (hK1 _ _ (SR fun K2 hK2=>?_)))
 refine TLc.litO nd ([(68:UInt8)]:List UInt8) kd42 ty5 rfl ⟨⟨rfl,rfl⟩,trivial⟩ rfl rfl rfl fun b3 nd=>?_
 refine TLc.cvtF (xs:=([(68:UInt8)]:List UInt8)) nd kd42 kd5 rfl (j:=0) rfl (by simp) rfl fun nd=>?_
 refine P1 (p_bld (l:=Enc.cl ((Unit_api.mk (1:Int) (1:Int) (0:Int) ([(68:UInt8)]:List UInt8)):Unit_api)) ty46 rfl all46 rfl (fun _=>⟨⟨rfl,trivial,rfl⟩,⟨rfl,trivial,rfl⟩,⟨rfl,trivial,rfl⟩,trivial⟩)) rfl rfl ?_
 obtain ⟨r4,hr4,hX⟩:=bind_some hX
 refine TL.cvX rfl rfl rfl (fun _=>⟨rfl,⟨rfl,trivial⟩⟩) (fun e=>ok_cartridgeref1_PutFrame (Unit_api.mk (1:Int) (1:Int) (0:Int) ([(68:UInt8)]:List UInt8)) _ hr4) ?_
 refine M rfl rfl (P1 (p_ex rfl rfl Dc) rfl rfl (P1 (p_ex rfl rfl Dc) rfl rfl (M rfl rfl (M rfl rfl (TL.nil (hK2 _ _ (SR fun K5 hK5=>M rfl rfl ?_)))))))
 refine TLc.lit ([r4.1]:List (List UInt8)) kd47 ty42 rfl ⟨⟨rfl,rfl⟩,trivial⟩ rfl rfl rfl ?_
 refine P1 (p_bld (l:=Enc.cl ((Tape_api.mk (1:Int) (4:Int) ([r4.1]:List (List UInt8)) false):Tape_api)) ty49 rfl all49 rfl (fun _=>⟨⟨rfl,trivial,rfl⟩,⟨rfl,trivial,rfl⟩,⟨rfl,trivial,rfl⟩,trivial⟩)) rfl rfl ?_
 refine TLc.lit ([(Tape_api.mk (1:Int) (4:Int) ([r4.1]:List (List UInt8)) false)]:List Tape_api) kd22 ty49 rfl ⟨⟨rfl,rfl⟩,trivial⟩ rfl rfl rfl ?_
 refine TLc.p (gc:=true) (p_bld (l:=[Enc.v ((2:Int):Int),Enc.v ((4:Int):Int),.nils,Enc.v false]) ty49 rfl all49 rfl (fun _=>⟨⟨rfl,trivial,rfl⟩,⟨rfl,trivial,rfl⟩,trivial⟩)) rfl rfl (TL.wk (v':=Enc.v ((Tape_api.mk (2:Int) (4:Int) ([]:(List (List UInt8))) false):Tape_api)) (Wk_agg ⟨Wk.refl _,Wk.refl _,Wk_nil,Wk.refl _,trivial⟩) ?_)
 refine TLc.lit ([(Tape_api.mk (2:Int) (4:Int) ([]:(List (List UInt8))) false)]:List Tape_api) kd22 ty49 rfl ⟨⟨rfl,rfl⟩,trivial⟩ rfl rfl rfl ?_
 obtain ⟨r6,hr6,hX⟩:=bind_some hX
 refine TL.cvX rfl rfl rfl (fun _=>⟨rfl,⟨rfl,⟨rfl,⟨rfl,trivial⟩⟩⟩⟩) (fun e=>ok_group_Make ([(Tape_api.mk (1:Int) (4:Int) ([r4.1]:List (List UInt8)) false)]:List Tape_api) ([(Tape_api.mk (2:Int) (4:Int) ([]:(List (List UInt8))) false)]:List Tape_api) (1:Int) _ hr6) ?_
 refine M rfl rfl (P1 (p_ex rfl rfl Dc) rfl rfl (P1 (p_ex rfl rfl Dc) rfl rfl (M rfl rfl (M rfl rfl (TL.nil (hK5 _ _ (SR fun K7 hK7=>?_)))))))
 obtain ⟨r8,hr8,hX⟩:=bind_some hX
 refine TL.cvX rfl rfl rfl (fun _=>⟨rfl,⟨rfl,trivial⟩⟩) (fun e=>(Fun.wk (args':=[L ([]:List Tape_api)]) ⟨Wk_nil,trivial⟩ (ok_group_Find ([]:List Tape_api) _ hr8))) ?_
 refine P1 (p_lenL (xs:=r8) kd33 rfl) rfl rfl (P1 (p_eql rfl rfl) rfl rfl (M rfl rfl ?_))
 refine TLc.p (gc:=(((r8.length:Int)==(0:Int)))) (p_mv rfl (hg:=fun e=>rfl)) (gcT1 rfl) rfl ?_
 obtain ⟨r9,hr9,hX⟩:=bind_some hX
 refine TL.cvX (gcT1 rfl) rfl rfl (fun e=>⟨rfl,⟨e,trivial⟩⟩) (fun e=>ok_cartridgelaw14_num r6.2 _ (optG_t hr9 e)) ?_
 refine TLc.p (gc:=(((r8.length:Int)==(0:Int)))) (p_eql rfl rfl (hg:=fun e=>⟨e,rfl⟩)) (gcT1 rfl) rfl ?_
 refine P1 (p_and rfl rfl (fun e=>⟨rfl,fun h=>h⟩)) rfl rfl (M rfl rfl ?_)
 refine TLc.p (gc:=((((r8.length:Int)==(0:Int))&&(r9==(0:Int))))) (p_mv rfl (hg:=fun e=>rfl)) (gcT1 rfl) rfl ?_
 refine TLc.p (gc:=((((r8.length:Int)==(0:Int))&&(r9==(0:Int))))) (p_lenL (xs:=r6.1) kd22 rfl (hg:=fun e=>e)) (gcT1 rfl) rfl ?_
 refine TLc.p (gc:=((((r8.length:Int)==(0:Int))&&(r9==(0:Int))))) (p_eql rfl rfl (hg:=fun e=>⟨e,rfl⟩)) (gcT1 rfl) rfl ?_
 refine P1 (p_and rfl rfl (fun e=>⟨rfl,fun h=>h⟩)) rfl rfl (M rfl rfl ?_)
 refine TLc.p (gc:=(((((r8.length:Int)==(0:Int))&&(r9==(0:Int)))&&((r6.1.length:Int)==(1:Int))))) (p_mv rfl (hg:=fun e=>rfl)) (gcT1 rfl) rfl ?_
 obtain ⟨e10,he10,hX⟩:=bind_some hX
 refine TLc.p (gc:=(((((r8.length:Int)==(0:Int))&&(r9==(0:Int)))&&((r6.1.length:Int)==(1:Int))))) (p_iaL (xs:=r6.1) kd22 ty49 rfl rfl rfl (fun e=>optG_t he10 e) (hg:=fun e=>⟨e,rfl⟩)) (gcT1 rfl) rfl ?_
 refine TLc.p (gc:=(((((r8.length:Int)==(0:Int))&&(r9==(0:Int)))&&((r6.1.length:Int)==(1:Int))))) (p_faE fs49_2 Dc rfl (hg:=fun e=>e)) (gcT1 rfl) rfl ?_
 refine TLc.p (gc:=(((((r8.length:Int)==(0:Int))&&(r9==(0:Int)))&&((r6.1.length:Int)==(1:Int))))) (p_ldE (xs:=r6.1) (a:=e10) (e10.Blocks:(List (List UInt8))) ty47 rfl rfl (fun e=>optG_t he10 e) rfl rfl rfl (hg:=fun e=>e)) (gcT1 rfl) rfl ?_
 refine TLc.p (gc:=(((((r8.length:Int)==(0:Int))&&(r9==(0:Int)))&&((r6.1.length:Int)==(1:Int))))) (p_lenL (xs:=e10.Blocks) kd47 rfl (hg:=fun e=>e)) (gcT1 rfl) rfl ?_
 refine TLc.p (gc:=(((((r8.length:Int)==(0:Int))&&(r9==(0:Int)))&&((r6.1.length:Int)==(1:Int))))) (p_eql rfl rfl (hg:=fun e=>⟨e,rfl⟩)) (gcT1 rfl) rfl ?_
 refine P1 (p_and rfl rfl (fun e=>⟨rfl,fun h=>h⟩)) rfl rfl (M rfl rfl ?_)
 refine TLc.p (gc:=((((((r8.length:Int)==(0:Int))&&(r9==(0:Int)))&&((r6.1.length:Int)==(1:Int)))&&((e10.Blocks.length:Int)==(3:Int))))) (p_mv rfl (hg:=fun e=>rfl)) (gcT1 rfl) rfl ?_
 obtain ⟨r11,hr11,hX⟩:=bind_some hX
 refine TL.cvX (gcT1 rfl) rfl rfl (fun e=>⟨rfl,⟨e,trivial⟩⟩) (fun e=>ok_group_Find r6.1 _ (optG_t hr11 e)) ?_
 refine TLc.p (gc:=((((((r8.length:Int)==(0:Int))&&(r9==(0:Int)))&&((r6.1.length:Int)==(1:Int)))&&((e10.Blocks.length:Int)==(3:Int))))) (p_lenL (xs:=r11) kd33 rfl (hg:=fun e=>e)) (gcT1 rfl) rfl ?_
 refine TLc.p (gc:=((((((r8.length:Int)==(0:Int))&&(r9==(0:Int)))&&((r6.1.length:Int)==(1:Int)))&&((e10.Blocks.length:Int)==(3:Int))))) (p_eql rfl rfl (hg:=fun e=>⟨e,rfl⟩)) (gcT1 rfl) rfl ?_
 refine P1 (p_and rfl rfl (fun e=>⟨rfl,fun h=>h⟩)) rfl rfl (M rfl rfl (TL.nil (hK7 _ _ ?_)))
 refine TK.ret ?_
 try dsimp only[thenQ]
 exact R1 rfl hX
theorem ok_cartridgelaw8_Few (t1:Tape_api) (r:Bool) (hX:X.cartridgelaw8_Few t1=some r):Fun Tryz.prog 17 [Enc.v (t1:Tape_api)] (·=Enc.v (r:Bool)):=by
 refine Fun.of b17 (Nat.le_of_ble_eq_true rfl) (allVal.mem ⟨(by exact (v_val _)),trivial⟩) ?_
 unfold k17
 have nd:Nd []:=Nd_nil
 unfold X.cartridgelaw8_Few at hX
 refine SR fun K2 hK2=>?_
 refine TLc.boxV (lu:=[Enc.v t1.Label,Enc.v t1.Cap,Enc.v t1.Blocks,Enc.v t1.Lost]) nd rfl (Cells_v (t1:Tape_api)) rfl ?_
 refine M rfl rfl (TL.nil (hK2 _ _ ?_))
 refine TK.seq_k fun K3 hK3=>?_
 refine SR fun K4 hK4=>M rfl rfl (TL.nil (hK4 _ _ ?_))
 refine TK.block ?_
 obtain ⟨o5,hO5,hA5⟩:=bind_some hX
 have E5:∀(env:Env) (h:Hp),(∃_u:Unit,keepE [1] env=[(1,true,.vref (ofL [Enc.v t1.Label,Enc.v t1.Cap,Enc.v t1.Blocks,Enc.v t1.Lost]) 4 0)]∧Nd []∧HSub [] h)→X.cartridgelaw8_Few_e5 t1=some r→K3 env h:=by
  intro env h hE hX
  obtain ⟨_u,henv,nd,hs⟩:=hE
  unfold X.cartridgelaw8_Few_e5 at hX
  refine hK3 _ _ (TK.keep [1] ?_)
  rw[henv]
  refine TK.subH hs ?_
  refine SR fun K7 hK7=>P1 (p_faR fs49_2 Dc rfl) rfl rfl (P1 (p_ldR (v:=Enc.v t1.Blocks) ty47 rfl rfl rfl rfl rfl rfl) rfl rfl (P1 (p_lenL (xs:=t1.Blocks) kd47 rfl) rfl rfl (P1 (p_leq rfl rfl) rfl rfl (M rfl rfl (TL.nil (hK7 _ _ ?_))))))
  refine TK.ret ?_
  try dsimp only[thenQ]
  exact R1 rfl hX
 refine TK.iter [1,3] (fun s env h=>match s with|i6=>∃_u:Unit,env=[(1,true,.vref (ofL [Enc.v t1.Label,Enc.v t1.Cap,Enc.v t1.Blocks,Enc.v t1.Lost]) 4 0),(3,true,Enc.v i6)]∧Nd []∧HSub [] h) hO5 ⟨(),rfl,Nd_nil,HSub.refl _⟩ ?_
 rintro i6 env h x5x ⟨_u,rfl,nd,hs⟩ hX hR5
 refine TK.subH hs ?_
 unfold X.cartridgelaw8_Few_s5 at hX
 try dsimp only at hX
 refine TK.seq_k fun K8 hK8=>?_
 refine SR fun K9 hK9=>M rfl rfl (P1 (p_faR fs49_2 Dc rfl) rfl rfl (P1 (p_ldR (v:=Enc.v t1.Blocks) ty47 rfl rfl rfl rfl rfl rfl) rfl rfl (P1 (p_lenL (xs:=t1.Blocks) kd47 rfl) rfl rfl (P1 (p_lss rfl rfl) rfl rfl (M rfl rfl ?_)))))
 refine TLc.p (gc:=((decide (i6<(t1.Blocks.length:Int))))) (p_mv rfl (hg:=fun e=>rfl)) (gcT1 rfl) rfl ?_
 refine TLc.p (gc:=((decide (i6<(t1.Blocks.length:Int))))) (p_lss rfl rfl (hg:=fun e=>⟨e,rfl⟩)) (gcT1 rfl) rfl ?_
 refine P1 (p_and rfl rfl (fun e=>⟨rfl,fun h=>h⟩)) rfl rfl (TL.nil (hK9 _ _ ?_))
 refine TK.cond (b:=((decide (i6<(t1.Blocks.length:Int)))&&(decide (i6<(100:Int))))) rfl (fun hc=>?_) (fun hc=>?_)
 ·have hX:=ite_t hc hX
  refine TK.skip ?_
  refine hK8 _ _ ?_
  refine TK.seq_k fun K10 hK10=>?_
  refine TK.block ?_
  refine SR fun K11 hK11=>P1 (p_faR fs49_2 Dc rfl) rfl rfl (P1 (p_ldR (v:=Enc.v t1.Blocks) ty47 rfl rfl rfl rfl rfl rfl) rfl rfl (M rfl rfl ?_))
  obtain ⟨e12,he12,hX⟩:=bind_some hX
  refine P1 (p_iaL (xs:=t1.Blocks) kd47 ty42 rfl rfl rfl (fun _=>he12)) rfl rfl (P1 (p_ldE (xs:=t1.Blocks) (a:=e12) (e12:(List UInt8)) ty42 rfl rfl (fun _=>he12) rfl rfl rfl) rfl rfl (P1 (p_lenL (xs:=e12) kd42 rfl) rfl rfl (P1 (p_gtr rfl rfl) rfl rfl (TL.nil (hK11 _ _ ?_)))))
  refine TK.cond (b:=(decide ((e12.length:Int)>(300:Int)))) rfl (fun hc=>?_) (fun hc=>?_)
  ·have hX:=ite_t hc hX
   refine SR fun K13 hK13=>M rfl rfl (TL.nil (hK13 _ _ ?_))
   refine TK.ret ?_
   obtain rfl:=hR5 _ (some_in hX).symm
   replace hX:=hA5
   try dsimp only[thenQ]
   exact R1 rfl hX
  ·have hX:=ite_f hc hX
   refine TK.skip ?_
   refine hK10 _ _ ?_
   refine TK.reg ?_
   refine M rfl rfl (P1 (p_add rfl rfl) rfl rfl (M rfl rfl (TL.nil ?_)))
   exact ⟨_,(some_in hX).symm,(),rfl,Nd_nil,HSub.refl _⟩
 ·have hX:=ite_f hc hX
  refine TK.exit ?_
  obtain rfl:=hR5 _ (some_in hX).symm
  exact E5 _ _ ⟨(),rfl,Nd_nil,HSub.refl _⟩ hA5
theorem ok_cartridgelaw13_Few (l1:(List Tape_api)) (r:Bool) (hX:X.cartridgelaw13_Few l1=some r):Fun Tryz.prog 6 [Enc.v (l1:(List Tape_api))] (·=Enc.v (r:Bool)):=by
 refine Fun.of b6 (Nat.le_of_ble_eq_true rfl) (allVal.mem ⟨(by exact (v_val _)),trivial⟩) ?_
 unfold k6
 have nd:Nd []:=Nd_nil
 unfold X.cartridgelaw13_Few at hX
 refine SR fun K2 hK2=>M rfl rfl (TL.nil (hK2 _ _ (SR fun K3 hK3=>M rfl rfl (TL.nil (hK3 _ _ ?_)))))
 refine TK.seq_k fun K4 hK4=>?_
 refine SR fun K5 hK5=>M rfl rfl (TL.nil (hK5 _ _ ?_))
 refine TK.block ?_
 obtain ⟨o6,hO6,hA6⟩:=bind_some hX
 have E6:∀(n9:Int) (env:Env) (h:Hp),(∃_u:Unit,keepE [0,3] env=[(0,true,Enc.v l1),(3,true,Enc.v n9)]∧Nd []∧HSub [] h)→X.cartridgelaw13_Few_e6 l1 n9=some r→K4 env h:=by
  intro n9 env h hE hX
  obtain ⟨_u,henv,nd,hs⟩:=hE
  unfold X.cartridgelaw13_Few_e6 at hX
  refine hK4 _ _ (TK.keep [0,3] ?_)
  rw[henv]
  refine TK.subH hs ?_
  refine SR fun K10 hK10=>M rfl rfl (P1 (p_lenL (xs:=l1) kd22 rfl) rfl rfl (P1 (p_leq rfl rfl) rfl rfl (M rfl rfl ?_)))
  refine TLc.p (gc:=((decide ((l1.length:Int)≤(14:Int))))) (p_mv rfl (hg:=fun e=>rfl)) (gcT1 rfl) rfl ?_
  refine TLc.p (gc:=((decide ((l1.length:Int)≤(14:Int))))) (p_leq rfl rfl (hg:=fun e=>⟨e,rfl⟩)) (gcT1 rfl) rfl ?_
  refine P1 (p_and rfl rfl (fun e=>⟨rfl,fun h=>h⟩)) rfl rfl (M rfl rfl (TL.nil (hK10 _ _ ?_)))
  refine TK.ret ?_
  try dsimp only[thenQ]
  exact R1 rfl hX
 refine TK.iter [0,3,4] (fun s env h=>match s with|(n7,i8)=>∃_u:Unit,env=[(0,true,Enc.v l1),(3,true,Enc.v n7),(4,true,Enc.v i8)]∧Nd []∧HSub [] h) hO6 ⟨(),rfl,Nd_nil,HSub.refl _⟩ ?_
 rintro ⟨n7,i8⟩ env h x6x ⟨_u,rfl,nd,hs⟩ hX hR6
 refine TK.subH hs ?_
 unfold X.cartridgelaw13_Few_s6 at hX
 try dsimp only at hX
 refine TK.seq_k fun K11 hK11=>?_
 refine SR fun K12 hK12=>M rfl rfl (M rfl rfl (P1 (p_lenL (xs:=l1) kd22 rfl) rfl rfl (P1 (p_lss rfl rfl) rfl rfl (M rfl rfl ?_))))
 refine TLc.p (gc:=((decide (i8<(l1.length:Int))))) (p_mv rfl (hg:=fun e=>rfl)) (gcT1 rfl) rfl ?_
 refine TLc.p (gc:=((decide (i8<(l1.length:Int))))) (p_lss rfl rfl (hg:=fun e=>⟨e,rfl⟩)) (gcT1 rfl) rfl ?_
 refine P1 (p_and rfl rfl (fun e=>⟨rfl,fun h=>h⟩)) rfl rfl (TL.nil (hK12 _ _ ?_))
 refine TK.cond (b:=((decide (i8<(l1.length:Int)))&&(decide (i8<(20:Int))))) rfl (fun hc=>?_) (fun hc=>?_)
 ·have hX:=ite_t hc hX
  refine TK.skip ?_
  refine hK11 _ _ ?_
  refine TK.seq_k fun K13 hK13=>?_
  refine TK.block ?_
  refine TK.seq_k fun K14 hK14=>?_
  refine SR fun K15 hK15=>M rfl rfl (M rfl rfl ?_)
  obtain ⟨e16,he16,hX⟩:=bind_some hX
  refine P1 (p_iaL (xs:=l1) kd22 ty49 rfl rfl rfl (fun _=>he16)) rfl rfl (P1 (p_ldE (xs:=l1) (a:=e16) (e16:Tape_api) ty49 rfl rfl (fun _=>he16) rfl rfl rfl) rfl rfl ?_)
  obtain ⟨r17,hr17,hX⟩:=bind_some hX
  refine TL.cvX rfl rfl rfl (fun _=>⟨rfl,⟨rfl,trivial⟩⟩) (fun e=>ok_cartridgelaw8_Few e16 _ hr17) ?_
  refine P1 (p_not rfl) rfl rfl (TL.nil (hK15 _ _ ?_))
  refine TK.cond (b:=(!r17)) rfl (fun hc=>?_) (fun hc=>?_)
  ·have hX:=ite_t hc hX
   refine SR fun K18 hK18=>M rfl rfl (TL.nil (hK18 _ _ ?_))
   refine TK.ret ?_
   obtain rfl:=hR6 _ (some_in hX).symm
   replace hX:=hA6
   try dsimp only[thenQ]
   exact R1 rfl hX
  ·have hX:=ite_f hc hX
   refine TK.skip ?_
   refine hK14 _ _ ?_
   refine TK.reg ?_
   refine M rfl rfl (M rfl rfl (M rfl rfl ?_))
   obtain ⟨e19,he19,hX⟩:=bind_some hX
   refine P1 (p_iaL (xs:=l1) kd22 ty49 rfl rfl rfl (fun _=>he19)) rfl rfl (P1 (p_faE fs49_2 Dc rfl) rfl rfl (P1 (p_ldE (xs:=l1) (a:=e19) (e19.Blocks:(List (List UInt8))) ty47 rfl rfl (fun _=>he19) rfl rfl rfl) rfl rfl (P1 (p_lenL (xs:=e19.Blocks) kd47 rfl) rfl rfl (P1 (p_add rfl rfl) rfl rfl (M rfl rfl (TL.nil (hK13 _ _ ?_)))))))
   refine TK.reg ?_
   refine M rfl rfl (P1 (p_add rfl rfl) rfl rfl (M rfl rfl (TL.nil ?_)))
   exact ⟨_,(some_in hX).symm,(),rfl,Nd_nil,HSub.refl _⟩
 ·have hX:=ite_f hc hX
  refine TK.exit ?_
  obtain rfl:=hR6 _ (some_in hX).symm
  exact E6 n7 _ _ ⟨(),rfl,Nd_nil,HSub.refl _⟩ hA6
theorem ok_cartridgeref1_NewReader (b1:(List UInt8)) (nd:Nd []) (r:((List UInt8)×Bool)) (hX:X.cartridgeref1_NewReader b1=some r):TCX Tryz.prog 82 [Enc.v (b1:(List UInt8))] [] (fun rv h'=>∃b5,rv= .ref b5 0 2∧h'=[(b5,RV 151 [Enc.v (r.1:(List UInt8)),Enc.v (r.2:Bool)])]):=by
 refine TCX.of b82 (Nat.le_of_ble_eq_true rfl) ?_
 unfold k82
 unfold X.cartridgeref1_NewReader at hX
 refine SR fun K2 hK2=>M rfl rfl (TL.nil (hK2 _ _ (SR fun K3 hK3=>M rfl rfl (P1 (p_bld (l:=Enc.cl ((Reader_ref1.mk b1 false):Reader_ref1)) ty151 rfl all151 rfl (fun _=>⟨⟨rfl,trivial,rfl⟩,trivial⟩)) rfl rfl ?_))))
 refine TLc.boxO (lu:=[Enc.v ((Reader_ref1.mk b1 false).b_:(List UInt8)),Enc.v ((Reader_ref1.mk b1 false).bad_:Bool)]) nd rfl (Cells_v ((Reader_ref1.mk b1 false):Reader_ref1)) rfl fun b4 nd=>?_
 refine M rfl rfl (TL.nil (hK3 _ _ ?_))
 refine TK.ret ?_
 try dsimp only[thenQ]
 exact retX (v:= .ref b4 0 2) (res1 rfl) (by obtain rfl:=some_in hX;exact ⟨b4,rfl,rfl⟩) nd (inH_ref nd (j:=0) rfl) ⟨rowIn_RV ⟨inH_val (v_val _),inH_val (v_val _),trivial⟩,trivial⟩
theorem ok_cartridgeref1_Reader_take (n4:Int) (b1:(List UInt8)) (bad2:Bool) (b3:Nat) (nd:Nd [(b3,RV 151 [Enc.v (b1:(List UInt8)),Enc.v (bad2:Bool)])]) (r:((List UInt8)×((List UInt8)×Bool))) (hX:X.cartridgeref1_Reader_take n4 b1 bad2=some r):TCX Tryz.prog 87 [.ref b3 0 2,Enc.v (n4:Int)] [(b3,RV 151 [Enc.v (b1:(List UInt8)),Enc.v (bad2:Bool)])] (fun rv h'=>rv=Enc.v (r.1:(List UInt8))∧h'=[(b3,RV 151 [Enc.v (r.2.1:(List UInt8)),Enc.v (r.2.2:Bool)])]):=by
 refine TCX.of b87 (Nat.le_of_ble_eq_true rfl) ?_
 unfold k87
 unfold X.cartridgeref1_Reader_take at hX
 refine SR fun K5 hK5=>M rfl rfl (TL.nil (hK5 _ _ ?_))
 refine TK.seq_k fun K6 hK6=>?_
 refine SR fun K7 hK7=>M rfl rfl (P1 (p_ncR rfl (fun _=>refOK_of nd (j:=0) rfl rfl)) rfl rfl (P1 (p_faV fs151_1 Dc rfl nd (j:=0) rfl rfl) rfl rfl (P1 (p_ldV (v:=Enc.v bad2) ty4 rfl rfl nd (j:=0) rfl rfl rfl rfl rfl) rfl rfl (M rfl rfl ?_))))
 refine TLc.p (gc:=(!bad2)) (p_mv rfl (hg:=fun e=>rfl)) (gcF1 rfl) rfl ?_
 refine TLc.p (gc:=(!bad2)) (p_ncR rfl (fun _=>refOK_of nd (j:=0) rfl rfl) (hg:=fun e=>e)) (gcF1 rfl) rfl ?_
 refine TLc.p (gc:=(!bad2)) (p_faV fs151_0 Dc rfl nd (j:=0) rfl rfl (hg:=fun e=>e)) (gcF1 rfl) rfl ?_
 refine TLc.p (gc:=(!bad2)) (p_ldV (v:=Enc.v b1) ty42 rfl rfl nd (j:=0) rfl rfl rfl rfl rfl (hg:=fun e=>e)) (gcF1 rfl) rfl ?_
 refine TLc.p (gc:=(!bad2)) (p_lenL (xs:=b1) kd42 rfl (hg:=fun e=>e)) (gcF1 rfl) rfl ?_
 refine TLc.p (gc:=(!bad2)) (p_mv rfl (hg:=fun e=>rfl)) (gcF1 rfl) rfl ?_
 refine TLc.p (gc:=(!bad2)) (p_lss rfl rfl (hg:=fun e=>⟨e,e⟩)) (gcF1 rfl) rfl ?_
 refine P1 (p_or rfl rfl (fun e=>⟨rfl,fun h=>(not_t h)⟩)) rfl rfl (TL.nil (hK7 _ _ ?_))
 refine TK.cond (b:=(bad2||(decide ((b1.length:Int)<n4)))) rfl (fun hc=>?_) (fun hc=>?_)
 ·have hX:=ite_t hc hX
  refine SR fun K8 hK8=>M rfl rfl (P1 (p_ncR rfl (fun _=>refOK_of nd (j:=0) rfl rfl)) rfl rfl (P1 (p_faV fs151_1 Dc rfl nd (j:=0) rfl rfl) rfl rfl ?_))
  refine TLc.stV (lu:=Enc.cl (true:Bool)) nd ty4 rfl (j:=0) rfl rfl rfl (Cells_v (true:Bool)) rfl rfl [Enc.v b1,Enc.v true] rfl fun nd=>?_
  refine TL.nil (hK8 _ _ (SR fun K9 hK9=>M rfl rfl (TL.nil (hK9 _ _ ?_))))
  refine TK.wk 4 (L ([]:(List UInt8))) rfl Wk_nil ?_
  refine TK.ret ?_
  try dsimp only[thenQ]
  exact retX (v:=Enc.v (([]:(List UInt8)):(List UInt8))) (res1 rfl) (by obtain rfl:=some_in hX;exact ⟨rfl,rfl⟩) nd (inH_val (v_val _)) ⟨rowIn_RV ⟨inH_val (v_val _),inH_val (v_val _),trivial⟩,trivial⟩
 ·have hX:=ite_f hc hX
  refine TK.skip ?_
  refine hK6 _ _ (SR fun K10 hK10=>M rfl rfl (P1 (p_ncR rfl (fun _=>refOK_of nd (j:=0) rfl rfl)) rfl rfl (P1 (p_faV fs151_0 Dc rfl nd (j:=0) rfl rfl) rfl rfl (P1 (p_ldV (v:=Enc.v b1) ty42 rfl rfl nd (j:=0) rfl rfl rfl rfl rfl) rfl rfl (M rfl rfl ?_)))))
  obtain ⟨u11,hu11,hX⟩:=bind_some hX
  refine P1 (p_sliL (xs:=b1) (l:=(0:Int)) (k:=n4) kd42 ty5 rfl rfl rfl rfl (fun e=>need_t hu11)) rfl rfl (M rfl rfl (TL.nil (hK10 _ _ (SR fun K12 hK12=>M rfl rfl (M rfl rfl (P1 (p_ncR rfl (fun _=>refOK_of nd (j:=0) rfl rfl)) rfl rfl (P1 (p_faV fs151_0 Dc rfl nd (j:=0) rfl rfl) rfl rfl (P1 (p_ldV (v:=Enc.v b1) ty42 rfl rfl nd (j:=0) rfl rfl rfl rfl rfl) rfl rfl (M rfl rfl ?_)))))))))
  obtain ⟨u13,hu13,hX⟩:=bind_some hX
  refine P1 (p_sliL (xs:=b1) (l:=n4) (k:=(b1.length:Int)) kd42 ty5 rfl rfl rfl rfl (fun e=>need_t hu13)) rfl rfl (P1 (p_ncR rfl (fun _=>refOK_of nd (j:=0) rfl rfl)) rfl rfl (P1 (p_faV fs151_0 Dc rfl nd (j:=0) rfl rfl) rfl rfl ?_))
  refine TLc.stV (lu:=Enc.cl ((slc b1 n4 (b1.length:Int)):(List UInt8))) nd ty42 rfl (j:=0) rfl rfl rfl (Cells_v ((slc b1 n4 (b1.length:Int)):(List UInt8))) rfl rfl [Enc.v ((slc b1 n4 (b1.length:Int)):(List UInt8)),Enc.v bad2] rfl fun nd=>?_
  refine TL.nil (hK12 _ _ (SR fun K14 hK14=>M rfl rfl (M rfl rfl (TL.nil (hK14 _ _ ?_)))))
  refine TK.ret ?_
  try dsimp only[thenQ]
  exact retX (v:=Enc.v ((slc b1 (0:Int) n4):(List UInt8))) (res1 rfl) (by obtain rfl:=some_in hX;exact ⟨rfl,rfl⟩) nd (inH_val (v_val _)) ⟨rowIn_RV ⟨inH_val (v_val _),inH_val (v_val _),trivial⟩,trivial⟩
theorem ok_cartridgeref1_Reader_Byte (b1:(List UInt8)) (bad2:Bool) (b3:Nat) (nd:Nd [(b3,RV 151 [Enc.v (b1:(List UInt8)),Enc.v (bad2:Bool)])]) (r:(UInt8×((List UInt8)×Bool))) (hX:X.cartridgeref1_Reader_Byte b1 bad2=some r):TCX Tryz.prog 83 [.ref b3 0 2] [(b3,RV 151 [Enc.v (b1:(List UInt8)),Enc.v (bad2:Bool)])] (fun rv h'=>rv=Enc.v (r.1:UInt8)∧h'=[(b3,RV 151 [Enc.v (r.2.1:(List UInt8)),Enc.v (r.2.2:Bool)])]):=by
 refine TCX.of b83 (Nat.le_of_ble_eq_true rfl) ?_
 unfold k83
 unfold X.cartridgeref1_Reader_Byte at hX
 refine SR fun K4 hK4=>M rfl rfl (TL.nil (hK4 _ _ (SR fun K5 hK5=>M rfl rfl ?_)))
 obtain ⟨r6,hr6,hX⟩:=bind_some hX
 refine TL.tcX [(b3,RV 151 [Enc.v b1,Enc.v bad2])] [] rfl nd (dlt rfl) rfl ⟨rfl,⟨rfl,⟨rfl,trivial⟩⟩⟩ (ok_cartridgeref1_Reader_take (1:Int) b1 bad2 b3 (Nd.take nd 1 rfl) _ hr6) ?_
 rintro _ _ hQ nd
 obtain ⟨rfl,rfl⟩:=hQ
 refine M rfl rfl (TL.nil (hK5 _ _ ?_))
 refine TK.seq_k fun K8 hK8=>?_
 refine SR fun K9 hK9=>M rfl rfl (P1 (p_lenL (xs:=r6.1) kd42 rfl) rfl rfl (P1 (p_eql rfl rfl) rfl rfl (TL.nil (hK9 _ _ ?_))))
 refine TK.cond (b:=((r6.1.length:Int)==(0:Int))) rfl (fun hc=>?_) (fun hc=>?_)
 ·have hX:=ite_t hc hX
  refine SR fun K10 hK10=>M rfl rfl (TL.nil (hK10 _ _ ?_))
  refine TK.ret ?_
  try dsimp only[thenQ]
  exact retX (v:=Enc.v ((0:UInt8):UInt8)) (res1 rfl) (by obtain rfl:=some_in hX;exact ⟨rfl,rfl⟩) nd (inH_val (v_val _)) ⟨rowIn_RV ⟨inH_val (v_val _),inH_val (v_val _),trivial⟩,trivial⟩
 ·have hX:=ite_f hc hX
  refine TK.skip ?_
  refine hK8 _ _ (SR fun K11 hK11=>M rfl rfl ?_)
  obtain ⟨e12,he12,hX⟩:=bind_some hX
  refine P1 (p_iaL (xs:=r6.1) kd42 ty5 rfl rfl rfl (fun _=>he12)) rfl rfl (P1 (p_ldE (xs:=r6.1) (a:=e12) (e12:UInt8) ty5 rfl rfl (fun _=>he12) rfl rfl rfl) rfl rfl (M rfl rfl (TL.nil (hK11 _ _ ?_))))
  refine TK.ret ?_
  try dsimp only[thenQ]
  exact retX (v:=Enc.v e12) (res1 rfl) (by obtain rfl:=some_in hX;exact ⟨rfl,rfl⟩) nd (inH_val (v_val _)) ⟨rowIn_RV ⟨inH_val (v_val _),inH_val (v_val _),trivial⟩,trivial⟩
theorem ok_cartridgeref1_Reader_Int (b1:(List UInt8)) (bad2:Bool) (b3:Nat) (nd:Nd [(b3,RV 151 [Enc.v (b1:(List UInt8)),Enc.v (bad2:Bool)])]) (r:(Int×((List UInt8)×Bool))) (hX:X.cartridgeref1_Reader_Int b1 bad2=some r):TCX Tryz.prog 84 [.ref b3 0 2] [(b3,RV 151 [Enc.v (b1:(List UInt8)),Enc.v (bad2:Bool)])] (fun rv h'=>rv=Enc.v (r.1:Int)∧h'=[(b3,RV 151 [Enc.v (r.2.1:(List UInt8)),Enc.v (r.2.2:Bool)])]):=by
 refine TCX.of b84 (Nat.le_of_ble_eq_true rfl) ?_
 unfold k84
 unfold X.cartridgeref1_Reader_Int at hX
 refine SR fun K4 hK4=>M rfl rfl (TL.nil (hK4 _ _ (SR fun K5 hK5=>M rfl rfl ?_)))
 obtain ⟨r6,hr6,hX⟩:=bind_some hX
 refine TL.tcX [(b3,RV 151 [Enc.v b1,Enc.v bad2])] [] rfl nd (dlt rfl) rfl ⟨rfl,⟨rfl,⟨rfl,trivial⟩⟩⟩ (ok_cartridgeref1_Reader_take (4:Int) b1 bad2 b3 (Nd.take nd 1 rfl) _ hr6) ?_
 rintro _ _ hQ nd
 obtain ⟨rfl,rfl⟩:=hQ
 refine M rfl rfl (TL.nil (hK5 _ _ (SR fun K8 hK8=>M rfl rfl (TL.nil (hK8 _ _ ?_)))))
 refine TK.seq_k fun K9 hK9=>?_
 refine SR fun K10 hK10=>M rfl rfl (TL.nil (hK10 _ _ ?_))
 refine TK.block ?_
 obtain ⟨o11,hO11,hA11⟩:=bind_some hX
 have E11:∀(n16:Int) (env:Env) (h:Hp),(∃_u:Unit,keepE [0,4] env=[(0,true,.ref b3 0 2),(4,true,Enc.v n16)]∧Nd [(b3,RV 151 [Enc.v r6.2.1,Enc.v r6.2.2])]∧HSub [(b3,RV 151 [Enc.v r6.2.1,Enc.v r6.2.2])] h)→X.cartridgeref1_Reader_Int_e11 r6 n16=some r→K9 env h:=by
  intro n16 env h hE hX
  obtain ⟨_u,henv,nd,hs⟩:=hE
  unfold X.cartridgeref1_Reader_Int_e11 at hX
  refine hK9 _ _ (TK.keep [0,4] ?_)
  rw[henv]
  refine TK.subH hs ?_
  refine SR fun K17 hK17=>M rfl rfl (M rfl rfl (TL.nil (hK17 _ _ ?_)))
  refine TK.ret ?_
  try dsimp only[thenQ]
  exact retX (v:=Enc.v n16) (res1 rfl) (by obtain rfl:=some_in hX;exact ⟨rfl,rfl⟩) nd (inH_val (v_val _)) ⟨rowIn_RV ⟨inH_val (v_val _),inH_val (v_val _),trivial⟩,trivial⟩
 refine TK.iter [0,3,4,5] (fun s env h=>match s with|(n13,i14)=>∃_u:Unit,env=[(0,true,.ref b3 0 2),(3,true,Enc.v r6.1),(4,true,Enc.v n13),(5,true,Enc.v i14)]∧Nd [(b3,RV 151 [Enc.v r6.2.1,Enc.v r6.2.2])]∧HSub [(b3,RV 151 [Enc.v r6.2.1,Enc.v r6.2.2])] h) hO11 ⟨(),rfl,(Nd.pick nd (is:=[0]) Dc),(HSub.pick nd (is:=[0]) Dc)⟩ ?_
 rintro ⟨n13,i14⟩ env h x11x ⟨_u,rfl,nd,hs⟩ hX hR11
 refine TK.subH hs ?_
 unfold X.cartridgeref1_Reader_Int_s11 at hX
 try dsimp only at hX
 refine TK.seq_k fun K18 hK18=>?_
 refine SR fun K19 hK19=>M rfl rfl (M rfl rfl (P1 (p_lenL (xs:=r6.1) kd42 rfl) rfl rfl (P1 (p_lss rfl rfl) rfl rfl (TL.nil (hK19 _ _ ?_)))))
 refine TK.cond (b:=(decide (i14<(r6.1.length:Int)))) rfl (fun hc=>?_) (fun hc=>?_)
 ·have hX:=ite_t hc hX
  refine TK.skip ?_
  refine hK18 _ _ ?_
  refine TK.seq_k fun K20 hK20=>?_
  refine TK.block ?_
  refine TK.reg ?_
  refine M rfl rfl (P1 (p_shl rfl rfl (fun _=>by omega)) rfl rfl (M rfl rfl (M rfl rfl ?_)))
  obtain ⟨e21,he21,hX⟩:=bind_some hX
  refine P1 (p_iaL (xs:=r6.1) kd42 ty5 rfl rfl rfl (fun _=>he21)) rfl rfl (P1 (p_ldE (xs:=r6.1) (a:=e21) (e21:UInt8) ty5 rfl rfl (fun _=>he21) rfl rfl rfl) rfl rfl (P1 (p_cvt src5 kd3 rfl (cv_8 e21)) rfl rfl (P1 (p_or64 rfl rfl) rfl rfl (M rfl rfl (TL.nil (hK20 _ _ ?_))))))
  refine TK.reg ?_
  refine M rfl rfl (P1 (p_add rfl rfl) rfl rfl (M rfl rfl (TL.nil ?_)))
  exact ⟨_,(some_in hX).symm,(),rfl,(Nd.pick nd (is:=[0]) Dc),(HSub.pick nd (is:=[0]) Dc)⟩
 ·have hX:=ite_f hc hX
  refine TK.exit ?_
  obtain rfl:=hR11 _ (some_in hX).symm
  exact E11 n13 _ _ ⟨(),rfl,(Nd.pick nd (is:=[0]) Dc),(HSub.pick nd (is:=[0]) Dc)⟩ hA11
theorem ok_cartridgeref1_Reader_Bad (b1:(List UInt8)) (bad2:Bool) (r:Bool) (hX:X.cartridgeref1_Reader_Bad b1 bad2=some r):Fun Tryz.prog 85 [.vref (ofL [Enc.v (b1:(List UInt8)),Enc.v (bad2:Bool)]) 2 0] (·=Enc.v (r:Bool)):=by
 refine Fun.of b85 (Nat.le_of_ble_eq_true rfl) (allVal.mem ⟨(by exact (vref_val (l:=[Enc.v (b1:(List UInt8)),Enc.v (bad2:Bool)]) rfl ⟨(v_val _),(v_val _),trivial⟩)),trivial⟩) ?_
 unfold k85
 have nd:Nd []:=Nd_nil
 unfold X.cartridgeref1_Reader_Bad at hX
 refine SR fun K3 hK3=>M rfl rfl (TL.nil (hK3 _ _ (SR fun K4 hK4=>M rfl rfl (P1 (p_ncV rfl) rfl rfl (P1 (p_faR fs151_1 Dc rfl) rfl rfl (P1 (p_ldR (v:=Enc.v bad2) ty4 rfl rfl rfl rfl rfl rfl) rfl rfl (M rfl rfl (TL.nil (hK4 _ _ ?_)))))))))
 refine TK.ret ?_
 try dsimp only[thenQ]
 exact R1 rfl hX
theorem ok_cartridgeref1_Reader_Left (b1:(List UInt8)) (bad2:Bool) (r:Int) (hX:X.cartridgeref1_Reader_Left b1 bad2=some r):Fun Tryz.prog 86 [.vref (ofL [Enc.v (b1:(List UInt8)),Enc.v (bad2:Bool)]) 2 0] (·=Enc.v (r:Int)):=by
 refine Fun.of b86 (Nat.le_of_ble_eq_true rfl) (allVal.mem ⟨(by exact (vref_val (l:=[Enc.v (b1:(List UInt8)),Enc.v (bad2:Bool)]) rfl ⟨(v_val _),(v_val _),trivial⟩)),trivial⟩) ?_
 unfold k86
 have nd:Nd []:=Nd_nil
 unfold X.cartridgeref1_Reader_Left at hX
 refine SR fun K3 hK3=>M rfl rfl (TL.nil (hK3 _ _ ?_))
 refine TK.seq_k fun K4 hK4=>?_
 refine SR fun K5 hK5=>M rfl rfl (P1 (p_ncV rfl) rfl rfl (P1 (p_faR fs151_1 Dc rfl) rfl rfl (P1 (p_ldR (v:=Enc.v bad2) ty4 rfl rfl rfl rfl rfl rfl) rfl rfl (TL.nil (hK5 _ _ ?_)))))
 refine TK.cond (b:=bad2) rfl (fun hc=>?_) (fun hc=>?_)
 ·have hX:=ite_t hc hX
  refine SR fun K6 hK6=>M rfl rfl (TL.nil (hK6 _ _ ?_))
  refine TK.ret ?_
  try dsimp only[thenQ]
  exact R1 rfl hX
 ·have hX:=ite_f hc hX
  refine TK.skip ?_
  refine hK4 _ _ (SR fun K7 hK7=>M rfl rfl (P1 (p_ncV rfl) rfl rfl (P1 (p_faR fs151_0 Dc rfl) rfl rfl (P1 (p_ldR (v:=Enc.v b1) ty42 rfl rfl rfl rfl rfl rfl) rfl rfl (P1 (p_lenL (xs:=b1) kd42 rfl) rfl rfl (M rfl rfl (TL.nil (hK7 _ _ ?_))))))))
  refine TK.ret ?_
  try dsimp only[thenQ]
  exact R1 rfl hX
end Go.Proofs.YtfpldlnbhjmckaaGreat
