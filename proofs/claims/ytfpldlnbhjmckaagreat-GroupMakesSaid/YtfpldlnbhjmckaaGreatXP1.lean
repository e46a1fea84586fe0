import Derived.Test.YtfpldlnbhjmckaaGreatXFn
import Derived.Test.YtfpldlnbhjmckaaGreatXS
import Derived.Test.YtfpldlnbhjmckaaGreatAmK0
import Derived.Test.YtfpldlnbhjmckaaGreatAmK1
import Derived.Test.YtfpldlnbhjmckaaGreatXP0
namespace Go.Proofs.YtfpldlnbhjmckaaGreat
open Go.AM Go.AX
set_option linter.unusedVariables false
set_option maxRecDepth 20000
theorem bc_group_tape:BodyC cx 22 72 [.c 6 49,.t 7] k22:=⟨Enters.of Tryz.func22 (by kernel_rfl) (by kernel_rfl),_,_,Tryz.func22,rfl,by kernel_rfl,rfl,rfl⟩
theorem ok_group_tape (t1:Tape_api) (s2:Seal_api) (rows3:(List (List UInt8))) (r:(Tape_api×Int)) (hX:X.group_tape t1 s2 rows3=some r):Fun Tryz.prog 22 [Enc.v (t1:Tape_api),Enc.v (s2:Seal_api),Enc.v (rows3:(List (List UInt8)))] (·= .tup 2 (ofL [Enc.v r.1,Enc.v r.2])):=by
 refine Fun.ofC (C:=cx) bc_group_tape (Nat.le_of_ble_eq_true rfl) (allVal.mem ⟨(by exact (v_val _)),(by exact (v_val _)),(by exact (v_val _)),trivial⟩) ?_
 unfold k22
 have nd:Nd []:=Nd_nil
 unfold X.group_tape at hX
 refine SR fun K4 hK4=>?_
 refine TLc.boxV (lu:=[Enc.v t1.Label,Enc.v t1.Cap,Enc.v t1.Blocks,Enc.v t1.Lost]) nd rfl (Cells_v (t1:Tape_api)) rfl ?_
 refine TLc.boxV (lu:=[Enc.v s2.Number,Enc.v s2.Index,Enc.v s2.Data,Enc.v s2.Parity,Enc.v s2.Labels]) nd rfl (Cells_v (s2:Seal_api)) rfl ?_
 refine TLc.alO (l:=[Enc.v ((0:Int):Int),Enc.v ((0:Int):Int),.nils,Enc.v false]) nd ty49 ti49_z rfl rfl fun b5 nd=>?_
 refine M rfl rfl (TL.nil (hK4 _ _ ?_))
 refine TK.ownC (α:=(List UInt8)) nd (j:=0) rfl 2 42 (.inl rfl) fun b6 nd=>?_
 refine SR fun K7 hK7=>?_
 refine TLc.litO nd ([(80:UInt8)]:List UInt8) kd42 ty5 rfl ⟨⟨rfl,rfl⟩,trivial⟩ rfl rfl rfl fun b8 nd=>?_
 refine TLc.cvtF (xs:=([(80:UInt8)]:List UInt8)) nd kd42 kd5 rfl (j:=0) rfl (by simp) rfl fun nd=>?_
 refine P1 (p_bld (l:=Enc.cl ((Unit_api.mk (1:Int) (0:Int) (0:Int) ([(80:UInt8)]:List UInt8)):Unit_api)) ty46 rfl all46 rfl (fun _=>⟨⟨rfl,trivial,rfl⟩,⟨rfl,trivial,rfl⟩,trivial⟩)) rfl rfl ?_
 refine TLc.litO nd ([(Unit_api.mk (1:Int) (0:Int) (0:Int) ([(80:UInt8)]:List UInt8))]:List Unit_api) kd91 ty46 rfl ⟨⟨rfl,rfl⟩,trivial⟩ rfl rfl rfl fun b9 nd=>?_
 refine M rfl rfl (TL.nil (hK7 _ _ ?_))
 refine TK.seq_k fun K10 hK10=>?_
 refine SR fun K11 hK11=>M rfl rfl (P1 (p_lenL (xs:=rows3) kd47 rfl) rfl rfl (M rfl rfl (TL.nil (hK11 _ _ ?_))))
 refine TK.block ?_
 obtain ⟨o12,hO12,hA12⟩:=bind_some hX
 have E12:∀(l21:List Unit_api) (env:Env) (h:Hp),(∃b19 b18 b20,keepE [3,4,6,8] env=[(3,true,.vref (ofL [Enc.v t1.Label,Enc.v t1.Cap,Enc.v t1.Blocks,Enc.v t1.Lost]) 4 0),(4,true,.vref (ofL [Enc.v s2.Number,Enc.v s2.Index,Enc.v s2.Data,Enc.v s2.Parity,Enc.v s2.Labels]) 5 0),(6,true,.ref b18 0 4),(8,true,OL b20 l21)]∧Nd [(b19,RL (α:=(List UInt8)) 42 ([]:List (List UInt8))),(b18,RV 49 [Enc.v ((0:Int):Int),Enc.v ((0:Int):Int),OL (α:=(List UInt8)) b19 ([]:List (List UInt8)),Enc.v false]),(b20,RL (α:=Unit_api) 46 l21)]∧HSub [(b19,RL (α:=(List UInt8)) 42 ([]:List (List UInt8))),(b18,RV 49 [Enc.v ((0:Int):Int),Enc.v ((0:Int):Int),OL (α:=(List UInt8)) b19 ([]:List (List UInt8)),Enc.v false]),(b20,RL (α:=Unit_api) 46 l21)] h)→X.group_tape_e12 s2 t1 l21=some r→K10 env h:=by
  intro l21 env h hE hX
  obtain ⟨b19,b18,b20,henv,nd,hs⟩:=hE
  unfold X.group_tape_e12 at hX
  refine hK10 _ _ (TK.keep [3,4,6,8] ?_)
  rw[henv]
  refine TK.subH hs ?_
  refine SR fun K22 hK22=>M rfl rfl (P1 (p_ldRa (l':=Enc.cl (s2:Seal_api)) ty38 rfl rfl rfl rfl rfl (Nat.le_of_ble_eq_true rfl)) rfl rfl ?_)
  obtain ⟨r23,hr23,hX⟩:=bind_some hX
  refine TL.cvX rfl rfl rfl (fun _=>⟨rfl,⟨rfl,trivial⟩⟩) (fun e=>ok_record_SealBytes s2 _ hr23) ?_
  refine P1 (p_bld (l:=Enc.cl ((Unit_api.mk (5:Int) (0:Int) (0:Int) r23):Unit_api)) ty46 rfl all46 rfl (fun _=>⟨⟨rfl,trivial,rfl⟩,⟨rfl,trivial,rfl⟩,trivial⟩)) rfl rfl ?_
  refine TLc.lit ([(Unit_api.mk (5:Int) (0:Int) (0:Int) r23)]:List Unit_api) kd91 ty46 rfl ⟨⟨rfl,rfl⟩,trivial⟩ rfl rfl rfl ?_
  obtain ⟨u24,hu24,hX⟩:=bind_some hX
  refine TLc.appO nd kd91 bo91 ty46 rfl rfl (j:=2) rfl rfl (Src_L _) Dc (need_t hu24) rfl fun nd=>?_
  refine M rfl rfl (TL.nil (hK22 _ _ (SR fun K25 hK25=>P1 (p_faR fs49_0 Dc rfl) rfl rfl (P1 (p_ldR (v:=Enc.v t1.Label) ty3 rfl rfl rfl rfl rfl rfl) rfl rfl (P1 (p_faR fs49_1 Dc rfl) rfl rfl (P1 (p_ldR (v:=Enc.v t1.Cap) ty3 rfl rfl rfl rfl rfl rfl) rfl rfl ?_))))))
  refine P1 (p_bld (l:=[Enc.v t1.Label,Enc.v t1.Cap,.nils,Enc.v false]) ty49 rfl all49 rfl (fun _=>⟨⟨rfl,trivial,rfl⟩,⟨rfl,trivial,rfl⟩,trivial⟩)) rfl rfl ?_
  refine TLc.alO (l:=[Enc.v ((0:Int):Int),Enc.v ((0:Int):Int),.nils,Enc.v false]) nd ty49 ti49_z rfl rfl fun b26 nd=>?_
  refine TLc.stV (lu:=[Enc.v t1.Label,Enc.v t1.Cap,.nils,Enc.v false]) nd ty49 rfl (j:=0) rfl rfl rfl (Cells_agg rfl (allA.mem ⟨trivial,trivial,trivial,trivial,trivial⟩)) rfl rfl [Enc.v t1.Label,Enc.v t1.Cap,.nils,Enc.v false] rfl fun nd=>?_
  refine TL.nil (hK25 _ _ ?_)
  refine TK.ownC (α:=(List UInt8)) nd (j:=0) rfl 2 42 (.inl rfl) fun b27 nd=>?_
  refine TK.seq_k fun K28 hK28=>?_
  refine SR fun K29 hK29=>M rfl rfl (P1 (p_lenR kd91 rfl (fun _=>refOK_of nd (j:=4) rfl rfl)) rfl rfl (M rfl rfl (TL.nil (hK29 _ _ ?_))))
  refine TK.block ?_
  obtain ⟨o30,hO30,hA30⟩:=bind_some hX
  have E30:∀(c44:Int) (c45:Int) (l47:List (List UInt8)) (c48:Bool) (env:Env) (h:Hp),(∃b42 b41 b46 b43,keepE [6,11] env=[(6,true,.ref b41 0 4),(11,true,.ref b43 0 4)]∧Nd [(b42,RL (α:=(List UInt8)) 42 ([]:List (List UInt8))),(b41,RV 49 [Enc.v ((0:Int):Int),Enc.v ((0:Int):Int),OL (α:=(List UInt8)) b42 ([]:List (List UInt8)),Enc.v false]),(b46,RL (α:=(List UInt8)) 42 l47),(b43,RV 49 [Enc.v c44,Enc.v c45,OL b46 l47,Enc.v c48])]∧HSub [(b42,RL (α:=(List UInt8)) 42 ([]:List (List UInt8))),(b41,RV 49 [Enc.v ((0:Int):Int),Enc.v ((0:Int):Int),OL (α:=(List UInt8)) b42 ([]:List (List UInt8)),Enc.v false]),(b46,RL (α:=(List UInt8)) 42 l47),(b43,RV 49 [Enc.v c44,Enc.v c45,OL b46 l47,Enc.v c48])] h)→X.group_tape_e30 c44 c45 l47 c48=some r→K28 env h:=by
   intro c44 c45 l47 c48 env h hE hX
   obtain ⟨b42,b41,b46,b43,henv,nd,hs⟩:=hE
   unfold X.group_tape_e30 at hX
   refine hK28 _ _ (TK.keep [6,11] ?_)
   rw[henv]
   refine TK.subH hs ?_
   refine SR fun K49 hK49=>?_
   refine TL.layR (l2':=[Enc.v c44,Enc.v c45,Enc.v l47,Enc.v c48]) [] nd (j:=2) rfl 3 rfl rfl ⟨fix_id _,fix_id _,fix_OL nd (j:=2) rfl,fix_id _,trivial⟩ trivial fun nd=>?_
   refine P1 (p_ldVa (l':=Enc.cl ((Tape_api.mk c44 c45 l47 c48):Tape_api)) ty49 rfl rfl nd (j:=2) rfl rfl rfl rfl (Nat.le_of_ble_eq_true rfl)) rfl rfl ?_
   refine TLc.stV (lu:=Enc.cl ((Tape_api.mk c44 c45 l47 c48):Tape_api)) nd ty49 rfl (j:=1) rfl rfl rfl (Cells_v ((Tape_api.mk c44 c45 l47 c48):Tape_api)) rfl rfl [Enc.v ((Tape_api.mk c44 c45 l47 c48).Label:Int),Enc.v ((Tape_api.mk c44 c45 l47 c48).Cap:Int),Enc.v ((Tape_api.mk c44 c45 l47 c48).Blocks:(List (List UInt8))),Enc.v ((Tape_api.mk c44 c45 l47 c48).Lost:Bool)] rfl fun nd=>?_
   refine M rfl rfl (TL.nil (hK49 _ _ ?_))
   refine TK.ret ?_
   try dsimp only[thenQ]
   exact retC [Enc.v ((Tape_api.mk c44 c45 l47 c48):Tape_api),Enc.v ((0:Int):Int)] ⟨p_ldVa (l':=Enc.cl ((Tape_api.mk c44 c45 l47 c48):Tape_api)) ty49 rfl rfl nd (j:=1) rfl rfl rfl rfl (Nat.le_of_ble_eq_true rfl),p_mv rfl,trivial⟩ (by obtain rfl:=some_in hX;rfl) (tup_val (allVal.mem ⟨v_val _,v_val _,trivial⟩))
  refine TK.iter [3,6,11,43,44,45] (fun s env h=>match s with|(c34,c35,l37,c38,x40)=>∃b32 b31 b36 b33 b39,env=[(3,true,.vref (ofL [Enc.v t1.Label,Enc.v t1.Cap,Enc.v t1.Blocks,Enc.v t1.Lost]) 4 0),(6,true,.ref b31 0 4),(11,true,.ref b33 0 4),(43,true,OL (α:=Unit_api) b39 (l21++([(Unit_api.mk (5:Int) (0:Int) (0:Int) r23)]:List Unit_api))),(44,true,Enc.v (((l21++([(Unit_api.mk (5:Int) (0:Int) (0:Int) r23)]:List Unit_api)).length:Int):Int)),(45,true,Enc.v x40)]∧Nd [(b32,RL (α:=(List UInt8)) 42 ([]:List (List UInt8))),(b31,RV 49 [Enc.v ((0:Int):Int),Enc.v ((0:Int):Int),OL (α:=(List UInt8)) b32 ([]:List (List UInt8)),Enc.v false]),(b36,RL (α:=(List UInt8)) 42 l37),(b33,RV 49 [Enc.v c34,Enc.v c35,OL b36 l37,Enc.v c38]),(b39,RL (α:=Unit_api) 46 (l21++([(Unit_api.mk (5:Int) (0:Int) (0:Int) r23)]:List Unit_api)))]∧HSub [(b32,RL (α:=(List UInt8)) 42 ([]:List (List UInt8))),(b31,RV 49 [Enc.v ((0:Int):Int),Enc.v ((0:Int):Int),OL (α:=(List UInt8)) b32 ([]:List (List UInt8)),Enc.v false]),(b36,RL (α:=(List UInt8)) 42 l37),(b33,RV 49 [Enc.v c34,Enc.v c35,OL b36 l37,Enc.v c38]),(b39,RL (α:=Unit_api) 46 (l21++([(Unit_api.mk (5:Int) (0:Int) (0:Int) r23)]:List Unit_api)))] h) hO30 ⟨b19,b18,b27,b26,b20,rfl,(Nd.pick nd (is:=[2,3,0,1,4]) Dc),(HSub.pick nd (is:=[2,3,0,1,4]) Dc)⟩ ?_
  rintro ⟨c34,c35,l37,c38,x40⟩ env h x30x ⟨b32,b31,b36,b33,b39,rfl,nd,hs⟩ hX hR30
  refine TK.subH hs ?_
  unfold X.group_tape_s30 at hX
  try dsimp only at hX
  refine SR fun K50 hK50=>P1 (p_lss rfl rfl) rfl rfl (TL.nil (hK50 _ _ ?_))
  refine TK.seq_k fun K51 hK51=>?_
  refine TK.cond (b:=(decide (x40<((l21++([(Unit_api.mk (5:Int) (0:Int) (0:Int) r23)]:List Unit_api)).length:Int)))) rfl (fun hc=>?_) (fun hc=>?_)
  ·have hX:=ite_t hc hX
   refine TK.skip ?_
   refine hK51 _ _ ?_
   refine TK.seq_k fun K52 hK52=>?_
   refine TK.block ?_
   refine SR fun K53 hK53=>M rfl rfl ?_
   obtain ⟨e54,he54,hX⟩:=bind_some hX
   refine P1 (p_iaO (xs:=(l21++([(Unit_api.mk (5:Int) (0:Int) (0:Int) r23)]:List Unit_api))) kd91 ty46 rfl rfl rfl nd (j:=4) rfl (fun _=>he54)) rfl rfl (P1 (p_ldO (xs:=(l21++([(Unit_api.mk (5:Int) (0:Int) (0:Int) r23)]:List Unit_api))) (a:=e54) (e54:Unit_api) ty46 rfl rfl nd (j:=4) rfl (fun _=>he54) rfl rfl rfl) rfl rfl ?_)
   refine TLc.alO (l:=[Enc.v ((0:Int):Int),Enc.v ((0:Int):Int),Enc.v ((0:Int):Int),.nils]) nd ty46 ti46_z rfl rfl fun b55 nd=>?_
   refine M rfl rfl ?_
   refine TLc.stV (lu:=Enc.cl (e54:Unit_api)) nd ty46 rfl (j:=0) rfl rfl rfl (Cells_v (e54:Unit_api)) rfl rfl [Enc.v e54.Kind,Enc.v e54.Label,Enc.v e54.Number,Enc.v e54.Load] rfl fun nd=>?_
   refine TL.nil (hK53 _ _ (SR fun K56 hK56=>P1 (p_faR fs49_0 Dc rfl) rfl rfl (P1 (p_ldR (v:=Enc.v t1.Label) ty3 rfl rfl rfl rfl rfl rfl) rfl rfl (M rfl rfl (P1 (p_faV fs46_1 Dc rfl nd (j:=0) rfl rfl) rfl rfl ?_)))))
   refine TLc.stV (lu:=Enc.cl (t1.Label:Int)) nd ty3 rfl (j:=0) rfl rfl rfl (Cells_v (t1.Label:Int)) rfl rfl [Enc.v e54.Kind,Enc.v t1.Label,Enc.v e54.Number,Enc.v e54.Load] rfl fun nd=>?_
   refine P1 (p_faV fs46_2 Dc rfl nd (j:=0) rfl rfl) rfl rfl ?_
   refine TLc.stV (lu:=Enc.cl (x40:Int)) nd ty3 rfl (j:=0) rfl rfl rfl (Cells_v (x40:Int)) rfl rfl [Enc.v e54.Kind,Enc.v t1.Label,Enc.v x40,Enc.v e54.Load] rfl fun nd=>?_
   refine TL.nil (hK56 _ _ (SR fun K57 hK57=>P1 (p_ldVa (l':=Enc.cl ((Unit_api.mk e54.Kind t1.Label x40 e54.Load):Unit_api)) ty46 rfl rfl nd (j:=0) rfl rfl rfl rfl (Nat.le_of_ble_eq_true rfl)) rfl rfl ?_))
   obtain ⟨r58,hr58,hX⟩:=bind_some hX
   refine TL.cvX rfl rfl rfl (fun _=>⟨rfl,⟨rfl,trivial⟩⟩) (fun e=>ok_frame_Put (Unit_api.mk e54.Kind t1.Label x40 e54.Load) _ hr58) ?_
   refine M rfl rfl (P1 (p_ex rfl rfl Dc) rfl rfl (P1 (p_ex rfl rfl Dc) rfl rfl (M rfl rfl (M rfl rfl (TL.nil (hK57 _ _ ?_))))))
   refine TK.seq_k fun K59 hK59=>?_
   refine SR fun K60 hK60=>M rfl rfl (P1 (p_neq rfl rfl) rfl rfl (TL.nil (hK60 _ _ ?_)))
   refine TK.cond (b:=(r58.2 !=(0:Int))) rfl (fun hc=>?_) (fun hc=>?_)
   ·have hX:=ite_t hc hX
    refine SR fun K61 hK61=>P1 (p_bld (l:=[Enc.v ((0:Int):Int),Enc.v ((0:Int):Int),.nils,Enc.v false]) ty49 rfl all49 rfl (fun _=>trivial)) rfl rfl (M rfl rfl ?_)
    refine TLc.stV (lu:=[Enc.v ((0:Int):Int),Enc.v ((0:Int):Int),.nils,Enc.v false]) nd ty49 rfl (j:=2) rfl rfl rfl (Cells_agg rfl (allA.mem ⟨trivial,trivial,trivial,trivial,trivial⟩)) rfl rfl [Enc.v ((0:Int):Int),Enc.v ((0:Int):Int),.nils,Enc.v false] rfl fun nd=>?_
    refine M rfl rfl (TL.nil (hK61 _ _ ?_))
    refine TK.ownC (α:=(List UInt8)) nd (j:=2) rfl 2 42 (.inl rfl) fun b62 nd=>?_
    refine TK.layR (l2':=[Enc.v ((0:Int):Int),Enc.v ((0:Int):Int),Enc.v (([]:List (List UInt8)):(List (List UInt8))),Enc.v false]) [] nd (j:=0) rfl 3 rfl rfl ⟨fix_id _,fix_id _,fix_OL nd (j:=0) rfl,fix_id _,trivial⟩ trivial fun nd=>?_
    refine TK.ret ?_
    obtain rfl:=hR30 _ (some_in hX).symm
    replace hX:=hA30
    try dsimp only[thenQ]
    exact retC [Enc.v ((Tape_api.mk (0:Int) (0:Int) ([]:List (List UInt8)) false):Tape_api),Enc.v r58.2] ⟨p_ldVa (l':=Enc.cl ((Tape_api.mk (0:Int) (0:Int) ([]:List (List UInt8)) false):Tape_api)) ty49 rfl rfl nd (j:=2) rfl rfl rfl rfl (Nat.le_of_ble_eq_true rfl),p_mv rfl,trivial⟩ (by obtain rfl:=some_in hX;rfl) (tup_val (allVal.mem ⟨v_val _,v_val _,trivial⟩))
   ·have hX:=ite_f hc hX
    refine TK.skip ?_
    refine hK59 _ _ ?_
    refine TK.reg ?_
    refine P1 (p_faV fs49_2 Dc rfl nd (j:=4) rfl rfl) rfl rfl (P1 (p_ldV (v:=OL b36 l37) ty47 rfl rfl nd (j:=4) rfl rfl rfl rfl rfl) rfl rfl (M rfl rfl ?_))
    refine TLc.lit ([r58.1]:List (List UInt8)) kd47 ty42 rfl ⟨⟨rfl,rfl⟩,trivial⟩ rfl rfl rfl ?_
    obtain ⟨u63,hu63,hX⟩:=bind_some hX
    refine TLc.appO nd kd47 bo47 ty42 rfl rfl (j:=3) rfl rfl (Src_L _) Dc (need_t hu63) rfl fun nd=>?_
    refine P1 (p_faV fs49_2 Dc rfl nd (j:=4) rfl rfl) rfl rfl ?_
    refine TLc.stV (lu:=[OL (α:=(List UInt8)) b36 (l37++([r58.1]:List (List UInt8)))]) nd ty47 rfl (j:=4) rfl rfl rfl (Cells_rs (refOK_of nd (j:=3) rfl rfl)) rfl rfl [Enc.v c34,Enc.v c35,OL (α:=(List UInt8)) b36 (l37++([r58.1]:List (List UInt8))),Enc.v c38] rfl fun nd=>?_
    refine TL.nil (hK52 _ _ ?_)
    refine TK.reg ?_
    refine P1 (p_add rfl rfl) rfl rfl (M rfl rfl (TL.nil ?_))
    exact ⟨_,(some_in hX).symm,b32,b31,b36,b33,b39,rfl,(Nd.pick nd (is:=[1,2,3,4,5]) Dc),(HSub.pick nd (is:=[1,2,3,4,5]) Dc)⟩
  ·have hX:=ite_f hc hX
   refine TK.exit ?_
   obtain rfl:=hR30 _ (some_in hX).symm
   exact E30 c34 c35 l37 c38 _ _ ⟨b32,b31,b36,b33,rfl,(Nd.pick nd (is:=[0,1,2,3]) Dc),(HSub.pick nd (is:=[0,1,2,3]) Dc)⟩ hA30
 refine TK.iter [3,4,6,8,20,21,22] (fun s env h=>match s with|(l16,x17)=>∃b14 b13 b15,env=[(3,true,.vref (ofL [Enc.v t1.Label,Enc.v t1.Cap,Enc.v t1.Blocks,Enc.v t1.Lost]) 4 0),(4,true,.vref (ofL [Enc.v s2.Number,Enc.v s2.Index,Enc.v s2.Data,Enc.v s2.Parity,Enc.v s2.Labels]) 5 0),(6,true,.ref b13 0 4),(8,true,OL b15 l16),(20,true,Enc.v rows3),(21,true,Enc.v ((rows3.length:Int):Int)),(22,true,Enc.v x17)]∧Nd [(b14,RL (α:=(List UInt8)) 42 ([]:List (List UInt8))),(b13,RV 49 [Enc.v ((0:Int):Int),Enc.v ((0:Int):Int),OL (α:=(List UInt8)) b14 ([]:List (List UInt8)),Enc.v false]),(b15,RL (α:=Unit_api) 46 l16)]∧HSub [(b14,RL (α:=(List UInt8)) 42 ([]:List (List UInt8))),(b13,RV 49 [Enc.v ((0:Int):Int),Enc.v ((0:Int):Int),OL (α:=(List UInt8)) b14 ([]:List (List UInt8)),Enc.v false]),(b15,RL (α:=Unit_api) 46 l16)] h) hO12 ⟨b6,b5,b9,rfl,(Nd.pick nd (is:=[1,2,0]) Dc),(HSub.pick nd (is:=[1,2,0]) Dc)⟩ ?_
 rintro ⟨l16,x17⟩ env h x12x ⟨b14,b13,b15,rfl,nd,hs⟩ hX hR12
 refine TK.subH hs ?_
 unfold X.group_tape_s12 at hX
 try dsimp only at hX
 refine SR fun K64 hK64=>P1 (p_lss rfl rfl) rfl rfl (TL.nil (hK64 _ _ ?_))
 refine TK.seq_k fun K65 hK65=>?_
 refine TK.cond (b:=(decide (x17<(rows3.length:Int)))) rfl (fun hc=>?_) (fun hc=>?_)
 ·have hX:=ite_t hc hX
  refine TK.skip ?_
  refine hK65 _ _ ?_
  refine TK.seq_k fun K66 hK66=>?_
  refine TK.block ?_
  refine SR fun K67 hK67=>?_
  obtain ⟨e68,he68,hX⟩:=bind_some hX
  refine P1 (p_iaL (xs:=rows3) kd47 ty42 rfl rfl rfl (fun _=>he68)) rfl rfl (P1 (p_ldE (xs:=rows3) (a:=e68) (e68:(List UInt8)) ty42 rfl rfl (fun _=>he68) rfl rfl rfl) rfl rfl (M rfl rfl (TL.nil (hK67 _ _ ?_))))
  refine TK.reg ?_
  refine M rfl rfl (M rfl rfl (P1 (p_bld (l:=Enc.cl ((Unit_api.mk (6:Int) (0:Int) (0:Int) e68):Unit_api)) ty46 rfl all46 rfl (fun _=>⟨⟨rfl,trivial,rfl⟩,⟨rfl,trivial,rfl⟩,trivial⟩)) rfl rfl ?_))
  refine TLc.lit ([(Unit_api.mk (6:Int) (0:Int) (0:Int) e68)]:List Unit_api) kd91 ty46 rfl ⟨⟨rfl,rfl⟩,trivial⟩ rfl rfl rfl ?_
  obtain ⟨u69,hu69,hX⟩:=bind_some hX
  refine TLc.appO nd kd91 bo91 ty46 rfl rfl (j:=2) rfl rfl (Src_L _) Dc (need_t hu69) rfl fun nd=>?_
  refine M rfl rfl (TL.nil (hK66 _ _ ?_))
  refine TK.reg ?_
  refine P1 (p_add rfl rfl) rfl rfl (M rfl rfl (TL.nil ?_))
  exact ⟨_,(some_in hX).symm,b14,b13,b15,rfl,(Nd.pick nd (is:=[0,1,2]) Dc),(HSub.pick nd (is:=[0,1,2]) Dc)⟩
 ·have hX:=ite_f hc hX
  refine TK.exit ?_
  obtain rfl:=hR12 _ (some_in hX).symm
  exact E12 l16 _ _ ⟨b14,b13,b15,rfl,(Nd.pick nd (is:=[0,1,2]) Dc),(HSub.pick nd (is:=[0,1,2]) Dc)⟩ hA12
theorem ok_group_Make (data1:(List Tape_api)) (blank2:(List Tape_api)) (number3:Int) (r:((List Tape_api)×Int)) (hX:X.group_Make data1 blank2 number3=some r):Fun Tryz.prog 7 [Enc.v (data1:(List Tape_api)),Enc.v (blank2:(List Tape_api)),Enc.v (number3:Int)] (·= .tup 2 (ofL [Enc.v r.1,Enc.v r.2])):=by
 refine Fun.of b7 (Nat.le_of_ble_eq_true rfl) (allVal.mem ⟨(by exact (v_val _)),(by exact (v_val _)),(by exact (v_val _)),trivial⟩) ?_
 unfold k7
 have nd:Nd []:=Nd_nil
 unfold X.group_Make at hX
 refine SR fun K4 hK4=>M rfl rfl (M rfl rfl (TL.nil (hK4 _ _ (SR fun K5 hK5=>M rfl rfl (M rfl rfl (P1 (p_lenL (xs:=data1) kd22 rfl) rfl rfl (M rfl rfl (P1 (p_lenL (xs:=blank2) kd22 rfl) rfl rfl (M rfl rfl (M rfl rfl ?_))))))))))
 refine TLc.lit ([data1,blank2]:List (List Tape_api)) kd83 ty22 rfl ⟨⟨rfl,rfl⟩,⟨rfl,rfl⟩,trivial⟩ rfl rfl rfl ?_
 obtain ⟨r6,hr6,hX⟩:=bind_some hX
 refine TL.cvX rfl rfl rfl (fun _=>⟨rfl,⟨rfl,trivial⟩⟩) (fun e=>ok_slices_Concat_Lapi_Tape_api_Tape ([data1,blank2]:List (List Tape_api)) _ hr6) ?_
 obtain ⟨r7,hr7,hX⟩:=bind_some hX
 refine TL.cvX rfl rfl rfl (fun _=>⟨rfl,⟨rfl,trivial⟩⟩) (fun e=>ok_group_labels r6 _ hr7) ?_
 refine P1 (p_bld (l:=Enc.cl ((Seal_api.mk number3 (0:Int) (data1.length:Int) (blank2.length:Int) r7):Seal_api)) ty38 rfl all38 rfl (fun _=>⟨⟨rfl,trivial,rfl⟩,⟨rfl,trivial,rfl⟩,⟨rfl,trivial,rfl⟩,⟨rfl,trivial,rfl⟩,trivial⟩)) rfl rfl ?_
 refine TLc.alO (l:=[Enc.v ((0:Int):Int),Enc.v ((0:Int):Int),Enc.v ((0:Int):Int),Enc.v ((0:Int):Int),.nils]) nd ty38 ti38_z rfl rfl fun b8 nd=>?_
 refine TLc.stV (lu:=Enc.cl ((Seal_api.mk number3 (0:Int) (data1.length:Int) (blank2.length:Int) r7):Seal_api)) nd ty38 rfl (j:=0) rfl rfl rfl (Cells_v ((Seal_api.mk number3 (0:Int) (data1.length:Int) (blank2.length:Int) r7):Seal_api)) rfl rfl [Enc.v ((Seal_api.mk number3 (0:Int) (data1.length:Int) (blank2.length:Int) r7).Number:Int),Enc.v ((Seal_api.mk number3 (0:Int) (data1.length:Int) (blank2.length:Int) r7).Index:Int),Enc.v ((Seal_api.mk number3 (0:Int) (data1.length:Int) (blank2.length:Int) r7).Data:Int),Enc.v ((Seal_api.mk number3 (0:Int) (data1.length:Int) (blank2.length:Int) r7).Parity:Int),Enc.v ((Seal_api.mk number3 (0:Int) (data1.length:Int) (blank2.length:Int) r7).Labels:(List Int))] rfl fun nd=>?_
 refine TL.nil (hK5 _ _ ?_)
 refine TK.seq_k fun K9 hK9=>?_
 refine SR fun K10 hK10=>M rfl rfl (M rfl rfl (P1 (p_ldVa (l':=Enc.cl ((Seal_api.mk number3 (0:Int) (data1.length:Int) (blank2.length:Int) r7):Seal_api)) ty38 rfl rfl nd (j:=0) rfl rfl rfl rfl (Nat.le_of_ble_eq_true rfl)) rfl rfl ?_))
 obtain ⟨r11,hr11,hX⟩:=bind_some hX
 refine TL.cvX rfl rfl rfl (fun _=>⟨rfl,⟨rfl,⟨rfl,⟨rfl,trivial⟩⟩⟩⟩) (fun e=>ok_group_check data1 blank2 (Seal_api.mk number3 (0:Int) (data1.length:Int) (blank2.length:Int) r7) _ hr11) ?_
 refine M rfl rfl (TL.nil (hK10 _ _ (SR fun K12 hK12=>M rfl rfl (P1 (p_neq rfl rfl) rfl rfl (TL.nil (hK12 _ _ ?_))))))
 refine TK.cond (b:=(r11 !=(0:Int))) rfl (fun hc=>?_) (fun hc=>?_)
 ·have hX:=ite_t hc hX
  refine SR fun K13 hK13=>M rfl rfl (M rfl rfl (M rfl rfl (TL.nil (hK13 _ _ ?_))))
  refine TK.wk 6 (L ([]:(List Tape_api))) rfl Wk_nil ?_
  refine TK.ret ?_
  try dsimp only[thenQ]
  exact retN (vs:=[Enc.v (([]:(List Tape_api)):(List Tape_api)),Enc.v r11]) ⟨rfl,rfl,trivial⟩ (by obtain rfl:=some_in hX;rfl) (allVal.mem ⟨v_val _,v_val _,trivial⟩)
 ·have hX:=ite_f hc hX
  refine TK.skip ?_
  refine hK9 _ _ (SR fun K14 hK14=>M rfl rfl (M rfl rfl (P1 (p_lenL (xs:=blank2) kd22 rfl) rfl rfl ?_)))
  obtain ⟨r15,hr15,hX⟩:=bind_some hX
  refine TL.cvX rfl rfl rfl (fun _=>⟨rfl,⟨rfl,⟨rfl,trivial⟩⟩⟩) (fun e=>ok_stripe_Parity data1 (blank2.length:Int) _ hr15) ?_
  refine M rfl rfl (P1 (p_ex rfl rfl Dc) rfl rfl (P1 (p_ex rfl rfl Dc) rfl rfl (M rfl rfl (M rfl rfl (TL.nil (hK14 _ _ ?_))))))
  refine TK.seq_k fun K16 hK16=>?_
  refine SR fun K17 hK17=>M rfl rfl (P1 (p_neq rfl rfl) rfl rfl (TL.nil (hK17 _ _ ?_)))
  refine TK.cond (b:=(r15.2 !=(0:Int))) rfl (fun hc=>?_) (fun hc=>?_)
  ·have hX:=ite_t hc hX
   refine SR fun K18 hK18=>M rfl rfl (M rfl rfl (M rfl rfl (TL.nil (hK18 _ _ ?_))))
   refine TK.wk 6 (L ([]:(List Tape_api))) rfl Wk_nil ?_
   refine TK.ret ?_
   try dsimp only[thenQ]
   exact retN (vs:=[Enc.v (([]:(List Tape_api)):(List Tape_api)),Enc.v r15.2]) ⟨rfl,rfl,trivial⟩ (by obtain rfl:=some_in hX;rfl) (allVal.mem ⟨v_val _,v_val _,trivial⟩)
  ·have hX:=ite_f hc hX
   refine TK.skip ?_
   refine hK16 _ _ (SR fun K19 hK19=>M rfl rfl (TL.nil (hK19 _ _ ?_)))
   refine TK.ownL (α:=Tape_api) 12 49 nd rfl (.inl rfl) fun b20 nd=>?_
   refine TK.seq_k fun K21 hK21=>?_
   refine SR fun K22 hK22=>M rfl rfl (P1 (p_lenL (xs:=blank2) kd22 rfl) rfl rfl (M rfl rfl (TL.nil (hK22 _ _ ?_))))
   refine TK.block ?_
   obtain ⟨o23,hO23,hA23⟩:=bind_some hX
   have E23:∀(l34:List Tape_api) (env:Env) (h:Hp),(∃b33,keepE [12] env=[(12,true,OL b33 l34)]∧Nd [(b33,RL (α:=Tape_api) 49 l34)]∧HSub [(b33,RL (α:=Tape_api) 49 l34)] h)→X.group_Make_e23 l34=some r→K21 env h:=by
    intro l34 env h hE hX
    obtain ⟨b33,henv,nd,hs⟩:=hE
    unfold X.group_Make_e23 at hX
    refine hK21 _ _ (TK.keep [12] ?_)
    rw[henv]
    refine TK.subH hs ?_
    refine SR fun K35 hK35=>M rfl rfl (M rfl rfl (M rfl rfl (TL.nil (hK35 _ _ ?_))))
    refine TK.lay [(6,L l34)] nd (j:=0) rfl ⟨⟨_,rfl,fix_OL nd (j:=0) rfl,rfl⟩,trivial⟩ fun nd=>?_
    refine TK.ret ?_
    try dsimp only[thenQ]
    exact retN (vs:=[Enc.v l34,Enc.v ((0:Int):Int)]) ⟨rfl,rfl,trivial⟩ (by obtain rfl:=some_in hX;rfl) (allVal.mem ⟨v_val _,v_val _,trivial⟩)
   refine TK.iter [0,8,10,12,45,46,47] (fun s env h=>match s with|(c25,c26,c27,c28,c29,out31,x32)=>∃b24 b30,env=[(0,true,Enc.v data1),(8,true,.ref b24 0 5),(10,true,Enc.v (r15.1:(List (List (List UInt8))))),(12,true,OL b30 out31),(45,true,Enc.v blank2),(46,true,Enc.v ((blank2.length:Int):Int)),(47,true,Enc.v x32)]∧Nd [(b24,RV 38 [Enc.v c25,Enc.v c26,Enc.v c27,Enc.v c28,Enc.v c29]),(b30,RL (α:=Tape_api) 49 out31)]∧HSub [(b24,RV 38 [Enc.v c25,Enc.v c26,Enc.v c27,Enc.v c28,Enc.v c29]),(b30,RL (α:=Tape_api) 49 out31)] h) hO23 ⟨b8,b20,rfl,(Nd.pick nd (is:=[1,0]) Dc),(HSub.pick nd (is:=[1,0]) Dc)⟩ ?_
   rintro ⟨c25,c26,c27,c28,c29,out31,x32⟩ env h x23x ⟨b24,b30,rfl,nd,hs⟩ hX hR23
   refine TK.subH hs ?_
   unfold X.group_Make_s23 at hX
   try dsimp only at hX
   refine SR fun K36 hK36=>P1 (p_lss rfl rfl) rfl rfl (TL.nil (hK36 _ _ ?_))
   refine TK.seq_k fun K37 hK37=>?_
   refine TK.cond (b:=(decide (x32<(blank2.length:Int)))) rfl (fun hc=>?_) (fun hc=>?_)
   ·have hX:=ite_t hc hX
    refine TK.skip ?_
    refine hK37 _ _ ?_
    refine TK.seq_k fun K38 hK38=>?_
    refine TK.block ?_
    refine SR fun K39 hK39=>M rfl rfl ?_
    obtain ⟨e40,he40,hX⟩:=bind_some hX
    refine P1 (p_iaL (xs:=blank2) kd22 ty49 rfl rfl rfl (fun _=>he40)) rfl rfl (P1 (p_ldE (xs:=blank2) (a:=e40) (e40:Tape_api) ty49 rfl rfl (fun _=>he40) rfl rfl rfl) rfl rfl ?_)
    refine TLc.alO (l:=[Enc.v ((0:Int):Int),Enc.v ((0:Int):Int),.nils,Enc.v false]) nd ty49 ti49_z rfl rfl fun b41 nd=>?_
    refine M rfl rfl ?_
    refine TLc.stV (lu:=Enc.cl (e40:Tape_api)) nd ty49 rfl (j:=0) rfl rfl rfl (Cells_v (e40:Tape_api)) rfl rfl [Enc.v e40.Label,Enc.v e40.Cap,Enc.v e40.Blocks,Enc.v e40.Lost] rfl fun nd=>?_
    refine TL.nil (hK39 _ _ (SR fun K42 hK42=>M rfl rfl (P1 (p_lenL (xs:=data1) kd22 rfl) rfl rfl (M rfl rfl (P1 (p_add rfl rfl) rfl rfl (P1 (p_faV fs38_1 Dc rfl nd (j:=1) rfl rfl) rfl rfl ?_))))))
    refine TLc.stV (lu:=Enc.cl ((wr ((data1.length:Int)+x32)):Int)) nd ty3 rfl (j:=1) rfl rfl rfl (Cells_v ((wr ((data1.length:Int)+x32)):Int)) rfl rfl [Enc.v c25,Enc.v ((wr ((data1.length:Int)+x32)):Int),Enc.v c27,Enc.v c28,Enc.v c29] rfl fun nd=>?_
    refine TL.nil (hK42 _ _ ?_)
    refine TK.seq_k fun K43 hK43=>?_
    have ndS:Nd [(b41,RV 49 [Enc.v e40.Label,Enc.v e40.Cap,Enc.v e40.Blocks,Enc.v e40.Lost]),(b24,RV 38 [Enc.v c25,Enc.v ((wr ((data1.length:Int)+x32)):Int),Enc.v c27,Enc.v c28,Enc.v c29]),(b30,RL (α:=Tape_api) 49 out31)]:=Nd.pick nd (is:=[0,1,2]) Dc
    refine TK.drwX (h:=[]) (hS:=[(b41,RV 49 [Enc.v e40.Label,Enc.v e40.Cap,Enc.v e40.Blocks,Enc.v e40.Lost]),(b24,RV 38 [Enc.v c25,Enc.v ((wr ((data1.length:Int)+x32)):Int),Enc.v c27,Enc.v c28,Enc.v c29]),(b30,RL (α:=Tape_api) 49 out31)]) [(0,0),(0,1),(0,2),(0,3),(0,4),(0,5),(0,6),(0,7),(0,8),(0,9),(2,10),(2,11),(0,12)] mixed (by kernel_rfl) (HSub_app nd) ?_
    refine D0 rfl (p_ldVa (l':=Enc.cl (e40:Tape_api)) ty49 rfl rfl ndS (j:=0) rfl rfl rfl rfl (Nat.le_of_ble_eq_true rfl)) rfl rfl ?_
    refine D0 rfl (p_ldVa (l':=Enc.cl ((Seal_api.mk c25 (wr ((data1.length:Int)+x32)) c27 c28 c29):Seal_api)) ty38 rfl rfl ndS (j:=1) rfl rfl rfl rfl (Nat.le_of_ble_eq_true rfl)) rfl rfl ?_
    refine DM rfl rfl rfl ?_
    refine DM rfl rfl rfl ?_
    obtain ⟨e44,he44,hX⟩:=bind_some hX
    refine D0 rfl (p_iaL (xs:=r15.1) kd54 ty47 rfl rfl rfl (fun _=>he44)) rfl rfl ?_
    refine D0 rfl (p_ldE (xs:=r15.1) (a:=e44) (e44:(List (List UInt8))) ty47 rfl rfl (fun _=>he44) rfl rfl rfl) rfl rfl ?_
    obtain ⟨r45,hr45,hX⟩:=bind_some hX
    refine DR0 (gc:=true) rfl (vok_c rfl (fun _=>⟨rfl,⟨rfl,⟨rfl,⟨rfl,trivial⟩⟩⟩⟩) (fun e=>ok_group_tape e40 (Seal_api.mk c25 (wr ((data1.length:Int)+x32)) c27 c28 c29) e44 _ hr45)) rfl rfl ?_
    refine DM rfl rfl rfl ?_
    refine D0 rfl (p_ex rfl rfl Dc) rfl rfl ?_
    refine D0 rfl (p_ex rfl rfl Dc) rfl rfl ?_
    refine DR2 rfl rfl ?_
    refine TLc.alO (l:=[Enc.v ((0:Int):Int),Enc.v ((0:Int):Int),.nils,Enc.v false]) nd ty49 ti49_z rfl rfl fun b46 nd=>?_
    refine TL.nil ⟨_,[(b46,RV 49 [Enc.v ((0:Int):Int),Enc.v ((0:Int):Int),.nils,Enc.v false])],rfl,rfl,HSub_app nd,?_⟩
    refine DR2n rfl ?_
    refine TLc.stV (lu:=Enc.cl (r45.1:Tape_api)) nd ty49 rfl (j:=0) rfl rfl rfl (Cells_v (r45.1:Tape_api)) rfl rfl [Enc.v r45.1.Label,Enc.v r45.1.Cap,Enc.v r45.1.Blocks,Enc.v r45.1.Lost] rfl fun nd=>?_
    refine TL.nil ⟨.nilp,[(b46,RV 49 [Enc.v r45.1.Label,Enc.v r45.1.Cap,Enc.v r45.1.Blocks,Enc.v r45.1.Lost])],rfl,rfl,HSub_app nd,?_⟩
    refine DM rfl rfl rfl ?_
    refine DRend ?_
    refine hK43 _ _ ?_
    refine TK.seq_k fun K47 hK47=>?_
    refine SR fun K48 hK48=>M rfl rfl (P1 (p_neq rfl rfl) rfl rfl (TL.nil (hK48 _ _ ?_)))
    refine TK.cond (b:=(r45.2 !=(0:Int))) rfl (fun hc=>?_) (fun hc=>?_)
    ·have hX:=ite_t hc hX
     refine SR fun K49 hK49=>M rfl rfl (M rfl rfl (M rfl rfl (TL.nil (hK49 _ _ ?_))))
     refine TK.wk 6 (L ([]:(List Tape_api))) rfl Wk_nil ?_
     refine TK.ret ?_
     obtain rfl:=hR23 _ (some_in hX).symm
     replace hX:=hA23
     try dsimp only[thenQ]
     exact retN (vs:=[Enc.v (([]:(List Tape_api)):(List Tape_api)),Enc.v r45.2]) ⟨rfl,rfl,trivial⟩ (by obtain rfl:=some_in hX;rfl) (allVal.mem ⟨v_val _,v_val _,trivial⟩)
    ·have hX:=ite_f hc hX
     refine TK.skip ?_
     refine hK47 _ _ ?_
     refine TK.reg ?_
     refine M rfl rfl (P1 (p_ldVa (l':=Enc.cl (r45.1:Tape_api)) ty49 rfl rfl nd (j:=0) rfl rfl rfl rfl (Nat.le_of_ble_eq_true rfl)) rfl rfl ?_)
     refine TLc.lit ([r45.1]:List Tape_api) kd22 ty49 rfl ⟨⟨rfl,rfl⟩,trivial⟩ rfl rfl rfl ?_
     obtain ⟨u50,hu50,hX⟩:=bind_some hX
     refine TLc.appO nd kd22 bo22 ty49 rfl rfl (j:=3) rfl rfl (Src_L _) Dc (need_t hu50) rfl fun nd=>?_
     refine M rfl rfl (TL.nil (hK38 _ _ ?_))
     refine TK.reg ?_
     refine P1 (p_add rfl rfl) rfl rfl (M rfl rfl (TL.nil ?_))
     exact ⟨_,(some_in hX).symm,b24,b30,rfl,(Nd.pick nd (is:=[2,3]) Dc),(HSub.pick nd (is:=[2,3]) Dc)⟩
   ·have hX:=ite_f hc hX
    refine TK.exit ?_
    obtain rfl:=hR23 _ (some_in hX).symm
    exact E23 out31 _ _ ⟨b30,rfl,(Nd.pick nd (is:=[1]) Dc),(HSub.pick nd (is:=[1]) Dc)⟩ hA23
theorem ok_code_Reader_Left (b1:(List UInt8)) (bad2:Bool) (r:Int) (hX:X.code_Reader_Left b1 bad2=some r):Fun Tryz.prog 94 [.vref (ofL [Enc.v (b1:(List UInt8)),Enc.v (bad2:Bool)]) 2 0] (·=Enc.v (r:Int)):=by
 refine Fun.of b94 (Nat.le_of_ble_eq_true rfl) (allVal.mem ⟨(by exact (vref_val (l:=[Enc.v (b1:(List UInt8)),Enc.v (bad2:Bool)]) rfl ⟨(v_val _),(v_val _),trivial⟩)),trivial⟩) ?_
 unfold k94
 have nd:Nd []:=Nd_nil
 unfold X.code_Reader_Left at hX
 refine SR fun K3 hK3=>M rfl rfl (TL.nil (hK3 _ _ ?_))
 refine TK.seq_k fun K4 hK4=>?_
 refine SR fun K5 hK5=>M rfl rfl (P1 (p_eqV kd132 rfl rfl) rfl rfl (TL.nil (hK5 _ _ ?_)))
 refine TK.cond (b:=false) rfl (fun hc=>by simp at hc) (fun _=>?_)
 refine TK.skip ?_
 refine hK4 _ _ (SR fun K6 hK6=>M rfl rfl (P1 (p_ncV rfl) rfl rfl (P1 (p_faR fs154_0 Dc rfl) rfl rfl (P1 (p_ldR (v:=Enc.v b1) ty42 rfl rfl rfl rfl rfl rfl) rfl rfl (P1 (p_lenL (xs:=b1) kd42 rfl) rfl rfl (M rfl rfl (TL.nil (hK6 _ _ ?_))))))))
 refine TK.ret ?_
 try dsimp only[thenQ]
 exact R1 rfl hX
theorem bc_record_ReadSeal:BodyC cx 62 47 [.c 2 38,.t 3] k62:=⟨Enters.of Tryz.func62 (by kernel_rfl) (by kernel_rfl),_,_,Tryz.func62,rfl,by kernel_rfl,rfl,rfl⟩
theorem ok_record_ReadSeal (b1:(List UInt8)) (r:(Seal_api×Int)) (hX:X.record_ReadSeal b1=some r):Fun Tryz.prog 62 [Enc.v (b1:(List UInt8))] (·= .tup 2 (ofL [Enc.v r.1,Enc.v r.2])):=by
 refine Fun.ofC (C:=cx) bc_record_ReadSeal (Nat.le_of_ble_eq_true rfl) (allVal.mem ⟨(by exact (v_val _)),trivial⟩) ?_
 unfold k62
 have nd:Nd []:=Nd_nil
 unfold X.record_ReadSeal at hX
 refine SR fun K2 hK2=>?_
 refine TLc.alO (l:=[Enc.v ((0:Int):Int),Enc.v ((0:Int):Int),Enc.v ((0:Int):Int),Enc.v ((0:Int):Int),.nils]) nd ty38 ti38_z rfl rfl fun b3 nd=>?_
 refine M rfl rfl (TL.nil (hK2 _ _ ?_))
 refine TK.ownC (α:=Int) nd (j:=0) rfl 4 3 (.inl rfl) fun b4 nd=>?_
 refine SR fun K5 hK5=>M rfl rfl ?_
 obtain ⟨r6,hr6,hX⟩:=bind_some hX
 refine TL.tcX [] [(b4,RL (α:=Int) 3 ([]:List Int)),(b3,RV 38 [Enc.v ((0:Int):Int),Enc.v ((0:Int):Int),Enc.v ((0:Int):Int),Enc.v ((0:Int):Int),OL (α:=Int) b4 ([]:List Int)])] rfl nd (dlt rfl) rfl ⟨rfl,⟨rfl,trivial⟩⟩ (ok_code_NewReader b1 (Nd.take nd 0 rfl) _ hr6) ?_
 rintro _ _ hQ nd
 obtain ⟨b7,rfl,rfl⟩:=hQ
 refine M rfl rfl (TL.nil (hK5 _ _ (SR fun K8 hK8=>M rfl rfl ?_)))
 obtain ⟨r9,hr9,hX⟩:=bind_some hX
 refine TL.tcX [(b7,RV 154 [Enc.v r6.1,Enc.v r6.2])] [(b4,RL (α:=Int) 3 ([]:List Int)),(b3,RV 38 [Enc.v ((0:Int):Int),Enc.v ((0:Int):Int),Enc.v ((0:Int):Int),Enc.v ((0:Int):Int),OL (α:=Int) b4 ([]:List Int)])] rfl nd (dlt rfl) rfl ⟨rfl,⟨rfl,trivial⟩⟩ (ok_code_Reader_Int r6.1 r6.2 b7 (Nd.take nd 1 rfl) _ hr9) ?_
 rintro _ _ hQ nd
 obtain ⟨rfl,rfl⟩:=hQ
 refine P1 (p_bld (l:=[Enc.v r9.1,Enc.v ((0:Int):Int),Enc.v ((0:Int):Int),Enc.v ((0:Int):Int),.nils]) ty38 rfl all38 rfl (fun _=>⟨⟨rfl,trivial,rfl⟩,trivial⟩)) rfl rfl ?_
 refine TLc.alO (l:=[Enc.v ((0:Int):Int),Enc.v ((0:Int):Int),Enc.v ((0:Int):Int),Enc.v ((0:Int):Int),.nils]) nd ty38 ti38_z rfl rfl fun b11 nd=>?_
 refine TLc.stV (lu:=[Enc.v r9.1,Enc.v ((0:Int):Int),Enc.v ((0:Int):Int),Enc.v ((0:Int):Int),.nils]) nd ty38 rfl (j:=0) rfl rfl rfl (Cells_agg rfl (allA.mem ⟨trivial,trivial,trivial,trivial,trivial,trivial⟩)) rfl rfl [Enc.v r9.1,Enc.v ((0:Int):Int),Enc.v ((0:Int):Int),Enc.v ((0:Int):Int),.nils] rfl fun nd=>?_
 refine TL.nil (hK8 _ _ ?_)
 refine TK.ownC (α:=Int) nd (j:=0) rfl 4 3 (.inl rfl) fun b12 nd=>?_
 refine TK.seq_k fun K13 hK13=>?_
 refine SR fun K14 hK14=>P1 (p_faV fs38_1 Dc rfl nd (j:=1) rfl rfl) rfl rfl (P1 (p_faV fs38_2 Dc rfl nd (j:=1) rfl rfl) rfl rfl (P1 (p_faV fs38_3 Dc rfl nd (j:=1) rfl rfl) rfl rfl ?_))
 refine TLc.litR [.ref b11 1 5,.ref b11 2 5,.ref b11 3 5] kd135 ty134 rfl ⟨⟨rfl,rfl,refOK_of nd (j:=1) rfl rfl⟩,⟨rfl,rfl,refOK_of nd (j:=1) rfl rfl⟩,⟨rfl,rfl,refOK_of nd (j:=1) rfl rfl⟩,trivial⟩ rfl rfl rfl ?_
 refine P1 (p_lenR' kd135 rfl) rfl rfl (M rfl rfl (TL.nil (hK14 _ _ ?_)))
 refine TK.block ?_
 refine TK.unroll 16 ?_
 refine unr_s ?_
 refine SR fun K16 hK16=>P1 (p_lss rfl rfl) rfl rfl (TL.nil (hK16 _ _ ?_))
 refine TK.seq_k fun K17 hK17=>?_
 refine TK.cond (b:=true) rfl (fun _=>?_) (fun hc=>by simp at hc)
 refine TK.skip ?_
 refine hK17 _ _ ?_
 refine TK.seq_k fun K18 hK18=>?_
 refine TK.block ?_
 refine SR fun K19 hK19=>P1 (p_iaR kd135 ty134 rfl rfl rfl Dc Dc) rfl rfl (P1 (p_ldR (v:= .ref b11 1 5) ty134 rfl rfl rfl rfl rfl rfl) rfl rfl (M rfl rfl (TL.nil (hK19 _ _ ?_))))
 refine TK.reg ?_
 refine M rfl rfl (M rfl rfl ?_)
 obtain ⟨r20,hr20,hX⟩:=bind_some hX
 refine TL.pick [2,0,1,3,4] nd Dc fun nd=>?_
 refine TL.tcX [(b7,RV 154 [Enc.v r9.2.1,Enc.v r9.2.2])] [(b12,RL (α:=Int) 3 ([]:List Int)),(b11,RV 38 [Enc.v r9.1,Enc.v ((0:Int):Int),Enc.v ((0:Int):Int),Enc.v ((0:Int):Int),OL (α:=Int) b12 ([]:List Int)]),(b4,RL (α:=Int) 3 ([]:List Int)),(b3,RV 38 [Enc.v ((0:Int):Int),Enc.v ((0:Int):Int),Enc.v ((0:Int):Int),Enc.v ((0:Int):Int),OL (α:=Int) b4 ([]:List Int)])] rfl nd (dlt rfl) rfl ⟨rfl,⟨rfl,trivial⟩⟩ (ok_code_Reader_Byte r9.2.1 r9.2.2 b7 (Nd.take nd 1 rfl) _ hr20) ?_
 rintro _ _ hQ nd
 obtain ⟨rfl,rfl⟩:=hQ
 refine P1 (p_cvt src5 kd3 rfl (cv_8 r20.1)) rfl rfl (P1 (p_ncR rfl (fun _=>refOK_of nd (j:=2) rfl rfl)) rfl rfl ?_)
 refine TLc.stV (lu:=Enc.cl ((r20.1.toNat:Int):Int)) nd ty3 rfl (j:=2) rfl rfl rfl (Cells_v ((r20.1.toNat:Int):Int)) rfl rfl [Enc.v r9.1,Enc.v ((r20.1.toNat:Int):Int),Enc.v ((0:Int):Int),Enc.v ((0:Int):Int),OL (α:=Int) b12 ([]:List Int)] rfl fun nd=>?_
 refine TL.nil (hK18 _ _ ?_)
 refine TK.reg ?_
 refine P1 (p_add rfl rfl) rfl rfl (M rfl rfl (TL.nil ?_))
 try dsimp only[thenQ]
 refine unr_s ?_
 refine SR fun K22 hK22=>P1 (p_lss rfl rfl) rfl rfl (TL.nil (hK22 _ _ ?_))
 refine TK.seq_k fun K23 hK23=>?_
 refine TK.cond (b:=true) rfl (fun _=>?_) (fun hc=>by simp at hc)
 refine TK.skip ?_
 refine hK23 _ _ ?_
 refine TK.seq_k fun K24 hK24=>?_
 refine TK.block ?_
 refine SR fun K25 hK25=>P1 (p_iaR kd135 ty134 rfl rfl rfl Dc Dc) rfl rfl (P1 (p_ldR (v:= .ref b11 2 5) ty134 rfl rfl rfl rfl rfl rfl) rfl rfl (M rfl rfl (TL.nil (hK25 _ _ ?_))))
 refine TK.reg ?_
 refine M rfl rfl (M rfl rfl ?_)
 obtain ⟨r26,hr26,hX⟩:=bind_some hX
 refine TL.tcX [(b7,RV 154 [Enc.v r20.2.1,Enc.v r20.2.2])] [(b12,RL (α:=Int) 3 ([]:List Int)),(b11,RV 38 [Enc.v r9.1,Enc.v ((r20.1.toNat:Int):Int),Enc.v ((0:Int):Int),Enc.v ((0:Int):Int),OL (α:=Int) b12 ([]:List Int)]),(b4,RL (α:=Int) 3 ([]:List Int)),(b3,RV 38 [Enc.v ((0:Int):Int),Enc.v ((0:Int):Int),Enc.v ((0:Int):Int),Enc.v ((0:Int):Int),OL (α:=Int) b4 ([]:List Int)])] rfl nd (dlt rfl) rfl ⟨rfl,⟨rfl,trivial⟩⟩ (ok_code_Reader_Byte r20.2.1 r20.2.2 b7 (Nd.take nd 1 rfl) _ hr26) ?_
 rintro _ _ hQ nd
 obtain ⟨rfl,rfl⟩:=hQ
 refine P1 (p_cvt src5 kd3 rfl (cv_8 r26.1)) rfl rfl (P1 (p_ncR rfl (fun _=>refOK_of nd (j:=2) rfl rfl)) rfl rfl ?_)
 refine TLc.stV (lu:=Enc.cl ((r26.1.toNat:Int):Int)) nd ty3 rfl (j:=2) rfl rfl rfl (Cells_v ((r26.1.toNat:Int):Int)) rfl rfl [Enc.v r9.1,Enc.v ((r20.1.toNat:Int):Int),Enc.v ((r26.1.toNat:Int):Int),Enc.v ((0:Int):Int),OL (α:=Int) b12 ([]:List Int)] rfl fun nd=>?_
 refine TL.nil (hK24 _ _ ?_)
 refine TK.reg ?_
 refine P1 (p_add rfl rfl) rfl rfl (M rfl rfl (TL.nil ?_))
 try dsimp only[thenQ]
 refine unr_s ?_
 refine SR fun K28 hK28=>P1 (p_lss rfl rfl) rfl rfl (TL.nil (hK28 _ _ ?_))
 refine TK.seq_k fun K29 hK29=>?_
 refine TK.cond (b:=true) rfl (fun _=>?_) (fun hc=>by simp at hc)
 refine TK.skip ?_
 refine hK29 _ _ ?_
 refine TK.seq_k fun K30 hK30=>?_
 refine TK.block ?_
 refine SR fun K31 hK31=>P1 (p_iaR kd135 ty134 rfl rfl rfl Dc Dc) rfl rfl (P1 (p_ldR (v:= .ref b11 3 5) ty134 rfl rfl rfl rfl rfl rfl) rfl rfl (M rfl rfl (TL.nil (hK31 _ _ ?_))))
 refine TK.reg ?_
 refine M rfl rfl (M rfl rfl ?_)
 obtain ⟨r32,hr32,hX⟩:=bind_some hX
 refine TL.tcX [(b7,RV 154 [Enc.v r26.2.1,Enc.v r26.2.2])] [(b12,RL (α:=Int) 3 ([]:List Int)),(b11,RV 38 [Enc.v r9.1,Enc.v ((r20.1.toNat:Int):Int),Enc.v ((r26.1.toNat:Int):Int),Enc.v ((0:Int):Int),OL (α:=Int) b12 ([]:List Int)]),(b4,RL (α:=Int) 3 ([]:List Int)),(b3,RV 38 [Enc.v ((0:Int):Int),Enc.v ((0:Int):Int),Enc.v ((0:Int):Int),Enc.v ((0:Int):Int),OL (α:=Int) b4 ([]:List Int)])] rfl nd (dlt rfl) rfl ⟨rfl,⟨rfl,trivial⟩⟩ (ok_code_Reader_Byte r26.2.1 r26.2.2 b7 (Nd.take nd 1 rfl) _ hr32) ?_
 rintro _ _ hQ nd
 obtain ⟨rfl,rfl⟩:=hQ
 refine P1 (p_cvt src5 kd3 rfl (cv_8 r32.1)) rfl rfl (P1 (p_ncR rfl (fun _=>refOK_of nd (j:=2) rfl rfl)) rfl rfl ?_)
 refine TLc.stV (lu:=Enc.cl ((r32.1.toNat:Int):Int)) nd ty3 rfl (j:=2) rfl rfl rfl (Cells_v ((r32.1.toNat:Int):Int)) rfl rfl [Enc.v r9.1,Enc.v ((r20.1.toNat:Int):Int),Enc.v ((r26.1.toNat:Int):Int),Enc.v ((r32.1.toNat:Int):Int),OL (α:=Int) b12 ([]:List Int)] rfl fun nd=>?_
 refine TL.nil (hK30 _ _ ?_)
 refine TK.reg ?_
 refine P1 (p_add rfl rfl) rfl rfl (M rfl rfl (TL.nil ?_))
 try dsimp only[thenQ]
 refine unr_s ?_
 refine SR fun K34 hK34=>P1 (p_lss rfl rfl) rfl rfl (TL.nil (hK34 _ _ ?_))
 refine TK.seq_k fun K35 hK35=>?_
 refine TK.cond (b:=false) rfl (fun hc=>by simp at hc) (fun _=>?_)
 refine TK.exit ?_
 refine hK13 _ _ ?_
 refine TK.seq_k fun K36 hK36=>?_
 refine TK.block ?_
 obtain ⟨o37,hO37,hA37⟩:=bind_some hX
 have E37:∀(c53:(List UInt8)) (c54:Bool) (c56:Int) (c57:Int) (c58:Int) (c59:Int) (l61:List Int) (env:Env) (h:Hp),(∃b51 b50 b52 b60 b55,keepE [2,4,5] env=[(2,true,.ref b50 0 5),(4,true,.ref b52 0 2),(5,true,.ref b55 0 5)]∧Nd [(b51,RL (α:=Int) 3 ([]:List Int)),(b50,RV 38 [Enc.v ((0:Int):Int),Enc.v ((0:Int):Int),Enc.v ((0:Int):Int),Enc.v ((0:Int):Int),OL (α:=Int) b51 ([]:List Int)]),(b52,RV 154 [Enc.v c53,Enc.v c54]),(b60,RL (α:=Int) 3 l61),(b55,RV 38 [Enc.v c56,Enc.v c57,Enc.v c58,Enc.v c59,OL b60 l61])]∧HSub [(b51,RL (α:=Int) 3 ([]:List Int)),(b50,RV 38 [Enc.v ((0:Int):Int),Enc.v ((0:Int):Int),Enc.v ((0:Int):Int),Enc.v ((0:Int):Int),OL (α:=Int) b51 ([]:List Int)]),(b52,RV 154 [Enc.v c53,Enc.v c54]),(b60,RL (α:=Int) 3 l61),(b55,RV 38 [Enc.v c56,Enc.v c57,Enc.v c58,Enc.v c59,OL b60 l61])] h)→X.record_ReadSeal_e37 c53 c54 c56 c57 c58 c59 l61=some r→K36 env h:=by
  intro c53 c54 c56 c57 c58 c59 l61 env h hE hX
  obtain ⟨b51,b50,b52,b60,b55,henv,nd,hs⟩:=hE
  unfold X.record_ReadSeal_e37 at hX
  refine hK36 _ _ (TK.keep [2,4,5] ?_)
  rw[henv]
  refine TK.subH hs ?_
  refine TK.seq_k fun K62 hK62=>?_
  refine SR fun K63 hK63=>M rfl rfl ?_
  obtain ⟨r64,hr64,hX⟩:=bind_some hX
  refine TL.lookX [.vref (ofL [Enc.v c53,Enc.v c54]) 2 0] rfl rfl rfl (fun _=>⟨rfl,⟨rfl,trivial⟩⟩) ⟨look_ref (l:=[Enc.v c53,Enc.v c54]) nd (j:=2) rfl ⟨look_v (v:=Enc.v c53) (v_val _),look_v (v:=Enc.v c54) (v_val _),trivial⟩,trivial⟩ (fun e=>ok_code_Reader_Bad c53 c54 _ hr64) (trivial) ?_
  refine M rfl rfl ?_
  refine TL.layR (l2':=[Enc.v c56,Enc.v c57,Enc.v c58,Enc.v c59,Enc.v l61]) [] nd (j:=3) rfl 4 rfl rfl ⟨fix_id _,fix_id _,fix_id _,fix_id _,fix_OL nd (j:=3) rfl,trivial⟩ trivial fun nd=>?_
  refine TLc.p (gc:=(!r64)) (p_ldVa (l':=Enc.cl ((Seal_api.mk c56 c57 c58 c59 l61):Seal_api)) ty38 rfl rfl nd (j:=3) rfl rfl rfl rfl (Nat.le_of_ble_eq_true rfl) (hg:=fun e=>rfl)) (gcF1 rfl) rfl ?_
  obtain ⟨r65,hr65,hX⟩:=bind_some hX
  refine TL.cvX (gcF1 rfl) rfl rfl (fun e=>⟨rfl,⟨e,trivial⟩⟩) (fun e=>ok_record_RightSeal (Seal_api.mk c56 c57 c58 c59 l61) _ (optG_t hr65 e)) ?_
  refine TLc.p (gc:=(!r64)) (p_not rfl (hg:=fun e=>e)) (gcF1 rfl) rfl ?_
  refine P1 (p_or rfl rfl (fun e=>⟨rfl,fun h=>(not_t h)⟩)) rfl rfl (TL.nil (hK63 _ _ ?_))
  refine TK.cond (b:=(r64||(!r65))) rfl (fun hc=>?_) (fun hc=>?_)
  ·have hX:=ite_t hc hX
   refine SR fun K66 hK66=>P1 (p_bld (l:=[Enc.v ((0:Int):Int),Enc.v ((0:Int):Int),Enc.v ((0:Int):Int),Enc.v ((0:Int):Int),.nils]) ty38 rfl all38 rfl (fun _=>trivial)) rfl rfl ?_
   refine TLc.stV (lu:=[Enc.v ((0:Int):Int),Enc.v ((0:Int):Int),Enc.v ((0:Int):Int),Enc.v ((0:Int):Int),.nils]) nd ty38 rfl (j:=1) rfl rfl rfl (Cells_agg rfl (allA.mem ⟨trivial,trivial,trivial,trivial,trivial,trivial⟩)) rfl rfl [Enc.v ((0:Int):Int),Enc.v ((0:Int):Int),Enc.v ((0:Int):Int),Enc.v ((0:Int):Int),.nils] rfl fun nd=>?_
   refine M rfl rfl (TL.nil (hK66 _ _ ?_))
   refine TK.ownC (α:=Int) nd (j:=1) rfl 4 3 (.inl rfl) fun b67 nd=>?_
   refine TK.layR (l2':=[Enc.v ((0:Int):Int),Enc.v ((0:Int):Int),Enc.v ((0:Int):Int),Enc.v ((0:Int):Int),Enc.v (([]:List Int):(List Int))]) [] nd (j:=0) rfl 2 rfl rfl ⟨fix_id _,fix_id _,fix_id _,fix_id _,fix_OL nd (j:=0) rfl,trivial⟩ trivial fun nd=>?_
   refine TK.ret ?_
   try dsimp only[thenQ]
   exact retC [Enc.v ((Seal_api.mk (0:Int) (0:Int) (0:Int) (0:Int) ([]:List Int)):Seal_api),Enc.v ((2:Int):Int)] ⟨p_ldVa (l':=Enc.cl ((Seal_api.mk (0:Int) (0:Int) (0:Int) (0:Int) ([]:List Int)):Seal_api)) ty38 rfl rfl nd (j:=1) rfl rfl rfl rfl (Nat.le_of_ble_eq_true rfl),p_mv rfl,trivial⟩ (by obtain rfl:=some_in hX;rfl) (tup_val (allVal.mem ⟨v_val _,v_val _,trivial⟩))
  ·have hX:=ite_f hc hX
   refine TK.skip ?_
   refine hK62 _ _ (SR fun K68 hK68=>P1 (p_ldVa (l':=Enc.cl ((Seal_api.mk c56 c57 c58 c59 l61):Seal_api)) ty38 rfl rfl nd (j:=3) rfl rfl rfl rfl (Nat.le_of_ble_eq_true rfl)) rfl rfl ?_)
   refine TLc.stV (lu:=Enc.cl ((Seal_api.mk c56 c57 c58 c59 l61):Seal_api)) nd ty38 rfl (j:=1) rfl rfl rfl (Cells_v ((Seal_api.mk c56 c57 c58 c59 l61):Seal_api)) rfl rfl [Enc.v ((Seal_api.mk c56 c57 c58 c59 l61).Number:Int),Enc.v ((Seal_api.mk c56 c57 c58 c59 l61).Index:Int),Enc.v ((Seal_api.mk c56 c57 c58 c59 l61).Data:Int),Enc.v ((Seal_api.mk c56 c57 c58 c59 l61).Parity:Int),Enc.v ((Seal_api.mk c56 c57 c58 c59 l61).Labels:(List Int))] rfl fun nd=>?_
   refine M rfl rfl (TL.nil (hK68 _ _ ?_))
   refine TK.ret ?_
   try dsimp only[thenQ]
   exact retC [Enc.v ((Seal_api.mk c56 c57 c58 c59 l61):Seal_api),Enc.v ((0:Int):Int)] ⟨p_ldVa (l':=Enc.cl ((Seal_api.mk c56 c57 c58 c59 l61):Seal_api)) ty38 rfl rfl nd (j:=1) rfl rfl rfl rfl (Nat.le_of_ble_eq_true rfl),p_mv rfl,trivial⟩ (by obtain rfl:=some_in hX;rfl) (tup_val (allVal.mem ⟨v_val _,v_val _,trivial⟩))
 refine TK.iter [2,4,5] (fun s env h=>match s with|(c41,c42,c44,c45,c46,c47,l49)=>∃b39 b38 b40 b48 b43,env=[(2,true,.ref b38 0 5),(4,true,.ref b40 0 2),(5,true,.ref b43 0 5)]∧Nd [(b39,RL (α:=Int) 3 ([]:List Int)),(b38,RV 38 [Enc.v ((0:Int):Int),Enc.v ((0:Int):Int),Enc.v ((0:Int):Int),Enc.v ((0:Int):Int),OL (α:=Int) b39 ([]:List Int)]),(b40,RV 154 [Enc.v c41,Enc.v c42]),(b48,RL (α:=Int) 3 l49),(b43,RV 38 [Enc.v c44,Enc.v c45,Enc.v c46,Enc.v c47,OL b48 l49])]∧HSub [(b39,RL (α:=Int) 3 ([]:List Int)),(b38,RV 38 [Enc.v ((0:Int):Int),Enc.v ((0:Int):Int),Enc.v ((0:Int):Int),Enc.v ((0:Int):Int),OL (α:=Int) b39 ([]:List Int)]),(b40,RV 154 [Enc.v c41,Enc.v c42]),(b48,RL (α:=Int) 3 l49),(b43,RV 38 [Enc.v c44,Enc.v c45,Enc.v c46,Enc.v c47,OL b48 l49])] h) hO37 ⟨b4,b3,b7,b12,b11,rfl,(Nd.pick nd (is:=[3,4,0,1,2]) Dc),(HSub.pick nd (is:=[3,4,0,1,2]) Dc)⟩ ?_
 rintro ⟨c41,c42,c44,c45,c46,c47,l49⟩ env h x37x ⟨b39,b38,b40,b48,b43,rfl,nd,hs⟩ hX hR37
 refine TK.subH hs ?_
 unfold X.record_ReadSeal_s37 at hX
 try dsimp only at hX
 refine TK.seq_k fun K69 hK69=>?_
 refine SR fun K70 hK70=>M rfl rfl ?_
 obtain ⟨r71,hr71,hX⟩:=bind_some hX
 refine TL.lookX [.vref (ofL [Enc.v c41,Enc.v c42]) 2 0] rfl rfl rfl (fun _=>⟨rfl,⟨rfl,trivial⟩⟩) ⟨look_ref (l:=[Enc.v c41,Enc.v c42]) nd (j:=2) rfl ⟨look_v (v:=Enc.v c41) (v_val _),look_v (v:=Enc.v c42) (v_val _),trivial⟩,trivial⟩ (fun e=>ok_code_Reader_Left c41 c42 _ hr71) (trivial) ?_
 refine P1 (p_gtr rfl rfl) rfl rfl (TL.nil (hK70 _ _ ?_))
 refine TK.cond (b:=(decide (r71>(0:Int)))) rfl (fun hc=>?_) (fun hc=>?_)
 ·have hX:=ite_t hc hX
  refine TK.skip ?_
  refine hK69 _ _ ?_
  refine TK.block ?_
  refine TK.pick [2,3,0,1,4] nd Dc fun nd=>?_
  have ndS:Nd [(b39,RL (α:=Int) 3 ([]:List Int)),(b38,RV 38 [Enc.v ((0:Int):Int),Enc.v ((0:Int):Int),Enc.v ((0:Int):Int),Enc.v ((0:Int):Int),OL (α:=Int) b39 ([]:List Int)]),(b43,RV 38 [Enc.v c44,Enc.v c45,Enc.v c46,Enc.v c47,OL b48 l49])]:=Nd.pick nd (is:=[2,3,4]) Dc
  refine TK.drwX (h:=[(b40,RV 154 [Enc.v c41,Enc.v c42]),(b48,RL (α:=Int) 3 l49)]) (hS:=[(b39,RL (α:=Int) 3 ([]:List Int)),(b38,RV 38 [Enc.v ((0:Int):Int),Enc.v ((0:Int):Int),Enc.v ((0:Int):Int),Enc.v ((0:Int):Int),OL (α:=Int) b39 ([]:List Int)]),(b43,RV 38 [Enc.v c44,Enc.v c45,Enc.v c46,Enc.v c47,OL b48 l49])]) [(0,0),(0,1),(0,2),(2,3),(0,4),(2,5),(0,6),(3,7)] mixed (by kernel_rfl) (HSub_app nd) ?_
  refine D0 rfl (p_faV fs38_4 Dc rfl ndS (j:=2) rfl rfl) rfl rfl ?_
  refine D0 rfl (p_ldV (v:=OL b48 l49) ty36 rfl rfl ndS (j:=2) rfl rfl rfl rfl rfl) rfl rfl ?_
  refine DM rfl rfl rfl ?_
  obtain ⟨r72,hr72,hX⟩:=bind_some hX
  refine DR2 rfl rfl ?_
  refine TL.tcX [(b40,RV 154 [Enc.v c41,Enc.v c42])] [(b48,RL (α:=Int) 3 l49),(b39,RL (α:=Int) 3 ([]:List Int)),(b38,RV 38 [Enc.v ((0:Int):Int),Enc.v ((0:Int):Int),Enc.v ((0:Int):Int),Enc.v ((0:Int):Int),OL (α:=Int) b39 ([]:List Int)]),(b43,RV 38 [Enc.v c44,Enc.v c45,Enc.v c46,Enc.v c47,OL b48 l49])] rfl nd (dlt rfl) rfl ⟨rfl,⟨rfl,trivial⟩⟩ (ok_code_Reader_Int c41 c42 b40 (Nd.take nd 1 rfl) _ hr72) ?_
  rintro _ _ hQ nd
  obtain ⟨rfl,rfl⟩:=hQ
  refine TL.nil ⟨_,[(b40,RV 154 [Enc.v r72.2.1,Enc.v r72.2.2]),(b48,RL (α:=Int) 3 l49)],rfl,rfl,HSub_app nd,?_⟩
  refine DR0 (gc:=true) rfl (vok_lit (C:=cx) ([r72.1]:List Int) kd36 ty3 rfl ⟨⟨rfl,rfl⟩,trivial⟩ rfl rfl) rfl rfl ?_
  obtain ⟨u74,hu74,hX⟩:=bind_some hX
  refine DR2 rfl rfl ?_
  refine TLc.appO nd kd36 bo36 ty3 rfl rfl (j:=1) rfl rfl (Src_L _) Dc (need_t hu74) rfl fun nd=>?_
  refine TL.nil ⟨_,[(b40,RV 154 [Enc.v r72.2.1,Enc.v r72.2.2]),(b48,RL (α:=Int) 3 (l49++([r72.1]:List Int)))],rfl,rfl,HSub_app nd,?_⟩
  refine D0 rfl (p_faV fs38_4 Dc rfl ndS (j:=2) rfl rfl) rfl rfl ?_
  refine DR3n rfl ?_
  refine TLc.stV (lu:=[OL (α:=Int) b48 (l49++([r72.1]:List Int))]) nd ty36 rfl (j:=4) rfl rfl rfl (Cells_rs (refOK_of nd (j:=1) rfl rfl)) rfl rfl [Enc.v c44,Enc.v c45,Enc.v c46,Enc.v c47,OL (α:=Int) b48 (l49++([r72.1]:List Int))] rfl fun nd=>?_
  refine TL.nil ⟨rfl,?_⟩
  refine DRende ?_
  exact ⟨_,(some_in hX).symm,b39,b38,b40,b48,b43,rfl,(Nd.pick nd (is:=[2,3,0,1,4]) Dc),(HSub.pick nd (is:=[2,3,0,1,4]) Dc)⟩
 ·have hX:=ite_f hc hX
  refine TK.exit ?_
  obtain rfl:=hR37 _ (some_in hX).symm
  exact E37 c41 c42 c44 c45 c46 c47 l49 _ _ ⟨b39,b38,b40,b48,b43,rfl,(Nd.pick nd (is:=[0,1,2,3,4]) Dc),(HSub.pick nd (is:=[0,1,2,3,4]) Dc)⟩ hA37
theorem bc_volume_Sealed:BodyC cx 30 34 [.c 2 38,.t 3] k30:=⟨Enters.of Tryz.func30 (by kernel_rfl) (by kernel_rfl),_,_,Tryz.func30,rfl,by kernel_rfl,rfl,rfl⟩
theorem ok_volume_Sealed (t1:Tape_api) (r:(Seal_api×Bool)) (hX:X.volume_Sealed t1=some r):Fun Tryz.prog 30 [Enc.v (t1:Tape_api)] (·= .tup 2 (ofL [Enc.v r.1,Enc.v r.2])):=by
 refine Fun.ofC (C:=cx) bc_volume_Sealed (Nat.le_of_ble_eq_true rfl) (allVal.mem ⟨(by exact (v_val _)),trivial⟩) ?_
 unfold k30
 have nd:Nd []:=Nd_nil
 unfold X.volume_Sealed at hX
 refine SR fun K2 hK2=>?_
 refine TLc.boxV (lu:=[Enc.v t1.Label,Enc.v t1.Cap,Enc.v t1.Blocks,Enc.v t1.Lost]) nd rfl (Cells_v (t1:Tape_api)) rfl ?_
 refine TLc.alO (l:=[Enc.v ((0:Int):Int),Enc.v ((0:Int):Int),Enc.v ((0:Int):Int),Enc.v ((0:Int):Int),.nils]) nd ty38 ti38_z rfl rfl fun b3 nd=>?_
 refine M rfl rfl (TL.nil (hK2 _ _ ?_))
 refine TK.cvR nd (j:=0) rfl (l':=[Enc.v ((0:Int):Int),Enc.v ((0:Int):Int),Enc.v ((0:Int):Int),Enc.v ((0:Int):Int),Enc.v (([]:(List Int)):(List Int))]) ⟨Wk.refl _,Wk.refl _,Wk.refl _,Wk.refl _,Wk_nil,trivial⟩ fun nd=>?_
 refine SR fun K4 hK4=>P1 (p_ldRa (l':=Enc.cl (t1:Tape_api)) ty49 rfl rfl rfl rfl rfl (Nat.le_of_ble_eq_true rfl)) rfl rfl (P1 (p_faR fs49_2 Dc rfl) rfl rfl (P1 (p_ldR (v:=Enc.v t1.Blocks) ty47 rfl rfl rfl rfl rfl rfl) rfl rfl (P1 (p_lenL (xs:=t1.Blocks) kd47 rfl) rfl rfl (P1 (p_sub rfl rfl) rfl rfl ?_))))
 obtain ⟨r5,hr5,hX⟩:=bind_some hX
 refine TL.cvX rfl rfl rfl (fun _=>⟨rfl,⟨rfl,⟨rfl,trivial⟩⟩⟩) (fun e=>ok_volume_Good t1 (wr ((t1.Blocks.length:Int)-(1:Int))) _ hr5) ?_
 refine M rfl rfl (P1 (p_ex rfl rfl Dc) rfl rfl (P1 (p_ex rfl rfl Dc) rfl rfl ?_))
 refine TLc.alO (l:=[Enc.v ((0:Int):Int),Enc.v ((0:Int):Int),Enc.v ((0:Int):Int),.nils]) nd ty46 ti46_z rfl rfl fun b6 nd=>?_
 refine TLc.stV (lu:=Enc.cl (r5.1:Unit_api)) nd ty46 rfl (j:=0) rfl rfl rfl (Cells_v (r5.1:Unit_api)) rfl rfl [Enc.v r5.1.Kind,Enc.v r5.1.Label,Enc.v r5.1.Number,Enc.v r5.1.Load] rfl fun nd=>?_
 refine M rfl rfl (TL.nil (hK4 _ _ ?_))
 refine TK.seq_k fun K7 hK7=>?_
 refine SR fun K8 hK8=>M rfl rfl (P1 (p_not rfl) rfl rfl (M rfl rfl ?_))
 refine TLc.p (gc:=(!((!r5.2)))) (p_faV fs46_0 Dc rfl nd (j:=0) rfl rfl (hg:=fun e=>rfl)) (gcF1 rfl) rfl ?_
 refine TLc.p (gc:=(!((!r5.2)))) (p_ldV (v:=Enc.v r5.1.Kind) ty3 rfl rfl nd (j:=0) rfl rfl rfl rfl rfl (hg:=fun e=>e)) (gcF1 rfl) rfl ?_
 refine TLc.p (gc:=(!((!r5.2)))) (p_neq rfl rfl (hg:=fun e=>⟨e,rfl⟩)) (gcF1 rfl) rfl ?_
 refine P1 (p_or rfl rfl (fun e=>⟨rfl,fun h=>(not_t h)⟩)) rfl rfl (TL.nil (hK8 _ _ ?_))
 refine TK.cond (b:=((!r5.2)||(r5.1.Kind !=(5:Int)))) rfl (fun hc=>?_) (fun hc=>?_)
 ·have hX:=ite_t hc hX
  refine SR fun K9 hK9=>?_
  refine TLc.p (gc:=true) (p_bld (l:=[Enc.v ((0:Int):Int),Enc.v ((0:Int):Int),Enc.v ((0:Int):Int),Enc.v ((0:Int):Int),.nils]) ty38 rfl all38 rfl (fun _=>trivial)) rfl rfl (TL.wk (v':=Enc.v ((Seal_api.mk (0:Int) (0:Int) (0:Int) (0:Int) ([]:(List Int))):Seal_api)) (Wk_agg ⟨Wk.refl _,Wk.refl _,Wk.refl _,Wk.refl _,Wk_nil,trivial⟩) ?_)
  refine TLc.stV (lu:=Enc.cl ((Seal_api.mk (0:Int) (0:Int) (0:Int) (0:Int) ([]:(List Int))):Seal_api)) nd ty38 rfl (j:=1) rfl rfl rfl (Cells_v ((Seal_api.mk (0:Int) (0:Int) (0:Int) (0:Int) ([]:(List Int))):Seal_api)) rfl rfl [Enc.v ((Seal_api.mk (0:Int) (0:Int) (0:Int) (0:Int) ([]:(List Int))).Number:Int),Enc.v ((Seal_api.mk (0:Int) (0:Int) (0:Int) (0:Int) ([]:(List Int))).Index:Int),Enc.v ((Seal_api.mk (0:Int) (0:Int) (0:Int) (0:Int) ([]:(List Int))).Data:Int),Enc.v ((Seal_api.mk (0:Int) (0:Int) (0:Int) (0:Int) ([]:(List Int))).Parity:Int),Enc.v ((Seal_api.mk (0:Int) (0:Int) (0:Int) (0:Int) ([]:(List Int))).Labels:(List Int))] rfl fun nd=>?_
  refine M rfl rfl (TL.nil (hK9 _ _ ?_))
  refine TK.ret ?_
  try dsimp only[thenQ]
  exact retC [Enc.v ((Seal_api.mk (0:Int) (0:Int) (0:Int) (0:Int) ([]:(List Int))):Seal_api),Enc.v false] ⟨p_ldVa (l':=Enc.cl ((Seal_api.mk (0:Int) (0:Int) (0:Int) (0:Int) ([]:(List Int))):Seal_api)) ty38 rfl rfl nd (j:=1) rfl rfl rfl rfl (Nat.le_of_ble_eq_true rfl),p_mv rfl,trivial⟩ (by obtain rfl:=some_in hX;rfl) (tup_val (allVal.mem ⟨v_val _,v_val _,trivial⟩))
 ·have hX:=ite_f hc hX
  refine TK.skip ?_
  refine hK7 _ _ (SR fun K10 hK10=>P1 (p_faV fs46_3 Dc rfl nd (j:=0) rfl rfl) rfl rfl (P1 (p_ldV (v:=Enc.v r5.1.Load) ty42 rfl rfl nd (j:=0) rfl rfl rfl rfl rfl) rfl rfl ?_))
  obtain ⟨r11,hr11,hX⟩:=bind_some hX
  refine TL.cvX rfl rfl rfl (fun _=>⟨rfl,⟨rfl,trivial⟩⟩) (fun e=>ok_record_ReadSeal r5.1.Load _ hr11) ?_
  refine M rfl rfl (P1 (p_ex rfl rfl Dc) rfl rfl (P1 (p_ex rfl rfl Dc) rfl rfl ?_))
  refine TLc.alO (l:=[Enc.v ((0:Int):Int),Enc.v ((0:Int):Int),Enc.v ((0:Int):Int),Enc.v ((0:Int):Int),.nils]) nd ty38 ti38_z rfl rfl fun b12 nd=>?_
  refine TLc.stV (lu:=Enc.cl (r11.1:Seal_api)) nd ty38 rfl (j:=0) rfl rfl rfl (Cells_v (r11.1:Seal_api)) rfl rfl [Enc.v r11.1.Number,Enc.v r11.1.Index,Enc.v r11.1.Data,Enc.v r11.1.Parity,Enc.v r11.1.Labels] rfl fun nd=>?_
  refine M rfl rfl (TL.nil (hK10 _ _ (SR fun K13 hK13=>P1 (p_ldVa (l':=Enc.cl (r11.1:Seal_api)) ty38 rfl rfl nd (j:=0) rfl rfl rfl rfl (Nat.le_of_ble_eq_true rfl)) rfl rfl (M rfl rfl (P1 (p_eql rfl rfl) rfl rfl ?_)))))
  refine TLc.stV (lu:=Enc.cl (r11.1:Seal_api)) nd ty38 rfl (j:=2) rfl rfl rfl (Cells_v (r11.1:Seal_api)) rfl rfl [Enc.v r11.1.Number,Enc.v r11.1.Index,Enc.v r11.1.Data,Enc.v r11.1.Parity,Enc.v r11.1.Labels] rfl fun nd=>?_
  refine M rfl rfl (TL.nil (hK13 _ _ ?_))
  refine TK.ret ?_
  try dsimp only[thenQ]
  exact retC [Enc.v r11.1,Enc.v ((r11.2==(0:Int)):Bool)] ⟨p_ldVa (l':=Enc.cl (r11.1:Seal_api)) ty38 rfl rfl nd (j:=2) rfl rfl rfl rfl (Nat.le_of_ble_eq_true rfl),p_mv rfl,trivial⟩ (by obtain rfl:=some_in hX;rfl) (tup_val (allVal.mem ⟨v_val _,v_val _,trivial⟩))
theorem ok_slices_IndexFunc_Lapi_Seal_api_Seal (s1:(List Seal_api)) (g2:Seal_api→Option Bool) (r:Int) (hX:X.slices_IndexFunc_Lapi_Seal_api_Seal s1 g2=some r) {g2V:AV} (hg2V:∃f m c,g2V= .fn f m c∧(∀i,i<m→(c i).val)∧∀(a0:Seal_api) r,g2 a0=some r→Fun Tryz.prog f ([Enc.v a0]++(List.range m).map c) (·=Enc.v r)):Fun Tryz.prog 63 [Enc.v (s1:(List Seal_api)),g2V] (·=Enc.v (r:Int)):=by
 obtain ⟨g2f,g2m,g2c,rfl,hg2v,hg2⟩:=hg2V
 refine Fun.of b63 (Nat.le_of_ble_eq_true rfl) (allVal.mem ⟨(by exact (v_val _)),hg2v,trivial⟩) ?_
 unfold k63
 have nd:Nd []:=Nd_nil
 unfold X.slices_IndexFunc_Lapi_Seal_api_Seal at hX
 refine SR fun K3 hK3=>M rfl rfl (TL.nil (hK3 _ _ ?_))
 refine TK.seq_k fun K4 hK4=>?_
 refine SR fun K5 hK5=>M rfl rfl (P1 (p_lenL (xs:=s1) kd33 rfl) rfl rfl (M rfl rfl (TL.nil (hK5 _ _ ?_))))
 refine TK.block ?_
 obtain ⟨o6,hO6,hA6⟩:=bind_some hX
 have E6:∀(env:Env) (h:Hp),(∃_u:Unit,keepE [] env=[]∧Nd []∧HSub [] h)→X.slices_IndexFunc_Lapi_Seal_api_Seal_e6=some r→K4 env h:=by
  intro env h hE hX
  obtain ⟨_u,henv,nd,hs⟩:=hE
  unfold X.slices_IndexFunc_Lapi_Seal_api_Seal_e6 at hX
  refine hK4 _ _ (TK.keep [] ?_)
  rw[henv]
  refine TK.subH hs ?_
  refine SR fun K8 hK8=>M rfl rfl (TL.nil (hK8 _ _ ?_))
  refine TK.ret ?_
  try dsimp only[thenQ]
  exact R1 rfl hX
 refine TK.iter [0,1,7,8] (fun s env h=>match s with|x7=>∃_u:Unit,env=[(0,true,Enc.v s1),(1,true,.fn g2f g2m g2c),(7,true,Enc.v ((s1.length:Int):Int)),(8,true,Enc.v x7)]∧Nd []∧HSub [] h) hO6 ⟨(),rfl,Nd_nil,HSub.refl _⟩ ?_
 rintro x7 env h x6x ⟨_u,rfl,nd,hs⟩ hX hR6
 refine TK.subH hs ?_
 unfold X.slices_IndexFunc_Lapi_Seal_api_Seal_s6 at hX
 try dsimp only at hX
 refine SR fun K9 hK9=>P1 (p_lss rfl rfl) rfl rfl (TL.nil (hK9 _ _ ?_))
 refine TK.seq_k fun K10 hK10=>?_
 refine TK.cond (b:=(decide (x7<(s1.length:Int)))) rfl (fun hc=>?_) (fun hc=>?_)
 ·have hX:=ite_t hc hX
  refine TK.skip ?_
  refine hK10 _ _ ?_
  refine TK.seq_k fun K11 hK11=>?_
  refine TK.block ?_
  refine SR fun K12 hK12=>M rfl rfl (M rfl rfl (TL.nil (hK12 _ _ (SR fun K13 hK13=>M rfl rfl (M rfl rfl (M rfl rfl ?_))))))
  obtain ⟨e14,he14,hX⟩:=bind_some hX
  refine P1 (p_iaL (xs:=s1) kd33 ty38 rfl rfl rfl (fun _=>he14)) rfl rfl (P1 (p_ldE (xs:=s1) (a:=e14) (e14:Seal_api) ty38 rfl rfl (fun _=>he14) rfl rfl rfl) rfl rfl ?_)
  obtain ⟨r15,hr15,hX⟩:=bind_some hX
  refine TL.cvX rfl rfl rfl (fun _=>⟨rfl,⟨rfl,trivial⟩⟩) (fun e=>hg2 e14 _ hr15) ?_
  refine TL.nil (hK13 _ _ ?_)
  refine TK.cond (b:=r15) rfl (fun hc=>?_) (fun hc=>?_)
  ·have hX:=ite_t hc hX
   refine SR fun K16 hK16=>M rfl rfl (M rfl rfl (TL.nil (hK16 _ _ ?_)))
   refine TK.ret ?_
   obtain rfl:=hR6 _ (some_in hX).symm
   replace hX:=hA6
   try dsimp only[thenQ]
   exact R1 rfl hX
  ·have hX:=ite_f hc hX
   refine TK.skip ?_
   refine hK11 _ _ ?_
   refine TK.reg ?_
   refine P1 (p_add rfl rfl) rfl rfl (M rfl rfl (TL.nil ?_))
   exact ⟨_,(some_in hX).symm,(),rfl,Nd_nil,HSub.refl _⟩
 ·have hX:=ite_f hc hX
  refine TK.exit ?_
  obtain rfl:=hR6 _ (some_in hX).symm
  exact E6 _ _ ⟨(),rfl,Nd_nil,HSub.refl _⟩ hA6
theorem ok_slices_ContainsFunc_Lapi_Seal_api_Seal (s1:(List Seal_api)) (g2:Seal_api→Option Bool) (r:Bool) (hX:X.slices_ContainsFunc_Lapi_Seal_api_Seal s1 g2=some r) {g2V:AV} (hg2V:∃f m c,g2V= .fn f m c∧(∀i,i<m→(c i).val)∧∀(a0:Seal_api) r,g2 a0=some r→Fun Tryz.prog f ([Enc.v a0]++(List.range m).map c) (·=Enc.v r)):Fun Tryz.prog 31 [Enc.v (s1:(List Seal_api)),g2V] (·=Enc.v (r:Bool)):=by
 obtain ⟨g2f,g2m,g2c,rfl,hg2v,hg2⟩:=hg2V
 refine Fun.of b31 (Nat.le_of_ble_eq_true rfl) (allVal.mem ⟨(by exact (v_val _)),hg2v,trivial⟩) ?_
 unfold k31
 have nd:Nd []:=Nd_nil
 unfold X.slices_ContainsFunc_Lapi_Seal_api_Seal at hX
 refine SR fun K3 hK3=>M rfl rfl (TL.nil (hK3 _ _ (SR fun K4 hK4=>M rfl rfl (M rfl rfl ?_))))
 obtain ⟨r5,hr5,hX⟩:=bind_some hX
 refine TL.cvX rfl rfl rfl (fun _=>⟨rfl,⟨rfl,⟨rfl,trivial⟩⟩⟩) (fun e=>ok_slices_IndexFunc_Lapi_Seal_api_Seal s1 g2 _ hr5 ⟨_,_,_,rfl,hg2v,hg2⟩) ?_
 refine P1 (p_geq rfl rfl) rfl rfl (M rfl rfl (TL.nil (hK4 _ _ ?_)))
 refine TK.ret ?_
 try dsimp only[thenQ]
 exact R1 rfl hX
theorem ok_group_Find_c1 (x1:Seal_api) (c2:Int) (c3:Int) (c4:Int) (c5:Int) (c6:(List Int)) (r:Bool) (hX:X.group_Find_c1 x1 c2 c3 c4 c5 c6=some r):Fun Tryz.prog 32 [Enc.v (x1:Seal_api),.vref (ofL [Enc.v (c2:Int),Enc.v (c3:Int),Enc.v (c4:Int),Enc.v (c5:Int),Enc.v (c6:(List Int))]) 5 0] (·=Enc.v (r:Bool)):=by
 refine Fun.of b32 (Nat.le_of_ble_eq_true rfl) (allVal.mem ⟨(by exact (v_val _)),(by exact (vref_val (l:=[Enc.v (c2:Int),Enc.v (c3:Int),Enc.v (c4:Int),Enc.v (c5:Int),Enc.v (c6:(List Int))]) rfl ⟨(v_val _),(v_val _),(v_val _),(v_val _),(v_val _),trivial⟩)),trivial⟩) ?_
 unfold k32
 have nd:Nd []:=Nd_nil
 unfold X.group_Find_c1 at hX
 refine SR fun K7 hK7=>?_
 refine TLc.boxV (lu:=[Enc.v x1.Number,Enc.v x1.Index,Enc.v x1.Data,Enc.v x1.Parity,Enc.v x1.Labels]) nd rfl (Cells_v (x1:Seal_api)) rfl ?_
 refine M rfl rfl (TL.nil (hK7 _ _ (SR fun K8 hK8=>P1 (p_faR fs38_0 Dc rfl) rfl rfl (P1 (p_ldR (v:=Enc.v x1.Number) ty3 rfl rfl rfl rfl rfl rfl) rfl rfl (P1 (p_faR fs38_0 Dc rfl) rfl rfl (P1 (p_ldR (v:=Enc.v c2) ty3 rfl rfl rfl rfl rfl rfl) rfl rfl (P1 (p_eql rfl rfl) rfl rfl (M rfl rfl (TL.nil (hK8 _ _ ?_))))))))))
 refine TK.ret ?_
 try dsimp only[thenQ]
 exact R1 rfl hX
theorem ok_math_bits_Len64 (x1:UInt64) (r:Int) (hX:X.math_bits_Len64 x1=some r):Fun Tryz.prog 105 [Enc.v (x1:UInt64)] (·=Enc.v (r:Int)):=by
 refine Fun.of b105 (Nat.le_of_ble_eq_true rfl) (allVal.mem ⟨(by exact (v_val _)),trivial⟩) ?_
 unfold k105
 have nd:Nd []:=Nd_nil
 unfold X.math_bits_Len64 at hX
 refine SR fun K2 hK2=>M rfl rfl (TL.nil (hK2 _ _ ?_))
 refine TK.seq_k fun K3 hK3=>?_
 have J3:∀(x4:UInt64) (n5:Int) (env:Env) (h:Hp),(∃_u:Unit,keepE [0,2] env=[(0,true,Enc.v x4),(2,true,Enc.v n5)]∧Nd []∧HSub [] h)→X.math_bits_Len64_j3 x4 n5=some r→K3 env h:=by
  intro x4 n5 env h hE hX
  obtain ⟨_u,henv,nd,hs⟩:=hE
  unfold X.math_bits_Len64_j3 at hX
  refine hK3 _ _ (TK.keep [0,2] ?_)
  rw[henv]
  refine TK.subH hs ?_
  refine TK.seq_k fun K6 hK6=>?_
  have J6:∀(x7:UInt64) (n8:Int) (env:Env) (h:Hp),(∃_u:Unit,keepE [0,2] env=[(0,true,Enc.v x7),(2,true,Enc.v n8)]∧Nd []∧HSub [] h)→X.math_bits_Len64_j6 x7 n8=some r→K6 env h:=by
   intro x7 n8 env h hE hX
   obtain ⟨_u,henv,nd,hs⟩:=hE
   unfold X.math_bits_Len64_j6 at hX
   refine hK6 _ _ (TK.keep [0,2] ?_)
   rw[henv]
   refine TK.subH hs ?_
   refine TK.seq_k fun K9 hK9=>?_
   have J9:∀(x10:UInt64) (n11:Int) (env:Env) (h:Hp),(∃_u:Unit,keepE [0,2] env=[(0,true,Enc.v x10),(2,true,Enc.v n11)]∧Nd []∧HSub [] h)→X.math_bits_Len64_j9 x10 n11=some r→K9 env h:=by
    intro x10 n11 env h hE hX
    obtain ⟨_u,henv,nd,hs⟩:=hE
    unfold X.math_bits_Len64_j9 at hX
    refine hK9 _ _ (TK.keep [0,2] ?_)
    rw[henv]
    refine TK.subH hs ?_
    refine SR fun K12 hK12=>M rfl rfl (M rfl rfl (P1 (p_cvt src108 kd5 rfl (cv_u8 _)) rfl rfl ?_))
    obtain ⟨x13,hx13,hX⟩:=bind_some hX
    refine P1 (p_ix kd9 rfl rfl (fun _=>hx13)) rfl rfl (P1 (p_cvt src5 kd3 rfl (cv_8 x13)) rfl rfl (P1 (p_add rfl rfl) rfl rfl (M rfl rfl (TL.nil (hK12 _ _ ?_)))))
    refine TK.ret ?_
    try dsimp only[thenQ]
    exact R1 rfl hX
   refine SR fun K14 hK14=>M rfl rfl (P1 (pu64_geq (a:=x7) (b:=(256:UInt64)) rfl rfl) rfl rfl (TL.nil (hK14 _ _ ?_)))
   refine TK.cond (b:=(decide (x7≥(256:UInt64)))) rfl (fun hc=>?_) (fun hc=>?_)
   ·have hX:=ite_t hc hX
    refine SR fun K15 hK15=>M rfl rfl (P1 (pu64_shr (a:=x7) (b:=8) rfl rfl) rfl rfl (M rfl rfl (TL.nil (hK15 _ _ ?_))))
    refine TK.reg ?_
    refine M rfl rfl (P1 (p_add rfl rfl) rfl rfl (M rfl rfl (TL.nil ?_)))
    exact J9 (shru64 x7 8) (wr (n8+(8:Int))) _ _ ⟨(),rfl,Nd_nil,HSub.refl _⟩ hX
   ·have hX:=ite_f hc hX
    refine TK.skip ?_
    exact J9 x7 n8 _ _ ⟨(),rfl,Nd_nil,HSub.refl _⟩ hX
  refine SR fun K16 hK16=>M rfl rfl (P1 (pu64_geq (a:=x4) (b:=(65536:UInt64)) rfl rfl) rfl rfl (TL.nil (hK16 _ _ ?_)))
  refine TK.cond (b:=(decide (x4≥(65536:UInt64)))) rfl (fun hc=>?_) (fun hc=>?_)
  ·have hX:=ite_t hc hX
   refine SR fun K17 hK17=>M rfl rfl (P1 (pu64_shr (a:=x4) (b:=16) rfl rfl) rfl rfl (M rfl rfl (TL.nil (hK17 _ _ ?_))))
   refine TK.reg ?_
   refine M rfl rfl (P1 (p_add rfl rfl) rfl rfl (M rfl rfl (TL.nil ?_)))
   exact J6 (shru64 x4 16) (wr (n5+(16:Int))) _ _ ⟨(),rfl,Nd_nil,HSub.refl _⟩ hX
  ·have hX:=ite_f hc hX
   refine TK.skip ?_
   exact J6 x4 n5 _ _ ⟨(),rfl,Nd_nil,HSub.refl _⟩ hX
 refine SR fun K18 hK18=>M rfl rfl (P1 (pu64_geq (a:=x1) (b:=(4294967296:UInt64)) rfl rfl) rfl rfl (TL.nil (hK18 _ _ ?_)))
 refine TK.cond (b:=(decide (x1≥(4294967296:UInt64)))) rfl (fun hc=>?_) (fun hc=>?_)
 ·have hX:=ite_t hc hX
  refine SR fun K19 hK19=>M rfl rfl (P1 (pu64_shr (a:=x1) (b:=32) rfl rfl) rfl rfl (M rfl rfl (TL.nil (hK19 _ _ ?_))))
  refine TK.reg ?_
  refine M rfl rfl (TL.nil ?_)
  exact J3 (shru64 x1 32) (32:Int) _ _ ⟨(),rfl,Nd_nil,HSub.refl _⟩ hX
 ·have hX:=ite_f hc hX
  refine TK.skip ?_
  exact J3 x1 (0:Int) _ _ ⟨(),rfl,Nd_nil,HSub.refl _⟩ hX
theorem ok_math_bits_Len (x1:UInt64) (r:Int) (hX:X.math_bits_Len x1=some r):Fun Tryz.prog 65 [Enc.v (x1:UInt64)] (·=Enc.v (r:Int)):=by
 refine Fun.of b65 (Nat.le_of_ble_eq_true rfl) (allVal.mem ⟨(by exact (v_val _)),trivial⟩) ?_
 unfold k65
 have nd:Nd []:=Nd_nil
 unfold X.math_bits_Len at hX
 refine SR fun K2 hK2=>M rfl rfl (TL.nil (hK2 _ _ ?_))
 refine TK.seq_k fun K3 hK3=>?_
 refine TK.cond (b:=false) rfl (fun hc=>by simp at hc) (fun _=>?_)
 refine TK.skip ?_
 refine hK3 _ _ (SR fun K4 hK4=>M rfl rfl ?_)
 obtain ⟨r5,hr5,hX⟩:=bind_some hX
 refine TL.cvX rfl rfl rfl (fun _=>⟨rfl,⟨rfl,trivial⟩⟩) (fun e=>ok_math_bits_Len64 x1 _ hr5) ?_
 refine M rfl rfl (TL.nil (hK4 _ _ ?_))
 refine TK.ret ?_
 try dsimp only[thenQ]
 exact R1 rfl hX
theorem ok_slices_insertionSortCmpFunc_api_Seal (a3:Int) (b4:Int) (g5:Seal_api→Seal_api→Option Int) (data1:(List Seal_api)) (b2:Nat) (nd:Nd [(b2,RL (α:=Seal_api) 38 data1)]) (r:(List Seal_api)) (hX:X.slices_insertionSortCmpFunc_api_Seal a3 b4 g5 data1=some r) {g5V:AV} (hg5V:∃f m c,g5V= .fn f m c∧(∀i,i<m→(c i).val)∧∀(a0:Seal_api) (a1:Seal_api) r,g5 a0 a1=some r→Fun Tryz.prog f ([Enc.v a0,Enc.v a1]++(List.range m).map c) (·=Enc.v r)):TCX Tryz.prog 96 [OL (α:=Seal_api) b2 data1,Enc.v (a3:Int),Enc.v (b4:Int),g5V] [(b2,RL (α:=Seal_api) 38 data1)] (fun rv h'=>rv= .tup 0 (ofL [])∧h'=[(b2,RL (α:=Seal_api) 38 r)]):=by
 obtain ⟨g5f,g5m,g5c,rfl,hg5v,hg5⟩:=hg5V
 refine TCX.of b96 (Nat.le_of_ble_eq_true rfl) ?_
 unfold k96
 unfold X.slices_insertionSortCmpFunc_api_Seal at hX
 refine TK.endK fun KE hKE=>?_
 refine SR fun K6 hK6=>M rfl rfl (P1 (p_add rfl rfl) rfl rfl (M rfl rfl (TL.nil (hK6 _ _ ?_))))
 refine TK.block ?_
 obtain ⟨o7,hO7,hA7⟩:=bind_some hX
 have E7:∀(l12:List Seal_api) (env:Env) (h:Hp),(∃_u:Unit,keepE [0] env=[(0,true,OL b2 l12)]∧Nd [(b2,RL (α:=Seal_api) 38 l12)]∧HSub [(b2,RL (α:=Seal_api) 38 l12)] h)→X.slices_insertionSortCmpFunc_api_Seal_e7 l12=some r→KE env h:=by
  intro l12 env h hE hX
  obtain ⟨_u,henv,nd,hs⟩:=hE
  unfold X.slices_insertionSortCmpFunc_api_Seal_e7 at hX
  refine hKE _ _ (TL.keep [0] ?_)
  rw[henv]
  refine TL.subH hs ?_
  refine TL.nil ?_
  try dsimp only[thenQ]
  refine RetQ_end ?_
  exact retX (v:= .tup 0 (ofL [])) res0 (by obtain rfl:=some_in hX;exact ⟨rfl,rfl⟩) nd (inH_tup (l:=[]) trivial) ⟨rowIn_RL,trivial⟩
 refine TK.iter [0,1,2,3,8] (fun s env h=>match s with|(data9,i10)=>∃_u:Unit,env=[(0,true,OL b2 data9),(1,true,Enc.v a3),(2,true,Enc.v b4),(3,true,.fn g5f g5m g5c),(8,true,Enc.v i10)]∧Nd [(b2,RL (α:=Seal_api) 38 data9)]∧HSub [(b2,RL (α:=Seal_api) 38 data9)] h) hO7 ⟨(),rfl,(Nd.pick nd (is:=[0]) Dc),(HSub.pick nd (is:=[0]) Dc)⟩ ?_
 rintro ⟨data9,i10⟩ env h x7x ⟨_u,rfl,nd,hs⟩ hX hR7
 refine TK.subH hs ?_
 unfold X.slices_insertionSortCmpFunc_api_Seal_s7 at hX
 try dsimp only at hX
 refine TK.seq_k fun K13 hK13=>?_
 refine SR fun K14 hK14=>M rfl rfl (M rfl rfl (P1 (p_lss rfl rfl) rfl rfl (TL.nil (hK14 _ _ ?_))))
 refine TK.cond (b:=(decide (i10<b4))) rfl (fun hc=>?_) (fun hc=>?_)
 ·have hX:=ite_t hc hX
  refine TK.skip ?_
  refine hK13 _ _ ?_
  refine TK.seq_k fun K15 hK15=>?_
  refine TK.block ?_
  refine SR fun K16 hK16=>M rfl rfl (M rfl rfl (TL.nil (hK16 _ _ ?_)))
  refine TK.block ?_
  obtain ⟨o17,hO17,hA17⟩:=bind_some hX
  have E17:∀(l22:List Seal_api) (env:Env) (h:Hp),(∃_u:Unit,keepE [0,1,2,3,8] env=[(0,true,OL b2 l22),(1,true,Enc.v a3),(2,true,Enc.v b4),(3,true,.fn g5f g5m g5c),(8,true,Enc.v i10)]∧Nd [(b2,RL (α:=Seal_api) 38 l22)]∧HSub [(b2,RL (α:=Seal_api) 38 l22)] h)→X.slices_insertionSortCmpFunc_api_Seal_e17 i10 l22=some x7x→K15 env h:=by
   intro l22 env h hE hX
   obtain ⟨_u,henv,nd,hs⟩:=hE
   unfold X.slices_insertionSortCmpFunc_api_Seal_e17 at hX
   refine hK15 _ _ (TK.keep [0,1,2,3,8] ?_)
   rw[henv]
   refine TK.subH hs ?_
   refine TK.reg ?_
   refine M rfl rfl (P1 (p_add rfl rfl) rfl rfl (M rfl rfl (TL.nil ?_)))
   exact ⟨_,(some_in hX).symm,(),rfl,(Nd.pick nd (is:=[0]) Dc),(HSub.pick nd (is:=[0]) Dc)⟩
  refine TK.iter [0,1,2,3,8,9] (fun s env h=>match s with|(data19,j20)=>∃_u:Unit,env=[(0,true,OL b2 data19),(1,true,Enc.v a3),(2,true,Enc.v b4),(3,true,.fn g5f g5m g5c),(8,true,Enc.v i10),(9,true,Enc.v j20)]∧Nd [(b2,RL (α:=Seal_api) 38 data19)]∧HSub [(b2,RL (α:=Seal_api) 38 data19)] h) hO17 ⟨(),rfl,(Nd.pick nd (is:=[0]) Dc),(HSub.pick nd (is:=[0]) Dc)⟩ ?_
  rintro ⟨data19,j20⟩ env h x17x ⟨_u,rfl,nd,hs⟩ hX hR17
  refine TK.subH hs ?_
  unfold X.slices_insertionSortCmpFunc_api_Seal_s17 at hX
  try dsimp only at hX
  refine TK.seq_k fun K23 hK23=>?_
  refine TK.seq_k fun K24 hK24=>?_
  have ndS:Nd [(b2,RL (α:=Seal_api) 38 data19)]:=Nd.pick nd (is:=[0]) Dc
  refine TK.drwX (h:=[]) (hS:=[(b2,RL (α:=Seal_api) 38 data19)]) [(0,0),(0,1),(0,2),(0,3),(0,4),(0,5),(0,6),(0,7),(0,8),(0,9),(0,10),(0,11),(0,12),(0,13),(0,14),(0,15),(0,16)] mixed (by kernel_rfl) (HSub_app nd) ?_
  refine DM rfl rfl rfl ?_
  refine DM rfl rfl rfl ?_
  refine D0 rfl (p_gtr rfl rfl) rfl rfl ?_
  refine DM rfl rfl rfl ?_
  refine DR0 (gc:=((decide (j20>a3)))) rfl (vok_p (C:=cx) (p_mv rfl (hg:=fun e=>rfl))) (gcT1 rfl) rfl ?_
  refine DR0 (gc:=((decide (j20>a3)))) rfl (vok_p (C:=cx) (p_mv rfl (hg:=fun e=>rfl))) (gcT1 rfl) rfl ?_
  refine DR0 (gc:=((decide (j20>a3)))) rfl (vok_p (C:=cx) (p_mv rfl (hg:=fun e=>rfl))) (gcT1 rfl) rfl ?_
  obtain ⟨e25,he25,hX⟩:=bind_some hX
  refine DR0 (gc:=((decide (j20>a3)))) rfl (vok_p (C:=cx) (p_iaO (xs:=data19) kd33 ty38 rfl rfl rfl ndS (j:=0) rfl (fun e=>optG_t he25 e) (hg:=fun e=>⟨e,e⟩))) (gcT1 rfl) rfl ?_
  refine DR0 (gc:=((decide (j20>a3)))) rfl (vok_p (C:=cx) (p_ldO (xs:=data19) (a:=e25) (e25:Seal_api) ty38 rfl rfl ndS (j:=0) rfl (fun e=>optG_t he25 e) rfl rfl rfl (hg:=fun e=>e))) (gcT1 rfl) rfl ?_
  refine DR0 (gc:=((decide (j20>a3)))) rfl (vok_p (C:=cx) (p_mv rfl (hg:=fun e=>rfl))) (gcT1 rfl) rfl ?_
  refine DR0 (gc:=((decide (j20>a3)))) rfl (vok_p (C:=cx) (p_mv rfl (hg:=fun e=>rfl))) (gcT1 rfl) rfl ?_
  refine DR0 (gc:=((decide (j20>a3)))) rfl (vok_p (C:=cx) (p_sub rfl rfl (hg:=fun e=>⟨e,rfl⟩))) (gcT1 rfl) rfl ?_
  obtain ⟨e26,he26,hX⟩:=bind_some hX
  refine DR0 (gc:=((decide (j20>a3)))) rfl (vok_p (C:=cx) (p_iaO (xs:=data19) kd33 ty38 rfl rfl rfl ndS (j:=0) rfl (fun e=>optG_t he26 e) (hg:=fun e=>⟨e,e⟩))) (gcT1 rfl) rfl ?_
  refine DR0 (gc:=((decide (j20>a3)))) rfl (vok_p (C:=cx) (p_ldO (xs:=data19) (a:=e26) (e26:Seal_api) ty38 rfl rfl ndS (j:=0) rfl (fun e=>optG_t he26 e) rfl rfl rfl (hg:=fun e=>e))) (gcT1 rfl) rfl ?_
  obtain ⟨r27,hr27,hX⟩:=bind_some hX
  refine DR0 (gc:=((decide (j20>a3)))) rfl (vok_c rfl (fun e=>⟨e,⟨e,⟨e,trivial⟩⟩⟩) (fun e=>hg5 e25 e26 _ (optG_t hr27 e))) (gcT1 rfl) rfl ?_
  refine DR0 (gc:=((decide (j20>a3)))) rfl (vok_p (C:=cx) (p_lss rfl rfl (hg:=fun e=>⟨e,rfl⟩))) (gcT1 rfl) rfl ?_
  refine D0 rfl (p_and rfl rfl (fun e=>⟨rfl,fun h=>h⟩)) rfl rfl ?_
  refine DRend ?_
  refine hK24 _ _ ?_
  refine TK.cond (b:=((decide (j20>a3))&&(decide (r27<(0:Int))))) rfl (fun hc=>?_) (fun hc=>?_)
  ·have hX:=ite_t hc hX
   refine TK.skip ?_
   refine hK23 _ _ ?_
   refine TK.seq_k fun K28 hK28=>?_
   refine TK.block ?_
   have ndS:Nd []:=Nd.pick nd (is:=[]) Dc
   refine TK.endK fun KD hKD=>?_
   refine TK.drwX (h:=[(b2,RL (α:=Seal_api) 38 data19)]) (hS:=[]) [(0,0),(0,1),(0,2),(0,3),(0,4),(0,5),(0,6),(0,7),(1,8),(1,9),(0,10),(0,11),(1,12),(1,13),(1,14),(2,15),(1,16),(2,17)] mixed (by kernel_rfl) (HSub_app nd) ?_
   refine DM rfl rfl rfl ?_
   refine DM rfl rfl rfl ?_
   refine DM rfl rfl rfl ?_
   refine DM rfl rfl rfl ?_
   refine D0 rfl (p_sub rfl rfl) rfl rfl ?_
   refine DM rfl rfl rfl ?_
   refine DM rfl rfl rfl ?_
   refine D0 rfl (p_sub rfl rfl) rfl rfl ?_
   obtain ⟨e29,he29,hX⟩:=bind_some hX
   refine DR1 (gc:=true) rfl (vok_p (C:=cx) (p_iaO (xs:=data19) kd33 ty38 rfl rfl rfl nd (j:=0) rfl (fun _=>he29))) rfl rfl ?_
   refine DR1 (gc:=true) rfl (vok_p (C:=cx) (p_ldO (xs:=data19) (a:=e29) (e29:Seal_api) ty38 rfl rfl nd (j:=0) rfl (fun _=>he29) rfl rfl rfl)) rfl rfl ?_
   refine DM rfl rfl rfl ?_
   refine DM rfl rfl rfl ?_
   obtain ⟨e30,he30,hX⟩:=bind_some hX
   refine DR1 (gc:=true) rfl (vok_p (C:=cx) (p_iaO (xs:=data19) kd33 ty38 rfl rfl rfl nd (j:=0) rfl (fun _=>he30))) rfl rfl ?_
   refine DR1 (gc:=true) rfl (vok_p (C:=cx) (p_ldO (xs:=data19) (a:=e30) (e30:Seal_api) ty38 rfl rfl nd (j:=0) rfl (fun _=>he30) rfl rfl rfl)) rfl rfl ?_
   obtain ⟨e31,he31,hX⟩:=bind_some hX
   refine DR1 (gc:=true) rfl (vok_p (C:=cx) (p_iaO (xs:=data19) kd33 ty38 rfl rfl rfl nd (j:=0) rfl (fun _=>he31))) rfl rfl ?_
   refine DR2n rfl ?_
   refine TLc.stW (xs:=data19) (i:=j20) (lu:=Enc.cl (e29:Seal_api)) (a':=e29) nd ty38 rfl (j:=0) rfl (by simp[Enc.sz]) (inb_of he31 (by simp)) rfl (Cells_v (e29:Seal_api)) rfl (WkL_refl _) fun nd=>?_
   refine TL.nil ⟨.nilp,[(b2,RL (α:=Seal_api) 38 (data19.set j20.toNat e29))],rfl,rfl,HSub_app nd,?_⟩
   obtain ⟨e32,he32,hX⟩:=bind_some hX
   refine DR1 (gc:=true) rfl (vok_p (C:=cx) (p_iaO (xs:=(data19.set j20.toNat e29)) (gx:=true) kd33 ty38 rfl (by rw[OL_len (xs:=(data19.set j20.toNat e29)) (ys:=data19) (by simp)];rfl) rfl nd (j:=0) rfl (fun _=>he32))) rfl rfl ?_
   refine DR2n rfl ?_
   refine TLc.stW (xs:=(data19.set j20.toNat e29)) (i:=(wr (j20-(1:Int)))) (lu:=Enc.cl (e30:Seal_api)) (a':=e30) nd ty38 rfl (j:=0) rfl (by simp[Enc.sz]) (inb_of he32 (by simp)) rfl (Cells_v (e30:Seal_api)) rfl (WkL_refl _) fun nd=>?_
   refine TL.nil ⟨.nilp,[(b2,RL (α:=Seal_api) 38 ((data19.set j20.toNat e29).set (wr (j20-(1:Int))).toNat e30))],rfl,rfl,HSub_app nd,?_⟩
   refine DRend ?_
   refine hKD _ _ ?_
   refine TL.cv 0 (OL (α:=Seal_api) b2 ((data19.set j20.toNat e29).set (wr (j20-(1:Int))).toNat e30)) rfl (Wk_eq (OL_len (by simp))) ?_
   refine TL.nil (hK28 _ _ ?_)
   refine TK.reg ?_
   refine M rfl rfl (P1 (p_sub rfl rfl) rfl rfl (M rfl rfl (TL.nil ?_)))
   exact ⟨_,(some_in hX).symm,(),rfl,(Nd.pick nd (is:=[0]) Dc),(HSub.pick nd (is:=[0]) Dc)⟩
  ·have hX:=ite_f hc hX
   refine TK.exit ?_
   obtain rfl:=hR17 _ (some_in hX).symm
   exact E17 data19 _ _ ⟨(),rfl,(Nd.pick nd (is:=[0]) Dc),(HSub.pick nd (is:=[0]) Dc)⟩ hA17
 ·have hX:=ite_f hc hX
  refine TK.exit ?_
  obtain rfl:=hR7 _ (some_in hX).symm
  exact E7 data9 _ _ ⟨(),rfl,(Nd.pick nd (is:=[0]) Dc),(HSub.pick nd (is:=[0]) Dc)⟩ hA7
theorem ok_slices_pdqsortCmpFunc_api_Seal (a3:Int) (b4:Int) (limit5:Int) (g6:Seal_api→Seal_api→Option Int) (data1:(List Seal_api)) (b2:Nat) (nd:Nd [(b2,RL (α:=Seal_api) 38 data1)]) (r:(List Seal_api)) (hX:X.slices_pdqsortCmpFunc_api_Seal a3 b4 limit5 g6 data1=some r) {g6V:AV} (hg6V:∃f m c,g6V= .fn f m c∧(∀i,i<m→(c i).val)∧∀(a0:Seal_api) (a1:Seal_api) r,g6 a0 a1=some r→Fun Tryz.prog f ([Enc.v a0,Enc.v a1]++(List.range m).map c) (·=Enc.v r)):TCX Tryz.prog 64 [OL (α:=Seal_api) b2 data1,Enc.v (a3:Int),Enc.v (b4:Int),Enc.v (limit5:Int),g6V] [(b2,RL (α:=Seal_api) 38 data1)] (fun rv h'=>rv= .tup 0 (ofL [])∧h'=[(b2,RL (α:=Seal_api) 38 r)]):=by
 obtain ⟨g6f,g6m,g6c,rfl,hg6v,hg6⟩:=hg6V
 refine TCX.of b64 (Nat.le_of_ble_eq_true rfl) ?_
 unfold k64
 unfold X.slices_pdqsortCmpFunc_api_Seal at hX
 refine SR fun K7 hK7=>M rfl rfl (TL.nil (hK7 _ _ (SR fun K8 hK8=>M rfl rfl (TL.nil (hK8 _ _ ?_)))))
 refine TK.block ?_
 refine TK.unroll 1 ?_
 refine unr_s ?_
 refine TK.block ?_
 refine SR fun K10 hK10=>M rfl rfl (M rfl rfl (P1 (p_sub rfl rfl) rfl rfl (M rfl rfl (TL.nil (hK10 _ _ ?_)))))
 refine TK.seq_k fun K11 hK11=>?_
 refine SR fun K12 hK12=>M rfl rfl (P1 (p_leq rfl rfl) rfl rfl (TL.nil (hK12 _ _ ?_)))
 refine TK.cond (b:=(decide ((wr (b4-a3))≤(12:Int)))) rfl (fun hc=>?_) (fun hc=>?_)
 ·have hX:=ite_t hc hX
  refine SR fun K13 hK13=>M rfl rfl (M rfl rfl (M rfl rfl (M rfl rfl ?_)))
  obtain ⟨r14,hr14,hX⟩:=bind_some hX
  refine TL.tcX [(b2,RL (α:=Seal_api) 38 data1)] [] rfl nd (dlt rfl) rfl ⟨rfl,⟨rfl,⟨rfl,⟨rfl,⟨rfl,trivial⟩⟩⟩⟩⟩ (ok_slices_insertionSortCmpFunc_api_Seal a3 b4 g6 data1 b2 (Nd.take nd 1 rfl) _ hr14 ⟨_,_,_,rfl,hg6v,hg6⟩) ?_
  rintro _ _ hQ nd
  obtain ⟨rfl,rfl⟩:=hQ
  refine TL.nil (hK13 _ _ ?_)
  refine TK.ret ?_
  try dsimp only[thenQ]
  exact retX (v:= .tup 0 (ofL [])) res0 (by obtain rfl:=some_in hX;exact ⟨rfl,rfl⟩) nd (inH_tup (l:=[]) trivial) ⟨rowIn_RL,trivial⟩
 ·have hX:=ite_f hc hX
  refine TK.skip ?_
  refine hK11 _ _ ?_
  refine TK.seq_k fun K15 hK15=>?_
  refine SR fun K16 hK16=>M rfl rfl (P1 (p_eql rfl rfl) rfl rfl (TL.nil (hK16 _ _ ?_)))
  refine TK.cond (b:=(limit5==(0:Int))) rfl (fun hc=>?_) (fun hc=>?_)
  ·have hX:=ite_t hc hX
   refine SR fun K17 hK17=>M rfl rfl (M rfl rfl (M rfl rfl (M rfl rfl ?_)))
   cases hX
  ·have hX:=ite_f hc hX
   refine TK.skip ?_
   refine hK15 _ _ ?_
   refine TK.seq_k fun K18 hK18=>?_
   refine SR fun K19 hK19=>M rfl rfl (P1 (p_not rfl) rfl rfl (TL.nil (hK19 _ _ ?_)))
   refine TK.cond (b:=(!true)) rfl (fun hc=>?_) (fun hc=>?_)
   ·have hX:=ite_t hc hX
    refine SR fun K20 hK20=>M rfl rfl (M rfl rfl (M rfl rfl (M rfl rfl ?_)))
    cases hX
   ·have hX:=ite_f hc hX
    refine TK.skip ?_
    refine hK18 _ _ (SR fun K21 hK21=>M rfl rfl (M rfl rfl (M rfl rfl (M rfl rfl ?_))))
    cases hX
theorem ok_slices_SortFunc_Lapi_Seal_api_Seal (g3:Seal_api→Seal_api→Option Int) (x1:(List Seal_api)) (b2:Nat) (nd:Nd [(b2,RL (α:=Seal_api) 38 x1)]) (r:(List Seal_api)) (hX:X.slices_SortFunc_Lapi_Seal_api_Seal g3 x1=some r) {g3V:AV} (hg3V:∃f m c,g3V= .fn f m c∧(∀i,i<m→(c i).val)∧∀(a0:Seal_api) (a1:Seal_api) r,g3 a0 a1=some r→Fun Tryz.prog f ([Enc.v a0,Enc.v a1]++(List.range m).map c) (·=Enc.v r)):TCX Tryz.prog 33 [OL (α:=Seal_api) b2 x1,g3V] [(b2,RL (α:=Seal_api) 38 x1)] (fun rv h'=>rv= .tup 0 (ofL [])∧h'=[(b2,RL (α:=Seal_api) 38 r)]):=by
 obtain ⟨g3f,g3m,g3c,rfl,hg3v,hg3⟩:=hg3V
 refine TCX.of b33 (Nat.le_of_ble_eq_true rfl) ?_
 unfold k33
 unfold X.slices_SortFunc_Lapi_Seal_api_Seal at hX
 refine TK.endK fun KE hKE=>?_
 refine SR fun K4 hK4=>M rfl rfl (P1 (p_lenR kd33 rfl (fun _=>refOK_of nd (j:=0) rfl rfl)) rfl rfl (M rfl rfl (TL.nil (hK4 _ _ ?_))))
 refine TK.reg ?_
 refine M rfl rfl (M rfl rfl (M rfl rfl (P1 (p_cvt src3 kd80 rfl (cv_u64 _)) rfl rfl ?_)))
 obtain ⟨r5,hr5,hX⟩:=bind_some hX
 refine TL.cvX rfl rfl rfl (fun _=>⟨rfl,⟨rfl,trivial⟩⟩) (fun e=>ok_math_bits_Len (u64 (x1.length:Int)) _ hr5) ?_
 refine M rfl rfl ?_
 obtain ⟨r6,hr6,hX⟩:=bind_some hX
 refine TL.tcX [(b2,RL (α:=Seal_api) 38 x1)] [] rfl nd (dlt rfl) rfl ⟨rfl,⟨rfl,⟨rfl,⟨rfl,⟨rfl,⟨rfl,trivial⟩⟩⟩⟩⟩⟩ (ok_slices_pdqsortCmpFunc_api_Seal (0:Int) (x1.length:Int) r5 g3 x1 b2 (Nd.take nd 1 rfl) _ hr6 ⟨_,_,_,rfl,hg3v,hg3⟩) ?_
 rintro _ _ hQ nd
 obtain ⟨rfl,rfl⟩:=hQ
 refine TL.nil (hKE _ _ (TL.nil ?_))
 try dsimp only[thenQ]
 refine RetQ_end ?_
 exact retX (v:= .tup 0 (ofL [])) res0 (by obtain rfl:=some_in hX;exact ⟨rfl,rfl⟩) nd (inH_tup (l:=[]) trivial) ⟨rowIn_RL,trivial⟩
theorem len_slices_SortFunc_Lapi_Seal_api_SealL {g3:Seal_api→Seal_api→Option Int} {x1:(List Seal_api)} {r:(List Seal_api)} (hX:X.slices_SortFunc_Lapi_Seal_api_SealL g3 x1=some r):r.length=x1.length:=by
 obtain ⟨q,_,h⟩:=bind_some hX
 split at h
 ·injection h with h
  subst h
  assumption
 ·cases h
theorem ok_slices_SortFunc_Lapi_Seal_api_SealL (g3:Seal_api→Seal_api→Option Int) (x1:(List Seal_api)) (b2:Nat) (nd:Nd [(b2,RL (α:=Seal_api) 38 x1)]) (r:(List Seal_api)) (hX:X.slices_SortFunc_Lapi_Seal_api_SealL g3 x1=some r) {g3V:AV} (hg3V:∃f m c,g3V= .fn f m c∧(∀i,i<m→(c i).val)∧∀(a0:Seal_api) (a1:Seal_api) r,g3 a0 a1=some r→Fun Tryz.prog f ([Enc.v a0,Enc.v a1]++(List.range m).map c) (·=Enc.v r)):TCX Tryz.prog 33 [OL (α:=Seal_api) b2 x1,g3V] [(b2,RL (α:=Seal_api) 38 x1)] (fun rv h'=>rv= .tup 0 (ofL [])∧h'=[(b2,RL (α:=Seal_api) 38 r)]):=by
 obtain ⟨q,h1,h2⟩:=bind_some hX
 split at h2
 ·injection h2 with h2
  subst h2
  exact ok_slices_SortFunc_Lapi_Seal_api_Seal g3 x1 b2 nd _ h1 hg3V
 ·cases h2
theorem ok_cmp_isNaN_int (x1:Int) (r:Bool) (hX:X.cmp_isNaN_int x1=some r):Fun Tryz.prog 66 [Enc.v (x1:Int)] (·=Enc.v (r:Bool)):=by
 refine Fun.of b66 (Nat.le_of_ble_eq_true rfl) (allVal.mem ⟨(by exact (v_val _)),trivial⟩) ?_
 unfold k66
 have nd:Nd []:=Nd_nil
 unfold X.cmp_isNaN_int at hX
 refine SR fun K2 hK2=>M rfl rfl (TL.nil (hK2 _ _ (SR fun K3 hK3=>M rfl rfl (M rfl rfl (P1 (p_neq rfl rfl) rfl rfl (M rfl rfl (TL.nil (hK3 _ _ ?_))))))))
 refine TK.ret ?_
 try dsimp only[thenQ]
 exact R1 rfl hX
theorem ok_cmp_Compare_int (x1:Int) (y2:Int) (r:Int) (hX:X.cmp_Compare_int x1 y2=some r):Fun Tryz.prog 35 [Enc.v (x1:Int),Enc.v (y2:Int)] (·=Enc.v (r:Int)):=by
 refine Fun.of b35 (Nat.le_of_ble_eq_true rfl) (allVal.mem ⟨(by exact (v_val _)),(by exact (v_val _)),trivial⟩) ?_
 unfold k35
 have nd:Nd []:=Nd_nil
 unfold X.cmp_Compare_int at hX
 refine SR fun K3 hK3=>M rfl rfl (TL.nil (hK3 _ _ (SR fun K4 hK4=>M rfl rfl ?_)))
 obtain ⟨r5,hr5,hX⟩:=bind_some hX
 refine TL.cvX rfl rfl rfl (fun _=>⟨rfl,⟨rfl,trivial⟩⟩) (fun e=>ok_cmp_isNaN_int x1 _ hr5) ?_
 refine M rfl rfl (TL.nil (hK4 _ _ (SR fun K6 hK6=>M rfl rfl ?_)))
 obtain ⟨r7,hr7,hX⟩:=bind_some hX
 refine TL.cvX rfl rfl rfl (fun _=>⟨rfl,⟨rfl,trivial⟩⟩) (fun e=>ok_cmp_isNaN_int y2 _ hr7) ?_
 refine M rfl rfl (TL.nil (hK6 _ _ ?_))
 refine TK.seq_k fun K8 hK8=>?_
 refine SR fun K9 hK9=>M rfl rfl (TL.nil (hK9 _ _ ?_))
 refine TK.cond (b:=r5) rfl (fun hc=>?_) (fun hc=>?_)
 ·have hX:=ite_t hc hX
  refine TK.seq_k fun K10 hK10=>?_
  refine SR fun K11 hK11=>M rfl rfl (TL.nil (hK11 _ _ ?_))
  refine TK.cond (b:=r7) rfl (fun hc=>?_) (fun hc=>?_)
  ·have hX:=ite_t hc hX
   refine SR fun K12 hK12=>M rfl rfl (TL.nil (hK12 _ _ ?_))
   refine TK.ret ?_
   try dsimp only[thenQ]
   exact R1 rfl hX
  ·have hX:=ite_f hc hX
   refine TK.skip ?_
   refine hK10 _ _ (SR fun K13 hK13=>M rfl rfl (TL.nil (hK13 _ _ ?_)))
   refine TK.ret ?_
   try dsimp only[thenQ]
   exact R1 rfl hX
 ·have hX:=ite_f hc hX
  refine TK.skip ?_
  refine hK8 _ _ ?_
  refine TK.seq_k fun K14 hK14=>?_
  refine SR fun K15 hK15=>M rfl rfl (TL.nil (hK15 _ _ ?_))
  refine TK.cond (b:=r7) rfl (fun hc=>?_) (fun hc=>?_)
  ·have hX:=ite_t hc hX
   refine SR fun K16 hK16=>M rfl rfl (TL.nil (hK16 _ _ ?_))
   refine TK.ret ?_
   try dsimp only[thenQ]
   exact R1 rfl hX
  ·have hX:=ite_f hc hX
   refine TK.skip ?_
   refine hK14 _ _ ?_
   refine TK.seq_k fun K17 hK17=>?_
   refine SR fun K18 hK18=>M rfl rfl (M rfl rfl (P1 (p_lss rfl rfl) rfl rfl (TL.nil (hK18 _ _ ?_))))
   refine TK.cond (b:=(decide (x1<y2))) rfl (fun hc=>?_) (fun hc=>?_)
   ·have hX:=ite_t hc hX
    refine SR fun K19 hK19=>M rfl rfl (TL.nil (hK19 _ _ ?_))
    refine TK.ret ?_
    try dsimp only[thenQ]
    exact R1 rfl hX
   ·have hX:=ite_f hc hX
    refine TK.skip ?_
    refine hK17 _ _ ?_
    refine TK.seq_k fun K20 hK20=>?_
    refine SR fun K21 hK21=>M rfl rfl (M rfl rfl (P1 (p_gtr rfl rfl) rfl rfl (TL.nil (hK21 _ _ ?_))))
    refine TK.cond (b:=(decide (x1>y2))) rfl (fun hc=>?_) (fun hc=>?_)
    ·have hX:=ite_t hc hX
     refine SR fun K22 hK22=>M rfl rfl (TL.nil (hK22 _ _ ?_))
     refine TK.ret ?_
     try dsimp only[thenQ]
     exact R1 rfl hX
    ·have hX:=ite_f hc hX
     refine TK.skip ?_
     refine hK20 _ _ (SR fun K23 hK23=>M rfl rfl (TL.nil (hK23 _ _ ?_)))
     refine TK.ret ?_
     try dsimp only[thenQ]
     exact R1 rfl hX
theorem ok_group_Find_c2 (a1:Seal_api) (b2:Seal_api) (r:Int) (hX:X.group_Find_c2 a1 b2=some r):Fun Tryz.prog 34 [Enc.v (a1:Seal_api),Enc.v (b2:Seal_api)] (·=Enc.v (r:Int)):=by
 refine Fun.of b34 (Nat.le_of_ble_eq_true rfl) (allVal.mem ⟨(by exact (v_val _)),(by exact (v_val _)),trivial⟩) ?_
 unfold k34
 have nd:Nd []:=Nd_nil
 unfold X.group_Find_c2 at hX
 refine SR fun K3 hK3=>?_
 refine TLc.boxV (lu:=[Enc.v a1.Number,Enc.v a1.Index,Enc.v a1.Data,Enc.v a1.Parity,Enc.v a1.Labels]) nd rfl (Cells_v (a1:Seal_api)) rfl ?_
 refine TLc.boxV (lu:=[Enc.v b2.Number,Enc.v b2.Index,Enc.v b2.Data,Enc.v b2.Parity,Enc.v b2.Labels]) nd rfl (Cells_v (b2:Seal_api)) rfl ?_
 refine M rfl rfl (TL.nil (hK3 _ _ (SR fun K4 hK4=>P1 (p_faR fs38_0 Dc rfl) rfl rfl (P1 (p_ldR (v:=Enc.v a1.Number) ty3 rfl rfl rfl rfl rfl rfl) rfl rfl (P1 (p_faR fs38_0 Dc rfl) rfl rfl (P1 (p_ldR (v:=Enc.v b2.Number) ty3 rfl rfl rfl rfl rfl rfl) rfl rfl ?_))))))
 obtain ⟨r5,hr5,hX⟩:=bind_some hX
 refine TL.cvX rfl rfl rfl (fun _=>⟨rfl,⟨rfl,⟨rfl,trivial⟩⟩⟩) (fun e=>ok_cmp_Compare_int a1.Number b2.Number _ hr5) ?_
 refine M rfl rfl (TL.nil (hK4 _ _ ?_))
 refine TK.ret ?_
 try dsimp only[thenQ]
 exact R1 rfl hX
theorem ok_group_Find (l1:(List Tape_api)) (r:(List Seal_api)) (hX:X.group_Find l1=some r):Fun Tryz.prog 11 [Enc.v (l1:(List Tape_api))] (·=Enc.v (r:(List Seal_api))):=by
 refine Fun.of b11 (Nat.le_of_ble_eq_true rfl) (allVal.mem ⟨(by exact (v_val _)),trivial⟩) ?_
 unfold k11
 have nd:Nd []:=Nd_nil
 unfold X.group_Find at hX
 refine SR fun K2 hK2=>M rfl rfl (TL.nil (hK2 _ _ (SR fun K3 hK3=>M rfl rfl (TL.nil (hK3 _ _ ?_)))))
 refine TK.ownL (α:=Seal_api) 3 38 nd rfl (.inl rfl) fun b4 nd=>?_
 refine TK.seq_k fun K5 hK5=>?_
 refine SR fun K6 hK6=>M rfl rfl (P1 (p_lenL (xs:=l1) kd22 rfl) rfl rfl (M rfl rfl (TL.nil (hK6 _ _ ?_))))
 refine TK.block ?_
 obtain ⟨o7,hO7,hA7⟩:=bind_some hX
 have E7:∀(l12:List Seal_api) (env:Env) (h:Hp),(∃b11,keepE [3] env=[(3,true,OL b11 l12)]∧Nd [(b11,RL (α:=Seal_api) 38 l12)]∧HSub [(b11,RL (α:=Seal_api) 38 l12)] h)→X.group_Find_e7 l12=some r→K5 env h:=by
  intro l12 env h hE hX
  obtain ⟨b11,henv,nd,hs⟩:=hE
  unfold X.group_Find_e7 at hX
  refine hK5 _ _ (TK.keep [3] ?_)
  rw[henv]
  refine TK.subH hs ?_
  refine SR fun K13 hK13=>M rfl rfl ?_
  obtain ⟨r14,hr14,hX⟩:=bind_some hX
  refine TL.tcX [(b11,RL (α:=Seal_api) 38 l12)] [] rfl nd (dlt rfl) rfl ⟨rfl,⟨rfl,⟨rfl,trivial⟩⟩⟩ (ok_slices_SortFunc_Lapi_Seal_api_SealL (fun a1 a2=>X.group_Find_c2 a1 a2) l12 b11 (Nd.take nd 1 rfl) _ hr14 ⟨34,0,ofL [],rfl,(fun i hi=>by cases hi),fun a1 a2 r hr=>ok_group_Find_c2 a1 a2 r hr⟩) ?_
  rintro _ _ hQ nd
  obtain ⟨rfl,rfl⟩:=hQ
  refine TL.cv 3 (OL b11 r14) rfl (Wk_eq (OL_len (by first|exact len_slices_SortFunc_Lapi_Seal_api_SealL hr14|exact (len_slices_SortFunc_Lapi_Seal_api_SealL hr14).symm))) ?_
  refine TL.cv 42 (OL b11 r14) rfl (Wk_eq (OL_len (by first|exact len_slices_SortFunc_Lapi_Seal_api_SealL hr14|exact (len_slices_SortFunc_Lapi_Seal_api_SealL hr14).symm))) ?_
  refine TL.nil (hK13 _ _ (SR fun K15 hK15=>M rfl rfl (M rfl rfl (TL.nil (hK15 _ _ ?_)))))
  refine TK.lay [(2,L r14)] nd (j:=0) rfl ⟨⟨_,rfl,fix_OL nd (j:=0) rfl,rfl⟩,trivial⟩ fun nd=>?_
  refine TK.ret ?_
  try dsimp only[thenQ]
  exact R1 rfl hX
 refine TK.iter [3,8,9,10] (fun s env h=>match s with|(out9,x10)=>∃b8,env=[(3,true,OL b8 out9),(8,true,Enc.v l1),(9,true,Enc.v ((l1.length:Int):Int)),(10,true,Enc.v x10)]∧Nd [(b8,RL (α:=Seal_api) 38 out9)]∧HSub [(b8,RL (α:=Seal_api) 38 out9)] h) hO7 ⟨b4,rfl,(Nd.pick nd (is:=[0]) Dc),(HSub.pick nd (is:=[0]) Dc)⟩ ?_
 rintro ⟨out9,x10⟩ env h x7x ⟨b8,rfl,nd,hs⟩ hX hR7
 refine TK.subH hs ?_
 unfold X.group_Find_s7 at hX
 try dsimp only at hX
 refine SR fun K16 hK16=>P1 (p_lss rfl rfl) rfl rfl (TL.nil (hK16 _ _ ?_))
 refine TK.seq_k fun K17 hK17=>?_
 refine TK.cond (b:=(decide (x10<(l1.length:Int)))) rfl (fun hc=>?_) (fun hc=>?_)
 ·have hX:=ite_t hc hX
  refine TK.skip ?_
  refine hK17 _ _ ?_
  refine TK.seq_k fun K18 hK18=>?_
  refine TK.block ?_
  refine SR fun K19 hK19=>?_
  obtain ⟨e20,he20,hX⟩:=bind_some hX
  refine P1 (p_iaL (xs:=l1) kd22 ty49 rfl rfl rfl (fun _=>he20)) rfl rfl (P1 (p_ldE (xs:=l1) (a:=e20) (e20:Tape_api) ty49 rfl rfl (fun _=>he20) rfl rfl rfl) rfl rfl ?_)
  refine TLc.alO (l:=[Enc.v ((0:Int):Int),Enc.v ((0:Int):Int),.nils,Enc.v false]) nd ty49 ti49_z rfl rfl fun b21 nd=>?_
  refine TLc.stV (lu:=Enc.cl (e20:Tape_api)) nd ty49 rfl (j:=0) rfl rfl rfl (Cells_v (e20:Tape_api)) rfl rfl [Enc.v e20.Label,Enc.v e20.Cap,Enc.v e20.Blocks,Enc.v e20.Lost] rfl fun nd=>?_
  refine TL.nil (hK19 _ _ (SR fun K22 hK22=>P1 (p_ldVa (l':=Enc.cl (e20:Tape_api)) ty49 rfl rfl nd (j:=0) rfl rfl rfl rfl (Nat.le_of_ble_eq_true rfl)) rfl rfl ?_))
  obtain ⟨r23,hr23,hX⟩:=bind_some hX
  refine TL.cvX rfl rfl rfl (fun _=>⟨rfl,⟨rfl,trivial⟩⟩) (fun e=>ok_volume_Sealed e20 _ hr23) ?_
  refine M rfl rfl (P1 (p_ex rfl rfl Dc) rfl rfl (P1 (p_ex rfl rfl Dc) rfl rfl ?_))
  refine TLc.alO (l:=[Enc.v ((0:Int):Int),Enc.v ((0:Int):Int),Enc.v ((0:Int):Int),Enc.v ((0:Int):Int),.nils]) nd ty38 ti38_z rfl rfl fun b24 nd=>?_
  refine TLc.stV (lu:=Enc.cl (r23.1:Seal_api)) nd ty38 rfl (j:=0) rfl rfl rfl (Cells_v (r23.1:Seal_api)) rfl rfl [Enc.v r23.1.Number,Enc.v r23.1.Index,Enc.v r23.1.Data,Enc.v r23.1.Parity,Enc.v r23.1.Labels] rfl fun nd=>?_
  refine M rfl rfl (TL.nil (hK22 _ _ ?_))
  refine TK.seq_k fun K25 hK25=>?_
  refine TK.seq_k fun K26 hK26=>?_
  refine TK.lay [(6,.vref (ofL [Enc.v r23.1.Number,Enc.v r23.1.Index,Enc.v r23.1.Data,Enc.v r23.1.Parity,Enc.v r23.1.Labels]) 5 0)] nd (j:=0) rfl ⟨⟨_,rfl,fix_ref nd (j:=0) rfl,rfl⟩,trivial⟩ fun nd=>?_
  have ndS:Nd [(b21,RV 49 [Enc.v e20.Label,Enc.v e20.Cap,Enc.v e20.Blocks,Enc.v e20.Lost]),(b8,RL (α:=Seal_api) 38 out9)]:=Nd.pick nd (is:=[0,1]) Dc
  refine TK.drwX (h:=[]) (hS:=[(b21,RV 49 [Enc.v e20.Label,Enc.v e20.Cap,Enc.v e20.Blocks,Enc.v e20.Lost]),(b8,RL (α:=Seal_api) 38 out9)]) [(0,0),(0,1),(0,2),(0,3),(0,4),(0,5),(0,6),(0,7),(0,8),(0,9),(0,10),(0,11),(0,12),(0,13),(0,14),(0,15),(0,16),(0,17)] mixed (by kernel_rfl) (HSub_app nd) ?_
  refine DM rfl rfl rfl ?_
  refine D0 rfl (p_not rfl) rfl rfl ?_
  refine DM rfl rfl rfl ?_
  refine DR0 (gc:=(!((!r23.2)))) rfl (vok_p (C:=cx) (p_faR fs38_4 Dc rfl (hg:=fun e=>rfl))) (gcF1 rfl) rfl ?_
  refine DR0 (gc:=(!((!r23.2)))) rfl (vok_p (C:=cx) (p_ldR (v:=Enc.v r23.1.Labels) ty36 rfl rfl rfl rfl rfl rfl (hg:=fun e=>e))) (gcF1 rfl) rfl ?_
  refine DR0 (gc:=(!((!r23.2)))) rfl (vok_p (C:=cx) (p_faR fs38_1 Dc rfl (hg:=fun e=>rfl))) (gcF1 rfl) rfl ?_
  refine DR0 (gc:=(!((!r23.2)))) rfl (vok_p (C:=cx) (p_ldR (v:=Enc.v r23.1.Index) ty3 rfl rfl rfl rfl rfl rfl (hg:=fun e=>e))) (gcF1 rfl) rfl ?_
  obtain ⟨e27,he27,hX⟩:=bind_some hX
  refine DR0 (gc:=(!((!r23.2)))) rfl (vok_p (C:=cx) (p_iaL (xs:=r23.1.Labels) kd36 ty3 rfl rfl rfl (fun e=>optG_t he27 e) (hg:=fun e=>⟨e,e⟩))) (gcF1 rfl) rfl ?_
  refine DR0 (gc:=(!((!r23.2)))) rfl (vok_p (C:=cx) (p_ldE (xs:=r23.1.Labels) (a:=e27) (e27:Int) ty3 rfl rfl (fun e=>optG_t he27 e) rfl rfl rfl (hg:=fun e=>e))) (gcF1 rfl) rfl ?_
  refine DR0 (gc:=(!((!r23.2)))) rfl (vok_p (C:=cx) (p_faV fs49_0 Dc rfl ndS (j:=0) rfl rfl (hg:=fun e=>rfl))) (gcF1 rfl) rfl ?_
  refine DR0 (gc:=(!((!r23.2)))) rfl (vok_p (C:=cx) (p_ldV (v:=Enc.v e20.Label) ty3 rfl rfl ndS (j:=0) rfl rfl rfl rfl rfl (hg:=fun e=>e))) (gcF1 rfl) rfl ?_
  refine DR0 (gc:=(!((!r23.2)))) rfl (vok_p (C:=cx) (p_neq rfl rfl (hg:=fun e=>⟨e,e⟩))) (gcF1 rfl) rfl ?_
  refine D0 rfl (p_or rfl rfl (fun e=>⟨rfl,fun h=>(not_t h)⟩)) rfl rfl ?_
  refine DM rfl rfl rfl ?_
  refine DR0 (gc:=(!(((!r23.2)||(e27 !=e20.Label))))) rfl (vok_p (C:=cx) (p_mv rfl (hg:=fun e=>rfl))) (gcF1 rfl) rfl ?_
  refine DR0 (gc:=(!(((!r23.2)||(e27 !=e20.Label))))) rfl (vok_p (C:=cx) (p_mf (l:=[.vref (ofL [Enc.v r23.1.Number,Enc.v r23.1.Index,Enc.v r23.1.Data,Enc.v r23.1.Parity,Enc.v r23.1.Labels]) 5 0]) rfl (fun _=>⟨rfl,trivial⟩))) (gcF1 rfl) rfl ?_
  obtain ⟨r28,hr28,hX⟩:=bind_some hX
  refine DR0 (gc:=(!(((!r23.2)||(e27 !=e20.Label))))) rfl (vok_lookX [L out9,.fn 32 1 (ofL [.vref (ofL [Enc.v r23.1.Number,Enc.v r23.1.Index,Enc.v r23.1.Data,Enc.v r23.1.Parity,Enc.v r23.1.Labels]) 5 0])] rfl (fun e=>⟨rfl,⟨e,⟨e,trivial⟩⟩⟩) ⟨look_OL ndS (j:=1) rfl,look_v (caps_val rfl ⟨(vref_val (l:=[Enc.v r23.1.Number,Enc.v r23.1.Index,Enc.v r23.1.Data,Enc.v r23.1.Parity,Enc.v r23.1.Labels]) rfl ⟨(v_val _),(v_val _),(v_val _),(v_val _),(v_val _),trivial⟩),trivial⟩),trivial⟩ (fun e=>ok_slices_ContainsFunc_Lapi_Seal_api_Seal out9 (fun a1=>X.group_Find_c1 a1 r23.1.Number r23.1.Index r23.1.Data r23.1.Parity r23.1.Labels) _ (optG_t hr28 e) ⟨32,1,ofL [.vref (ofL [Enc.v r23.1.Number,Enc.v r23.1.Index,Enc.v r23.1.Data,Enc.v r23.1.Parity,Enc.v r23.1.Labels]) 5 0],rfl,(caps_val rfl ⟨(vref_val (l:=[Enc.v r23.1.Number,Enc.v r23.1.Index,Enc.v r23.1.Data,Enc.v r23.1.Parity,Enc.v r23.1.Labels]) rfl ⟨(v_val _),(v_val _),(v_val _),(v_val _),(v_val _),trivial⟩),trivial⟩),fun a1 r hr=>ok_group_Find_c1 a1 r23.1.Number r23.1.Index r23.1.Data r23.1.Parity r23.1.Labels r hr⟩) (trivial)) (gcF1 rfl) rfl ?_
  refine D0 rfl (p_or rfl rfl (fun e=>⟨rfl,fun h=>(not_t h)⟩)) rfl rfl ?_
  refine DRend ?_
  refine hK26 _ _ ?_
  refine TK.cond (b:=(((!r23.2)||(e27 !=e20.Label))||r28)) rfl (fun hc=>?_) (fun hc=>?_)
  ·have hX:=ite_t hc hX
   refine TK.exit ?_
   refine hK18 _ _ ?_
   refine TK.reg ?_
   refine P1 (p_add rfl rfl) rfl rfl (M rfl rfl (TL.nil ?_))
   exact ⟨_,(some_in hX).symm,b8,rfl,(Nd.pick nd (is:=[1]) Dc),(HSub.pick nd (is:=[1]) Dc)⟩
  ·have hX:=ite_f hc hX
   refine TK.skip ?_
   refine hK25 _ _ ?_
   refine TK.reg ?_
   refine M rfl rfl (P1 (p_ldRa (l':=Enc.cl (r23.1:Seal_api)) ty38 rfl rfl rfl rfl rfl (Nat.le_of_ble_eq_true rfl)) rfl rfl ?_)
   refine TLc.lit ([r23.1]:List Seal_api) kd33 ty38 rfl ⟨⟨rfl,rfl⟩,trivial⟩ rfl rfl rfl ?_
   obtain ⟨u29,hu29,hX⟩:=bind_some hX
   refine TLc.appO nd kd33 bo33 ty38 rfl rfl (j:=1) rfl rfl (Src_L _) Dc (need_t hu29) rfl fun nd=>?_
   refine M rfl rfl (TL.nil (hK18 _ _ ?_))
   refine TK.reg ?_
   refine P1 (p_add rfl rfl) rfl rfl (M rfl rfl (TL.nil ?_))
   exact ⟨_,(some_in hX).symm,b8,rfl,(Nd.pick nd (is:=[1]) Dc),(HSub.pick nd (is:=[1]) Dc)⟩
 ·have hX:=ite_f hc hX
  refine TK.exit ?_
  obtain rfl:=hR7 _ (some_in hX).symm
  exact E7 out9 _ _ ⟨b8,rfl,(Nd.pick nd (is:=[0]) Dc),(HSub.pick nd (is:=[0]) Dc)⟩ hA7
theorem ok_cartridgelaw14_num (e1:Int) (r:Int) (hX:X.cartridgelaw14_num e1=some r):Fun Tryz.prog 10 [Enc.v (e1:Int)] (·=Enc.v (r:Int)):=by
 refine Fun.of b10 (Nat.le_of_ble_eq_true rfl) (allVal.mem ⟨(by exact (v_val _)),trivial⟩) ?_
 unfold k10
 have nd:Nd []:=Nd_nil
 unfold X.cartridgelaw14_num at hX
 refine SR fun K2 hK2=>M rfl rfl (TL.nil (hK2 _ _ (SR fun K3 hK3=>M rfl rfl (M rfl rfl (TL.nil (hK3 _ _ ?_))))))
 refine TK.ret ?_
 try dsimp only[thenQ]
 exact R1 rfl hX
theorem ok_cartridgelaw14_alive (r:Bool) (hX:X.cartridgelaw14_alive=some r):Fun Tryz.prog 5 [] (·=Enc.v (r:Bool)):=by
 refine Fun.of b5 (Nat.le_of_ble_eq_true rfl) (fun x hx=>by cases hx) ?_
 unfold k5
 have nd:Nd []:=Nd_nil
 unfold X.cartridgelaw14_alive at hX
 refine SR fun K1 hK1=>M rfl rfl (TL.nil (hK1 _ _ (SR fun K2 hK2=>?_)))
 refine TLc.litO nd ([(68:UInt8)]:List UInt8) kd42 ty5 rfl ⟨⟨rfl,rfl⟩,trivial⟩ rfl rfl rfl fun b3 nd=>?_
 refine TLc.cvtF (xs:=([(68:UInt8)]:List UInt8)) nd kd42 kd5 rfl (j:=0) rfl (by simp) rfl fun nd=>?_
 refine P1 (p_bld (l:=Enc.cl ((Unit_api.mk (1:Int) (1:Int) (0:Int) ([(68:UInt8)]:List UInt8)):Unit_api)) ty46 rfl all46 rfl (fun _=>⟨⟨rfl,trivial,rfl⟩,⟨rfl,trivial,rfl⟩,⟨rfl,trivial,rfl⟩,trivial⟩)) rfl rfl ?_
 obtain ⟨r4,hr4,hX⟩:=bind_some hX
 refine TL.cvX rfl rfl rfl (fun _=>⟨rfl,⟨rfl,trivial⟩⟩) (fun e=>ok_cartridgeref1_PutFrame (Unit_api.mk (1:Int) (1:Int) (0:Int) ([(68:UInt8)]:List UInt8)) _ hr4) ?_
 refine M rfl rfl (P1 (p_ex rfl rfl Dc) rfl rfl (P1 (p_ex rfl rfl Dc) rfl rfl (M rfl rfl (M rfl rfl (TL.nil (hK2 _ _ (SR fun K5 hK5=>M rfl rfl ?_)))))))
 refine TLc.lit ([r4.1]:List (List UInt8)) kd47 ty42 rfl ⟨⟨rfl,rfl⟩,trivial⟩ rfl rfl rfl ?_
 refine P1 (p_bld (l:=Enc.cl ((Tape_api.mk (1:Int) (4:Int) ([r4.1]:List (List UInt8)) false):Tape_api)) ty49 rfl all49 rfl (fun _=>⟨⟨rfl,trivial,rfl⟩,⟨rfl,trivial,rfl⟩,⟨rfl,trivial,rfl⟩,trivial⟩)) rfl rfl ?_
 refine TLc.lit ([(Tape_api.mk (1:Int) (4:Int) ([r4.1]:List (List UInt8)) false)]:List Tape_api) kd22 ty49 rfl ⟨⟨rfl,rfl⟩,trivial⟩ rfl rfl rfl ?_
 refine TLc.p (gc:=true) (p_bld (l:=[Enc.v ((2:Int):Int),Enc.v ((4:Int):Int),.nils,Enc.v false]) ty49 rfl all49 rfl (fun _=>⟨⟨rfl,trivial,rfl⟩,⟨rfl,trivial,rfl⟩,trivial⟩)) rfl rfl (TL.wk (v':=Enc.v ((Tape_api.mk (2:Int) (4:Int) ([]:(List (List UInt8))) false):Tape_api)) (Wk_agg ⟨Wk.refl _,Wk.refl _,Wk_nil,Wk.refl _,trivial⟩) ?_)
 refine TLc.lit ([(Tape_api.mk (2:Int) (4:Int) ([]:(List (List UInt8))) false)]:List Tape_api) kd22 ty49 rfl ⟨⟨rfl,rfl⟩,trivial⟩ rfl rfl rfl ?_
 obtain ⟨r6,hr6,hX⟩:=bind_some hX
 refine TL.cvX rfl rfl rfl (fun _=>⟨rfl,⟨rfl,⟨rfl,⟨rfl,trivial⟩⟩⟩⟩) (fun e=>ok_group_Make ([(Tape_api.mk (1:Int) (4:Int) ([r4.1]:List (List UInt8)) false)]:List Tape_api) ([(Tape_api.mk (2:Int) (4:Int) ([]:(List (List UInt8))) false)]:List Tape_api) (1:Int) _ hr6) ?_
 refine M rfl rfl (P1 (p_ex rfl rfl Dc) rfl rfl (P1 (p_ex rfl rfl Dc) rfl rfl (M rfl rfl (M rfl rfl (TL.nil (hK5 _ _ (SR fun K7 hK7=>?_)))))))
 obtain ⟨r8,hr8,hX⟩:=bind_some hX
 refine TL.cvX rfl rfl rfl (fun _=>⟨rfl,⟨rfl,trivial⟩⟩) (fun e=>(Fun.wk (args':=[L ([]:List Tape_api)]) ⟨Wk_nil,trivial⟩ (ok_group_Find ([]:List Tape_api) _ hr8))) ?_
 refine P1 (p_lenL (xs:=r8) kd33 rfl) rfl rfl (P1 (p_eql rfl rfl) rfl rfl (M rfl rfl ?_))
 refine TLc.p (gc:=(((r8.length:Int)==(0:Int)))) (p_mv rfl (hg:=fun e=>rfl)) (gcT1 rfl) rfl ?_
 obtain ⟨r9,hr9,hX⟩:=bind_some hX
 refine TL.cvX (gcT1 rfl) rfl rfl (fun e=>⟨rfl,⟨e,trivial⟩⟩) (fun e=>ok_cartridgelaw14_num r6.2 _ (optG_t hr9 e)) ?_
 refine TLc.p (gc:=(((r8.length:Int)==(0:Int)))) (p_eql rfl rfl (hg:=fun e=>⟨e,rfl⟩)) (gcT1 rfl) rfl ?_
 refine P1 (p_and rfl rfl (fun e=>⟨rfl,fun h=>h⟩)) rfl rfl (M rfl rfl ?_)
 refine TLc.p (gc:=((((r8.length:Int)==(0:Int))&&(r9==(0:Int))))) (p_mv rfl (hg:=fun e=>rfl)) (gcT1 rfl) rfl ?_
 refine TLc.p (gc:=((((r8.length:Int)==(0:Int))&&(r9==(0:Int))))) (p_lenL (xs:=r6.1) kd22 rfl (hg:=fun e=>e)) (gcT1 rfl) rfl ?_
 refine TLc.p (gc:=((((r8.length:Int)==(0:Int))&&(r9==(0:Int))))) (p_eql rfl rfl (hg:=fun e=>⟨e,rfl⟩)) (gcT1 rfl) rfl ?_
 refine P1 (p_and rfl rfl (fun e=>⟨rfl,fun h=>h⟩)) rfl rfl (M rfl rfl ?_)
 refine TLc.p (gc:=(((((r8.length:Int)==(0:Int))&&(r9==(0:Int)))&&((r6.1.length:Int)==(1:Int))))) (p_mv rfl (hg:=fun e=>rfl)) (gcT1 rfl) rfl ?_
 obtain ⟨e10,he10,hX⟩:=bind_some hX
 refine TLc.p (gc:=(((((r8.length:Int)==(0:Int))&&(r9==(0:Int)))&&((r6.1.length:Int)==(1:Int))))) (p_iaL (xs:=r6.1) kd22 ty49 rfl rfl rfl (fun e=>optG_t he10 e) (hg:=fun e=>⟨e,rfl⟩)) (gcT1 rfl) rfl ?_
 refine TLc.p (gc:=(((((r8.length:Int)==(0:Int))&&(r9==(0:Int)))&&((r6.1.length:Int)==(1:Int))))) (p_faE fs49_2 Dc rfl (hg:=fun e=>e)) (gcT1 rfl) rfl ?_
 refine TLc.p (gc:=(((((r8.length:Int)==(0:Int))&&(r9==(0:Int)))&&((r6.1.length:Int)==(1:Int))))) (p_ldE (xs:=r6.1) (a:=e10) (e10.Blocks:(List (List UInt8))) ty47 rfl rfl (fun e=>optG_t he10 e) rfl rfl rfl (hg:=fun e=>e)) (gcT1 rfl) rfl ?_
 refine TLc.p (gc:=(((((r8.length:Int)==(0:Int))&&(r9==(0:Int)))&&((r6.1.length:Int)==(1:Int))))) (p_lenL (xs:=e10.Blocks) kd47 rfl (hg:=fun e=>e)) (gcT1 rfl) rfl ?_
 refine TLc.p (gc:=(((((r8.length:Int)==(0:Int))&&(r9==(0:Int)))&&((r6.1.length:Int)==(1:Int))))) (p_eql rfl rfl (hg:=fun e=>⟨e,rfl⟩)) (gcT1 rfl) rfl ?_
 refine P1 (p_and rfl rfl (fun e=>⟨rfl,fun h=>h⟩)) rfl rfl (M rfl rfl ?_)
 refine TLc.p (gc:=((((((r8.length:Int)==(0:Int))&&(r9==(0:Int)))&&((r6.1.length:Int)==(1:Int)))&&((e10.Blocks.length:Int)==(3:Int))))) (p_mv rfl (hg:=fun e=>rfl)) (gcT1 rfl) rfl ?_
 obtain ⟨r11,hr11,hX⟩:=bind_some hX
 refine TL.cvX (gcT1 rfl) rfl rfl (fun e=>⟨rfl,⟨e,trivial⟩⟩) (fun e=>ok_group_Find r6.1 _ (optG_t hr11 e)) ?_
 refine TLc.p (gc:=((((((r8.length:Int)==(0:Int))&&(r9==(0:Int)))&&((r6.1.length:Int)==(1:Int)))&&((e10.Blocks.length:Int)==(3:Int))))) (p_lenL (xs:=r11) kd33 rfl (hg:=fun e=>e)) (gcT1 rfl) rfl ?_
 refine TLc.p (gc:=((((((r8.length:Int)==(0:Int))&&(r9==(0:Int)))&&((r6.1.length:Int)==(1:Int)))&&((e10.Blocks.length:Int)==(3:Int))))) (p_eql rfl rfl (hg:=fun e=>⟨e,rfl⟩)) (gcT1 rfl) rfl ?_
 refine P1 (p_and rfl rfl (fun e=>⟨rfl,fun h=>h⟩)) rfl rfl (M rfl rfl (TL.nil (hK7 _ _ ?_)))
 refine TK.ret ?_
 try dsimp only[thenQ]
 exact R1 rfl hX
theorem ok_cartridgelaw8_Few (t1:Tape_api) (r:Bool) (hX:X.cartridgelaw8_Few t1=some r):Fun Tryz.prog 17 [Enc.v (t1:Tape_api)] (·=Enc.v (r:Bool)):=by
 refine Fun.of b17 (Nat.le_of_ble_eq_true rfl) (allVal.mem ⟨(by exact (v_val _)),trivial⟩) ?_
 unfold k17
 have nd:Nd []:=Nd_nil
 unfold X.cartridgelaw8_Few at hX
 refine SR fun K2 hK2=>?_
 refine TLc.boxV (lu:=[Enc.v t1.Label,Enc.v t1.Cap,Enc.v t1.Blocks,Enc.v t1.Lost]) nd rfl (Cells_v (t1:Tape_api)) rfl ?_
 refine M rfl rfl (TL.nil (hK2 _ _ ?_))
 refine TK.seq_k fun K3 hK3=>?_
 refine SR fun K4 hK4=>M rfl rfl (TL.nil (hK4 _ _ ?_))
 refine TK.block ?_
 obtain ⟨o5,hO5,hA5⟩:=bind_some hX
 have E5:∀(env:Env) (h:Hp),(∃_u:Unit,keepE [1] env=[(1,true,.vref (ofL [Enc.v t1.Label,Enc.v t1.Cap,Enc.v t1.Blocks,Enc.v t1.Lost]) 4 0)]∧Nd []∧HSub [] h)→X.cartridgelaw8_Few_e5 t1=some r→K3 env h:=by
  intro env h hE hX
  obtain ⟨_u,henv,nd,hs⟩:=hE
  unfold X.cartridgelaw8_Few_e5 at hX
  refine hK3 _ _ (TK.keep [1] ?_)
  rw[henv]
  refine TK.subH hs ?_
  refine SR fun K7 hK7=>P1 (p_faR fs49_2 Dc rfl) rfl rfl (P1 (p_ldR (v:=Enc.v t1.Blocks) ty47 rfl rfl rfl rfl rfl rfl) rfl rfl (P1 (p_lenL (xs:=t1.Blocks) kd47 rfl) rfl rfl (P1 (p_leq rfl rfl) rfl rfl (M rfl rfl (TL.nil (hK7 _ _ ?_))))))
  refine TK.ret ?_
  try dsimp only[thenQ]
  exact R1 rfl hX
 refine TK.iter [1,3] (fun s env h=>match s with|i6=>∃_u:Unit,env=[(1,true,.vref (ofL [Enc.v t1.Label,Enc.v t1.Cap,Enc.v t1.Blocks,Enc.v t1.Lost]) 4 0),(3,true,Enc.v i6)]∧Nd []∧HSub [] h) hO5 ⟨(),rfl,Nd_nil,HSub.refl _⟩ ?_
 rintro i6 env h x5x ⟨_u,rfl,nd,hs⟩ hX hR5
 refine TK.subH hs ?_
 unfold X.cartridgelaw8_Few_s5 at hX
 try dsimp only at hX
 refine TK.seq_k fun K8 hK8=>?_
 refine SR fun K9 hK9=>M rfl rfl (P1 (p_faR fs49_2 Dc rfl) rfl rfl (P1 (p_ldR (v:=Enc.v t1.Blocks) ty47 rfl rfl rfl rfl rfl rfl) rfl rfl (P1 (p_lenL (xs:=t1.Blocks) kd47 rfl) rfl rfl (P1 (p_lss rfl rfl) rfl rfl (M rfl rfl ?_)))))
 refine TLc.p (gc:=((decide (i6<(t1.Blocks.length:Int))))) (p_mv rfl (hg:=fun e=>rfl)) (gcT1 rfl) rfl ?_
 refine TLc.p (gc:=((decide (i6<(t1.Blocks.length:Int))))) (p_lss rfl rfl (hg:=fun e=>⟨e,rfl⟩)) (gcT1 rfl) rfl ?_
 refine P1 (p_and rfl rfl (fun e=>⟨rfl,fun h=>h⟩)) rfl rfl (TL.nil (hK9 _ _ ?_))
 refine TK.cond (b:=((decide (i6<(t1.Blocks.length:Int)))&&(decide (i6<(100:Int))))) rfl (fun hc=>?_) (fun hc=>?_)
 ·have hX:=ite_t hc hX
  refine TK.skip ?_
  refine hK8 _ _ ?_
  refine TK.seq_k fun K10 hK10=>?_
  refine TK.block ?_
  refine SR fun K11 hK11=>P1 (p_faR fs49_2 Dc rfl) rfl rfl (P1 (p_ldR (v:=Enc.v t1.Blocks) ty47 rfl rfl rfl rfl rfl rfl) rfl rfl (M rfl rfl ?_))
  obtain ⟨e12,he12,hX⟩:=bind_some hX
  refine P1 (p_iaL (xs:=t1.Blocks) kd47 ty42 rfl rfl rfl (fun _=>he12)) rfl rfl (P1 (p_ldE (xs:=t1.Blocks) (a:=e12) (e12:(List UInt8)) ty42 rfl rfl (fun _=>he12) rfl rfl rfl) rfl rfl (P1 (p_lenL (xs:=e12) kd42 rfl) rfl rfl (P1 (p_gtr rfl rfl) rfl rfl (TL.nil (hK11 _ _ ?_)))))
  refine TK.cond (b:=(decide ((e12.length:Int)>(300:Int)))) rfl (fun hc=>?_) (fun hc=>?_)
  ·have hX:=ite_t hc hX
   refine SR fun K13 hK13=>M rfl rfl (TL.nil (hK13 _ _ ?_))
   refine TK.ret ?_
   obtain rfl:=hR5 _ (some_in hX).symm
   replace hX:=hA5
   try dsimp only[thenQ]
   exact R1 rfl hX
  ·have hX:=ite_f hc hX
   refine TK.skip ?_
   refine hK10 _ _ ?_
   refine TK.reg ?_
   refine M rfl rfl (P1 (p_add rfl rfl) rfl rfl (M rfl rfl (TL.nil ?_)))
   exact ⟨_,(some_in hX).symm,(),rfl,Nd_nil,HSub.refl _⟩
 ·have hX:=ite_f hc hX
  refine TK.exit ?_
  obtain rfl:=hR5 _ (some_in hX).symm
  exact E5 _ _ ⟨(),rfl,Nd_nil,HSub.refl _⟩ hA5
theorem ok_cartridgelaw13_Few (l1:(List Tape_api)) (r:Bool) (hX:X.cartridgelaw13_Few l1=some r):Fun Tryz.prog 6 [Enc.v (l1:(List Tape_api))] (·=Enc.v (r:Bool)):=by
 refine Fun.of b6 (Nat.le_of_ble_eq_true rfl) (allVal.mem ⟨(by exact (v_val _)),trivial⟩) ?_
 unfold k6
 have nd:Nd []:=Nd_nil
 unfold X.cartridgelaw13_Few at hX
 refine SR fun K2 hK2=>M rfl rfl (TL.nil (hK2 _ _ (SR fun K3 hK3=>M rfl rfl (TL.nil (hK3 _ _ ?_)))))
 refine TK.seq_k fun K4 hK4=>?_
 refine SR fun K5 hK5=>M rfl rfl (TL.nil (hK5 _ _ ?_))
 refine TK.block ?_
 obtain ⟨o6,hO6,hA6⟩:=bind_some hX
 have E6:∀(n9:Int) (env:Env) (h:Hp),(∃_u:Unit,keepE [0,3] env=[(0,true,Enc.v l1),(3,true,Enc.v n9)]∧Nd []∧HSub [] h)→X.cartridgelaw13_Few_e6 l1 n9=some r→K4 env h:=by
  intro n9 env h hE hX
  obtain ⟨_u,henv,nd,hs⟩:=hE
  unfold X.cartridgelaw13_Few_e6 at hX
  refine hK4 _ _ (TK.keep [0,3] ?_)
  rw[henv]
  refine TK.subH hs ?_
  refine SR fun K10 hK10=>M rfl rfl (P1 (p_lenL (xs:=l1) kd22 rfl) rfl rfl (P1 (p_leq rfl rfl) rfl rfl (M rfl rfl ?_)))
  refine TLc.p (gc:=((decide ((l1.length:Int)≤(14:Int))))) (p_mv rfl (hg:=fun e=>rfl)) (gcT1 rfl) rfl ?_
  refine TLc.p (gc:=((decide ((l1.length:Int)≤(14:Int))))) (p_leq rfl rfl (hg:=fun e=>⟨e,rfl⟩)) (gcT1 rfl) rfl ?_
  refine P1 (p_and rfl rfl (fun e=>⟨rfl,fun h=>h⟩)) rfl rfl (M rfl rfl (TL.nil (hK10 _ _ ?_)))
  refine TK.ret ?_
  try dsimp only[thenQ]
  exact R1 rfl hX
 refine TK.iter [0,3,4] (fun s env h=>match s with|(n7,i8)=>∃_u:Unit,env=[(0,true,Enc.v l1),(3,true,Enc.v n7),(4,true,Enc.v i8)]∧Nd []∧HSub [] h) hO6 ⟨(),rfl,Nd_nil,HSub.refl _⟩ ?_
 rintro ⟨n7,i8⟩ env h x6x ⟨_u,rfl,nd,hs⟩ hX hR6
 refine TK.subH hs ?_
 unfold X.cartridgelaw13_Few_s6 at hX
 try dsimp only at hX
 refine TK.seq_k fun K11 hK11=>?_
 refine SR fun K12 hK12=>M rfl rfl (M rfl rfl (P1 (p_lenL (xs:=l1) kd22 rfl) rfl rfl (P1 (p_lss rfl rfl) rfl rfl (M rfl rfl ?_))))
 refine TLc.p (gc:=((decide (i8<(l1.length:Int))))) (p_mv rfl (hg:=fun e=>rfl)) (gcT1 rfl) rfl ?_
 refine TLc.p (gc:=((decide (i8<(l1.length:Int))))) (p_lss rfl rfl (hg:=fun e=>⟨e,rfl⟩)) (gcT1 rfl) rfl ?_
 refine P1 (p_and rfl rfl (fun e=>⟨rfl,fun h=>h⟩)) rfl rfl (TL.nil (hK12 _ _ ?_))
 refine TK.cond (b:=((decide (i8<(l1.length:Int)))&&(decide (i8<(20:Int))))) rfl (fun hc=>?_) (fun hc=>?_)
 ·have hX:=ite_t hc hX
  refine TK.skip ?_
  refine hK11 _ _ ?_
  refine TK.seq_k fun K13 hK13=>?_
  refine TK.block ?_
  refine TK.seq_k fun K14 hK14=>?_
  refine SR fun K15 hK15=>M rfl rfl (M rfl rfl ?_)
  obtain ⟨e16,he16,hX⟩:=bind_some hX
  refine P1 (p_iaL (xs:=l1) kd22 ty49 rfl rfl rfl (fun _=>he16)) rfl rfl (P1 (p_ldE (xs:=l1) (a:=e16) (e16:Tape_api) ty49 rfl rfl (fun _=>he16) rfl rfl rfl) rfl rfl ?_)
  obtain ⟨r17,hr17,hX⟩:=bind_some hX
  refine TL.cvX rfl rfl rfl (fun _=>⟨rfl,⟨rfl,trivial⟩⟩) (fun e=>ok_cartridgelaw8_Few e16 _ hr17) ?_
  refine P1 (p_not rfl) rfl rfl (TL.nil (hK15 _ _ ?_))
  refine TK.cond (b:=(!r17)) rfl (fun hc=>?_) (fun hc=>?_)
  ·have hX:=ite_t hc hX
   refine SR fun K18 hK18=>M rfl rfl (TL.nil (hK18 _ _ ?_))
   refine TK.ret ?_
   obtain rfl:=hR6 _ (some_in hX).symm
   replace hX:=hA6
   try dsimp only[thenQ]
   exact R1 rfl hX
  ·have hX:=ite_f hc hX
   refine TK.skip ?_
   refine hK14 _ _ ?_
   refine TK.reg ?_
   refine M rfl rfl (M rfl rfl (M rfl rfl ?_))
   obtain ⟨e19,he19,hX⟩:=bind_some hX
   refine P1 (p_iaL (xs:=l1) kd22 ty49 rfl rfl rfl (fun _=>he19)) rfl rfl (P1 (p_faE fs49_2 Dc rfl) rfl rfl (P1 (p_ldE (xs:=l1) (a:=e19) (e19.Blocks:(List (List UInt8))) ty47 rfl rfl (fun _=>he19) rfl rfl rfl) rfl rfl (P1 (p_lenL (xs:=e19.Blocks) kd47 rfl) rfl rfl (P1 (p_add rfl rfl) rfl rfl (M rfl rfl (TL.nil (hK13 _ _ ?_)))))))
   refine TK.reg ?_
   refine M rfl rfl (P1 (p_add rfl rfl) rfl rfl (M rfl rfl (TL.nil ?_)))
   exact ⟨_,(some_in hX).symm,(),rfl,Nd_nil,HSub.refl _⟩
 ·have hX:=ite_f hc hX
  refine TK.exit ?_
  obtain rfl:=hR6 _ (some_in hX).symm
  exact E6 n7 _ _ ⟨(),rfl,Nd_nil,HSub.refl _⟩ hA6
theorem ok_cartridgeref10_StripeLen (l1:(List Tape_api)) (r:Int) (hX:X.cartridgeref10_StripeLen l1=some r):Fun Tryz.prog 23 [Enc.v (l1:(List Tape_api))] (·=Enc.v (r:Int)):=by
 refine Fun.of b23 (Nat.le_of_ble_eq_true rfl) (allVal.mem ⟨(by exact (v_val _)),trivial⟩) ?_
 unfold k23
 have nd:Nd []:=Nd_nil
 unfold X.cartridgeref10_StripeLen at hX
 refine SR fun K2 hK2=>M rfl rfl (TL.nil (hK2 _ _ (SR fun K3 hK3=>M rfl rfl (TL.nil (hK3 _ _ ?_)))))
 refine TK.seq_k fun K4 hK4=>?_
 refine SR fun K5 hK5=>M rfl rfl (TL.nil (hK5 _ _ ?_))
 refine TK.block ?_
 obtain ⟨o6,hO6,hA6⟩:=bind_some hX
 have E6:∀(n9:Int) (env:Env) (h:Hp),(∃_u:Unit,keepE [3] env=[(3,true,Enc.v n9)]∧Nd []∧HSub [] h)→X.cartridgeref10_StripeLen_e6 n9=some r→K4 env h:=by
  intro n9 env h hE hX
  obtain ⟨_u,henv,nd,hs⟩:=hE
  unfold X.cartridgeref10_StripeLen_e6 at hX
  refine hK4 _ _ (TK.keep [3] ?_)
  rw[henv]
  refine TK.subH hs ?_
  refine SR fun K10 hK10=>M rfl rfl (M rfl rfl (TL.nil (hK10 _ _ ?_)))
  refine TK.ret ?_
  try dsimp only[thenQ]
  exact R1 rfl hX
 refine TK.iter [0,3,4] (fun s env h=>match s with|(n7,i8)=>∃_u:Unit,env=[(0,true,Enc.v l1),(3,true,Enc.v n7),(4,true,Enc.v i8)]∧Nd []∧HSub [] h) hO6 ⟨(),rfl,Nd_nil,HSub.refl _⟩ ?_
 rintro ⟨n7,i8⟩ env h x6x ⟨_u,rfl,nd,hs⟩ hX hR6
 refine TK.subH hs ?_
 unfold X.cartridgeref10_StripeLen_s6 at hX
 try dsimp only at hX
 refine TK.seq_k fun K11 hK11=>?_
 refine SR fun K12 hK12=>M rfl rfl (M rfl rfl (P1 (p_lenL (xs:=l1) kd22 rfl) rfl rfl (P1 (p_lss rfl rfl) rfl rfl (TL.nil (hK12 _ _ ?_)))))
 refine TK.cond (b:=(decide (i8<(l1.length:Int)))) rfl (fun hc=>?_) (fun hc=>?_)
 ·have hX:=ite_t hc hX
  refine TK.skip ?_
  refine hK11 _ _ ?_
  refine TK.seq_k fun K13 hK13=>?_
  have J13:∀(n14:Int) (env:Env) (h:Hp),(∃_u:Unit,keepE [0,3,4] env=[(0,true,Enc.v l1),(3,true,Enc.v n14),(4,true,Enc.v i8)]∧Nd []∧HSub [] h)→X.cartridgeref10_StripeLen_j13 i8 n14=some x6x→K13 env h:=by
   intro n14 env h hE hX
   obtain ⟨_u,henv,nd,hs⟩:=hE
   unfold X.cartridgeref10_StripeLen_j13 at hX
   refine hK13 _ _ (TK.keep [0,3,4] ?_)
   rw[henv]
   refine TK.subH hs ?_
   refine TK.reg ?_
   refine M rfl rfl (P1 (p_add rfl rfl) rfl rfl (M rfl rfl (TL.nil ?_)))
   exact ⟨_,(some_in hX).symm,(),rfl,Nd_nil,HSub.refl _⟩
  refine TK.block ?_
  refine SR fun K15 hK15=>M rfl rfl (M rfl rfl ?_)
  obtain ⟨e16,he16,hX⟩:=bind_some hX
  refine P1 (p_iaL (xs:=l1) kd22 ty49 rfl rfl rfl (fun _=>he16)) rfl rfl (P1 (p_faE fs49_3 Dc rfl) rfl rfl (P1 (p_ldE (xs:=l1) (a:=e16) (e16.Lost:Bool) ty4 rfl rfl (fun _=>he16) rfl rfl rfl) rfl rfl (P1 (p_not rfl) rfl rfl (M rfl rfl ?_))))
  refine TLc.p (gc:=((!e16.Lost))) (p_mv rfl (hg:=fun e=>rfl)) (gcT1 rfl) rfl ?_
  refine TLc.p (gc:=((!e16.Lost))) (p_mv rfl (hg:=fun e=>rfl)) (gcT1 rfl) rfl ?_
  obtain ⟨e17,he17,hX⟩:=bind_some hX
  refine TLc.p (gc:=((!e16.Lost))) (p_iaL (xs:=l1) kd22 ty49 rfl rfl rfl (fun e=>optG_t he17 e) (hg:=fun e=>⟨e,e⟩)) (gcT1 rfl) rfl ?_
  refine TLc.p (gc:=((!e16.Lost))) (p_faE fs49_2 Dc rfl (hg:=fun e=>e)) (gcT1 rfl) rfl ?_
  refine TLc.p (gc:=((!e16.Lost))) (p_ldE (xs:=l1) (a:=e17) (e17.Blocks:(List (List UInt8))) ty47 rfl rfl (fun e=>optG_t he17 e) rfl rfl rfl (hg:=fun e=>e)) (gcT1 rfl) rfl ?_
  refine TLc.p (gc:=((!e16.Lost))) (p_lenL (xs:=e17.Blocks) kd47 rfl (hg:=fun e=>e)) (gcT1 rfl) rfl ?_
  refine TLc.p (gc:=((!e16.Lost))) (p_mv rfl (hg:=fun e=>rfl)) (gcT1 rfl) rfl ?_
  refine TLc.p (gc:=((!e16.Lost))) (p_gtr rfl rfl (hg:=fun e=>⟨e,e⟩)) (gcT1 rfl) rfl ?_
  refine P1 (p_and rfl rfl (fun e=>⟨rfl,fun h=>h⟩)) rfl rfl (TL.nil (hK15 _ _ ?_))
  refine TK.cond (b:=((!e16.Lost)&&(decide ((e17.Blocks.length:Int)>n7)))) rfl (fun hc=>?_) (fun hc=>?_)
  ·have hX:=ite_t hc hX
   refine TK.reg ?_
   refine M rfl rfl (M rfl rfl ?_)
   obtain ⟨e18,he18,hX⟩:=bind_some hX
   refine P1 (p_iaL (xs:=l1) kd22 ty49 rfl rfl rfl (fun _=>he18)) rfl rfl (P1 (p_faE fs49_2 Dc rfl) rfl rfl (P1 (p_ldE (xs:=l1) (a:=e18) (e18.Blocks:(List (List UInt8))) ty47 rfl rfl (fun _=>he18) rfl rfl rfl) rfl rfl (P1 (p_lenL (xs:=e18.Blocks) kd47 rfl) rfl rfl (M rfl rfl (TL.nil ?_)))))
   exact J13 (e18.Blocks.length:Int) _ _ ⟨(),rfl,Nd_nil,HSub.refl _⟩ hX
  ·have hX:=ite_f hc hX
   refine TK.skip ?_
   exact J13 n7 _ _ ⟨(),rfl,Nd_nil,HSub.refl _⟩ hX
 ·have hX:=ite_f hc hX
  refine TK.exit ?_
  obtain rfl:=hR6 _ (some_in hX).symm
  exact E6 n7 _ _ ⟨(),rfl,Nd_nil,HSub.refl _⟩ hA6
theorem ok_cartridgeref1_NewReader (b1:(List UInt8)) (nd:Nd []) (r:((List UInt8)×Bool)) (hX:X.cartridgeref1_NewReader b1=some r):TCX Tryz.prog 82 [Enc.v (b1:(List UInt8))] [] (fun rv h'=>∃b5,rv= .ref b5 0 2∧h'=[(b5,RV 151 [Enc.v (r.1:(List UInt8)),Enc.v (r.2:Bool)])]):=by
 refine TCX.of b82 (Nat.le_of_ble_eq_true rfl) ?_
 unfold k82
 unfold X.cartridgeref1_NewReader at hX
 refine SR fun K2 hK2=>M rfl rfl (TL.nil (hK2 _ _ (SR fun K3 hK3=>M rfl rfl (P1 (p_bld (l:=Enc.cl ((Reader_ref1.mk b1 false):Reader_ref1)) ty151 rfl all151 rfl (fun _=>⟨⟨rfl,trivial,rfl⟩,trivial⟩)) rfl rfl ?_))))
 refine TLc.boxO (lu:=[Enc.v ((Reader_ref1.mk b1 false).b_:(List UInt8)),Enc.v ((Reader_ref1.mk b1 false).bad_:Bool)]) nd rfl (Cells_v ((Reader_ref1.mk b1 false):Reader_ref1)) rfl fun b4 nd=>?_
 refine M rfl rfl (TL.nil (hK3 _ _ ?_))
 refine TK.ret ?_
 try dsimp only[thenQ]
 exact retX (v:= .ref b4 0 2) (res1 rfl) (by obtain rfl:=some_in hX;exact ⟨b4,rfl,rfl⟩) nd (inH_ref nd (j:=0) rfl) ⟨rowIn_RV ⟨inH_val (v_val _),inH_val (v_val _),trivial⟩,trivial⟩
theorem ok_cartridgeref1_Reader_take (n4:Int) (b1:(List UInt8)) (bad2:Bool) (b3:Nat) (nd:Nd [(b3,RV 151 [Enc.v (b1:(List UInt8)),Enc.v (bad2:Bool)])]) (r:((List UInt8)×((List UInt8)×Bool))) (hX:X.cartridgeref1_Reader_take n4 b1 bad2=some r):TCX Tryz.prog 87 [.ref b3 0 2,Enc.v (n4:Int)] [(b3,RV 151 [Enc.v (b1:(List UInt8)),Enc.v (bad2:Bool)])] (fun rv h'=>rv=Enc.v (r.1:(List UInt8))∧h'=[(b3,RV 151 [Enc.v (r.2.1:(List UInt8)),Enc.v (r.2.2:Bool)])]):=by
 refine TCX.of b87 (Nat.le_of_ble_eq_true rfl) ?_
 unfold k87
 unfold X.cartridgeref1_Reader_take at hX
 refine SR fun K5 hK5=>M rfl rfl (TL.nil (hK5 _ _ ?_))
 refine TK.seq_k fun K6 hK6=>?_
 refine SR fun K7 hK7=>M rfl rfl (P1 (p_ncR rfl (fun _=>refOK_of nd (j:=0) rfl rfl)) rfl rfl (P1 (p_faV fs151_1 Dc rfl nd (j:=0) rfl rfl) rfl rfl (P1 (p_ldV (v:=Enc.v bad2) ty4 rfl rfl nd (j:=0) rfl rfl rfl rfl rfl) rfl rfl (M rfl rfl ?_))))
 refine TLc.p (gc:=(!bad2)) (p_mv rfl (hg:=fun e=>rfl)) (gcF1 rfl) rfl ?_
 refine TLc.p (gc:=(!bad2)) (p_ncR rfl (fun _=>refOK_of nd (j:=0) rfl rfl) (hg:=fun e=>e)) (gcF1 rfl) rfl ?_
 refine TLc.p (gc:=(!bad2)) (p_faV fs151_0 Dc rfl nd (j:=0) rfl rfl (hg:=fun e=>e)) (gcF1 rfl) rfl ?_
 refine TLc.p (gc:=(!bad2)) (p_ldV (v:=Enc.v b1) ty42 rfl rfl nd (j:=0) rfl rfl rfl rfl rfl (hg:=fun e=>e)) (gcF1 rfl) rfl ?_
 refine TLc.p (gc:=(!bad2)) (p_lenL (xs:=b1) kd42 rfl (hg:=fun e=>e)) (gcF1 rfl) rfl ?_
 refine TLc.p (gc:=(!bad2)) (p_mv rfl (hg:=fun e=>rfl)) (gcF1 rfl) rfl ?_
 refine TLc.p (gc:=(!bad2)) (p_lss rfl rfl (hg:=fun e=>⟨e,e⟩)) (gcF1 rfl) rfl ?_
 refine P1 (p_or rfl rfl (fun e=>⟨rfl,fun h=>(not_t h)⟩)) rfl rfl (TL.nil (hK7 _ _ ?_))
 refine TK.cond (b:=(bad2||(decide ((b1.length:Int)<n4)))) rfl (fun hc=>?_) (fun hc=>?_)
 ·have hX:=ite_t hc hX
  refine SR fun K8 hK8=>M rfl rfl (P1 (p_ncR rfl (fun _=>refOK_of nd (j:=0) rfl rfl)) rfl rfl (P1 (p_faV fs151_1 Dc rfl nd (j:=0) rfl rfl) rfl rfl ?_))
  refine TLc.stV (lu:=Enc.cl (true:Bool)) nd ty4 rfl (j:=0) rfl rfl rfl (Cells_v (true:Bool)) rfl rfl [Enc.v b1,Enc.v true] rfl fun nd=>?_
  refine TL.nil (hK8 _ _ (SR fun K9 hK9=>M rfl rfl (TL.nil (hK9 _ _ ?_))))
  refine TK.wk 4 (L ([]:(List UInt8))) rfl Wk_nil ?_
  refine TK.ret ?_
  try dsimp only[thenQ]
  exact retX (v:=Enc.v (([]:(List UInt8)):(List UInt8))) (res1 rfl) (by obtain rfl:=some_in hX;exact ⟨rfl,rfl⟩) nd (inH_val (v_val _)) ⟨rowIn_RV ⟨inH_val (v_val _),inH_val (v_val _),trivial⟩,trivial⟩
 ·have hX:=ite_f hc hX
  refine TK.skip ?_
  refine hK6 _ _ (SR fun K10 hK10=>M rfl rfl (P1 (p_ncR rfl (fun _=>refOK_of nd (j:=0) rfl rfl)) rfl rfl (P1 (p_faV fs151_0 Dc rfl nd (j:=0) rfl rfl) rfl rfl (P1 (p_ldV (v:=Enc.v b1) ty42 rfl rfl nd (j:=0) rfl rfl rfl rfl rfl) rfl rfl (M rfl rfl ?_)))))
  obtain ⟨u11,hu11,hX⟩:=bind_some hX
  refine P1 (p_sliL (xs:=b1) (l:=(0:Int)) (k:=n4) kd42 ty5 rfl rfl rfl rfl (fun e=>need_t hu11)) rfl rfl (M rfl rfl (TL.nil (hK10 _ _ (SR fun K12 hK12=>M rfl rfl (M rfl rfl (P1 (p_ncR rfl (fun _=>refOK_of nd (j:=0) rfl rfl)) rfl rfl (P1 (p_faV fs151_0 Dc rfl nd (j:=0) rfl rfl) rfl rfl (P1 (p_ldV (v:=Enc.v b1) ty42 rfl rfl nd (j:=0) rfl rfl rfl rfl rfl) rfl rfl (M rfl rfl ?_)))))))))
  obtain ⟨u13,hu13,hX⟩:=bind_some hX
  refine P1 (p_sliL (xs:=b1) (l:=n4) (k:=(b1.length:Int)) kd42 ty5 rfl rfl rfl rfl (fun e=>need_t hu13)) rfl rfl (P1 (p_ncR rfl (fun _=>refOK_of nd (j:=0) rfl rfl)) rfl rfl (P1 (p_faV fs151_0 Dc rfl nd (j:=0) rfl rfl) rfl rfl ?_))
  refine TLc.stV (lu:=Enc.cl ((slc b1 n4 (b1.length:Int)):(List UInt8))) nd ty42 rfl (j:=0) rfl rfl rfl (Cells_v ((slc b1 n4 (b1.length:Int)):(List UInt8))) rfl rfl [Enc.v ((slc b1 n4 (b1.length:Int)):(List UInt8)),Enc.v bad2] rfl fun nd=>?_
  refine TL.nil (hK12 _ _ (SR fun K14 hK14=>M rfl rfl (M rfl rfl (TL.nil (hK14 _ _ ?_)))))
  refine TK.ret ?_
  try dsimp only[thenQ]
  exact retX (v:=Enc.v ((slc b1 (0:Int) n4):(List UInt8))) (res1 rfl) (by obtain rfl:=some_in hX;exact ⟨rfl,rfl⟩) nd (inH_val (v_val _)) ⟨rowIn_RV ⟨inH_val (v_val _),inH_val (v_val _),trivial⟩,trivial⟩
theorem ok_cartridgeref1_Reader_Byte (b1:(List UInt8)) (bad2:Bool) (b3:Nat) (nd:Nd [(b3,RV 151 [Enc.v (b1:(List UInt8)),Enc.v (bad2:Bool)])]) (r:(UInt8×((List UInt8)×Bool))) (hX:X.cartridgeref1_Reader_Byte b1 bad2=some r):TCX Tryz.prog 83 [.ref b3 0 2] [(b3,RV 151 [Enc.v (b1:(List UInt8)),Enc.v (bad2:Bool)])] (fun rv h'=>rv=Enc.v (r.1:UInt8)∧h'=[(b3,RV 151 [Enc.v (r.2.1:(List UInt8)),Enc.v (r.2.2:Bool)])]):=by
 refine TCX.of b83 (Nat.le_of_ble_eq_true rfl) ?_
 unfold k83
 unfold X.cartridgeref1_Reader_Byte at hX
 refine SR fun K4 hK4=>M rfl rfl (TL.nil (hK4 _ _ (SR fun K5 hK5=>M rfl rfl ?_)))
 obtain ⟨r6,hr6,hX⟩:=bind_some hX
 refine TL.tcX [(b3,RV 151 [Enc.v b1,Enc.v bad2])] [] rfl nd (dlt rfl) rfl ⟨rfl,⟨rfl,⟨rfl,trivial⟩⟩⟩ (ok_cartridgeref1_Reader_take (1:Int) b1 bad2 b3 (Nd.take nd 1 rfl) _ hr6) ?_
 rintro _ _ hQ nd
 obtain ⟨rfl,rfl⟩:=hQ
 refine M rfl rfl (TL.nil (hK5 _ _ ?_))
 refine TK.seq_k fun K8 hK8=>?_
 refine SR fun K9 hK9=>M rfl rfl (P1 (p_lenL (xs:=r6.1) kd42 rfl) rfl rfl (P1 (p_eql rfl rfl) rfl rfl (TL.nil (hK9 _ _ ?_))))
 refine TK.cond (b:=((r6.1.length:Int)==(0:Int))) rfl (fun hc=>?_) (fun hc=>?_)
 ·have hX:=ite_t hc hX
  refine SR fun K10 hK10=>M rfl rfl (TL.nil (hK10 _ _ ?_))
  refine TK.ret ?_
  try dsimp only[thenQ]
  exact retX (v:=Enc.v ((0:UInt8):UInt8)) (res1 rfl) (by obtain rfl:=some_in hX;exact ⟨rfl,rfl⟩) nd (inH_val (v_val _)) ⟨rowIn_RV ⟨inH_val (v_val _),inH_val (v_val _),trivial⟩,trivial⟩
 ·have hX:=ite_f hc hX
  refine TK.skip ?_
  refine hK8 _ _ (SR fun K11 hK11=>M rfl rfl ?_)
  obtain ⟨e12,he12,hX⟩:=bind_some hX
  refine P1 (p_iaL (xs:=r6.1) kd42 ty5 rfl rfl rfl (fun _=>he12)) rfl rfl (P1 (p_ldE (xs:=r6.1) (a:=e12) (e12:UInt8) ty5 rfl rfl (fun _=>he12) rfl rfl rfl) rfl rfl (M rfl rfl (TL.nil (hK11 _ _ ?_))))
  refine TK.ret ?_
  try dsimp only[thenQ]
  exact retX (v:=Enc.v e12) (res1 rfl) (by obtain rfl:=some_in hX;exact ⟨rfl,rfl⟩) nd (inH_val (v_val _)) ⟨rowIn_RV ⟨inH_val (v_val _),inH_val (v_val _),trivial⟩,trivial⟩
theorem ok_cartridgeref1_Reader_Int (b1:(List UInt8)) (bad2:Bool) (b3:Nat) (nd:Nd [(b3,RV 151 [Enc.v (b1:(List UInt8)),Enc.v (bad2:Bool)])]) (r:(Int×((List UInt8)×Bool))) (hX:X.cartridgeref1_Reader_Int b1 bad2=some r):TCX Tryz.prog 84 [.ref b3 0 2] [(b3,RV 151 [Enc.v (b1:(List UInt8)),Enc.v (bad2:Bool)])] (fun rv h'=>rv=Enc.v (r.1:Int)∧h'=[(b3,RV 151 [Enc.v (r.2.1:(List UInt8)),Enc.v (r.2.2:Bool)])]):=by
 refine TCX.of b84 (Nat.le_of_ble_eq_true rfl) ?_
 unfold k84
 unfold X.cartridgeref1_Reader_Int at hX
 refine SR fun K4 hK4=>M rfl rfl (TL.nil (hK4 _ _ (SR fun K5 hK5=>M rfl rfl ?_)))
 obtain ⟨r6,hr6,hX⟩:=bind_some hX
 refine TL.tcX [(b3,RV 151 [Enc.v b1,Enc.v bad2])] [] rfl nd (dlt rfl) rfl ⟨rfl,⟨rfl,⟨rfl,trivial⟩⟩⟩ (ok_cartridgeref1_Reader_take (4:Int) b1 bad2 b3 (Nd.take nd 1 rfl) _ hr6) ?_
 rintro _ _ hQ nd
 obtain ⟨rfl,rfl⟩:=hQ
 refine M rfl rfl (TL.nil (hK5 _ _ (SR fun K8 hK8=>M rfl rfl (TL.nil (hK8 _ _ ?_)))))
 refine TK.seq_k fun K9 hK9=>?_
 refine SR fun K10 hK10=>M rfl rfl (TL.nil (hK10 _ _ ?_))
 refine TK.block ?_
 obtain ⟨o11,hO11,hA11⟩:=bind_some hX
 have E11:∀(n16:Int) (env:Env) (h:Hp),(∃_u:Unit,keepE [0,4] env=[(0,true,.ref b3 0 2),(4,true,Enc.v n16)]∧Nd [(b3,RV 151 [Enc.v r6.2.1,Enc.v r6.2.2])]∧HSub [(b3,RV 151 [Enc.v r6.2.1,Enc.v r6.2.2])] h)→X.cartridgeref1_Reader_Int_e11 r6 n16=some r→K9 env h:=by
  intro n16 env h hE hX
  obtain ⟨_u,henv,nd,hs⟩:=hE
  unfold X.cartridgeref1_Reader_Int_e11 at hX
  refine hK9 _ _ (TK.keep [0,4] ?_)
  rw[henv]
  refine TK.subH hs ?_
  refine SR fun K17 hK17=>M rfl rfl (M rfl rfl (TL.nil (hK17 _ _ ?_)))
  refine TK.ret ?_
  try dsimp only[thenQ]
  exact retX (v:=Enc.v n16) (res1 rfl) (by obtain rfl:=some_in hX;exact ⟨rfl,rfl⟩) nd (inH_val (v_val _)) ⟨rowIn_RV ⟨inH_val (v_val _),inH_val (v_val _),trivial⟩,trivial⟩
 refine TK.iter [0,3,4,5] (fun s env h=>match s with|(n13,i14)=>∃_u:Unit,env=[(0,true,.ref b3 0 2),(3,true,Enc.v r6.1),(4,true,Enc.v n13),(5,true,Enc.v i14)]∧Nd [(b3,RV 151 [Enc.v r6.2.1,Enc.v r6.2.2])]∧HSub [(b3,RV 151 [Enc.v r6.2.1,Enc.v r6.2.2])] h) hO11 ⟨(),rfl,(Nd.pick nd (is:=[0]) Dc),(HSub.pick nd (is:=[0]) Dc)⟩ ?_
 rintro ⟨n13,i14⟩ env h x11x ⟨_u,rfl,nd,hs⟩ hX hR11
 refine TK.subH hs ?_
 unfold X.cartridgeref1_Reader_Int_s11 at hX
 try dsimp only at hX
 refine TK.seq_k fun K18 hK18=>?_
 refine SR fun K19 hK19=>M rfl rfl (M rfl rfl (P1 (p_lenL (xs:=r6.1) kd42 rfl) rfl rfl (P1 (p_lss rfl rfl) rfl rfl (TL.nil (hK19 _ _ ?_)))))
 refine TK.cond (b:=(decide (i14<(r6.1.length:Int)))) rfl (fun hc=>?_) (fun hc=>?_)
 ·have hX:=ite_t hc hX
  refine TK.skip ?_
  refine hK18 _ _ ?_
  refine TK.seq_k fun K20 hK20=>?_
  refine TK.block ?_
  refine TK.reg ?_
  refine M rfl rfl (P1 (p_shl rfl rfl (fun _=>by omega)) rfl rfl (M rfl rfl (M rfl rfl ?_)))
  obtain ⟨e21,he21,hX⟩:=bind_some hX
  refine P1 (p_iaL (xs:=r6.1) kd42 ty5 rfl rfl rfl (fun _=>he21)) rfl rfl (P1 (p_ldE (xs:=r6.1) (a:=e21) (e21:UInt8) ty5 rfl rfl (fun _=>he21) rfl rfl rfl) rfl rfl (P1 (p_cvt src5 kd3 rfl (cv_8 e21)) rfl rfl (P1 (p_or64 rfl rfl) rfl rfl (M rfl rfl (TL.nil (hK20 _ _ ?_))))))
  refine TK.reg ?_
  refine M rfl rfl (P1 (p_add rfl rfl) rfl rfl (M rfl rfl (TL.nil ?_)))
  exact ⟨_,(some_in hX).symm,(),rfl,(Nd.pick nd (is:=[0]) Dc),(HSub.pick nd (is:=[0]) Dc)⟩
 ·have hX:=ite_f hc hX
  refine TK.exit ?_
  obtain rfl:=hR11 _ (some_in hX).symm
  exact E11 n13 _ _ ⟨(),rfl,(Nd.pick nd (is:=[0]) Dc),(HSub.pick nd (is:=[0]) Dc)⟩ hA11
theorem ok_cartridgeref1_Reader_Bad (b1:(List UInt8)) (bad2:Bool) (r:Bool) (hX:X.cartridgeref1_Reader_Bad b1 bad2=some r):Fun Tryz.prog 85 [.vref (ofL [Enc.v (b1:(List UInt8)),Enc.v (bad2:Bool)]) 2 0] (·=Enc.v (r:Bool)):=by
 refine Fun.of b85 (Nat.le_of_ble_eq_true rfl) (allVal.mem ⟨(by exact (vref_val (l:=[Enc.v (b1:(List UInt8)),Enc.v (bad2:Bool)]) rfl ⟨(v_val _),(v_val _),trivial⟩)),trivial⟩) ?_
 unfold k85
 have nd:Nd []:=Nd_nil
 unfold X.cartridgeref1_Reader_Bad at hX
 refine SR fun K3 hK3=>M rfl rfl (TL.nil (hK3 _ _ (SR fun K4 hK4=>M rfl rfl (P1 (p_ncV rfl) rfl rfl (P1 (p_faR fs151_1 Dc rfl) rfl rfl (P1 (p_ldR (v:=Enc.v bad2) ty4 rfl rfl rfl rfl rfl rfl) rfl rfl (M rfl rfl (TL.nil (hK4 _ _ ?_)))))))))
 refine TK.ret ?_
 try dsimp only[thenQ]
 exact R1 rfl hX
theorem ok_cartridgeref1_Reader_Left (b1:(List UInt8)) (bad2:Bool) (r:Int) (hX:X.cartridgeref1_Reader_Left b1 bad2=some r):Fun Tryz.prog 86 [.vref (ofL [Enc.v (b1:(List UInt8)),Enc.v (bad2:Bool)]) 2 0] (·=Enc.v (r:Int)):=by
 refine Fun.of b86 (Nat.le_of_ble_eq_true rfl) (allVal.mem ⟨(by exact (vref_val (l:=[Enc.v (b1:(List UInt8)),Enc.v (bad2:Bool)]) rfl ⟨(v_val _),(v_val _),trivial⟩)),trivial⟩) ?_
 unfold k86
 have nd:Nd []:=Nd_nil
 unfold X.cartridgeref1_Reader_Left at hX
 refine SR fun K3 hK3=>M rfl rfl (TL.nil (hK3 _ _ ?_))
 refine TK.seq_k fun K4 hK4=>?_
 refine SR fun K5 hK5=>M rfl rfl (P1 (p_ncV rfl) rfl rfl (P1 (p_faR fs151_1 Dc rfl) rfl rfl (P1 (p_ldR (v:=Enc.v bad2) ty4 rfl rfl rfl rfl rfl rfl) rfl rfl (TL.nil (hK5 _ _ ?_)))))
 refine TK.cond (b:=bad2) rfl (fun hc=>?_) (fun hc=>?_)
 ·have hX:=ite_t hc hX
  refine SR fun K6 hK6=>M rfl rfl (TL.nil (hK6 _ _ ?_))
  refine TK.ret ?_
  try dsimp only[thenQ]
  exact R1 rfl hX
 ·have hX:=ite_f hc hX
  refine TK.skip ?_
  refine hK4 _ _ (SR fun K7 hK7=>M rfl rfl (P1 (p_ncV rfl) rfl rfl (P1 (p_faR fs151_0 Dc rfl) rfl rfl (P1 (p_ldR (v:=Enc.v b1) ty42 rfl rfl rfl rfl rfl rfl) rfl rfl (P1 (p_lenL (xs:=b1) kd42 rfl) rfl rfl (M rfl rfl (TL.nil (hK7 _ _ ?_))))))))
  refine TK.ret ?_
  try dsimp only[thenQ]
  exact R1 rfl hX
theorem bc_cartridgeref1_GetFrame:BodyC cx 57 57 [.c 2 46,.t 3] k57:=⟨Enters.of Tryz.func57 (by kernel_rfl) (by kernel_rfl),_,_,Tryz.func57,rfl,by kernel_rfl,rfl,rfl⟩
theorem ok_cartridgeref1_GetFrame (b1:(List UInt8)) (r:(Unit_api×Int)) (hX:X.cartridgeref1_GetFrame b1=some r):Fun Tryz.prog 57 [Enc.v (b1:(List UInt8))] (·= .tup 2 (ofL [Enc.v r.1,Enc.v r.2])):=by
 refine Fun.ofC (C:=cx) bc_cartridgeref1_GetFrame (Nat.le_of_ble_eq_true rfl) (allVal.mem ⟨(by exact (v_val _)),trivial⟩) ?_
 unfold k57
 have nd:Nd []:=Nd_nil
 unfold X.cartridgeref1_GetFrame at hX
 refine SR fun K2 hK2=>?_
 refine TLc.alO (l:=[Enc.v ((0:Int):Int),Enc.v ((0:Int):Int),Enc.v ((0:Int):Int),.nils]) nd ty46 ti46_z rfl rfl fun b3 nd=>?_
 refine M rfl rfl (TL.nil (hK2 _ _ ?_))
 refine TK.ownC (α:=UInt8) nd (j:=0) rfl 3 5 (.inl rfl) fun b4 nd=>?_
 refine SR fun K5 hK5=>M rfl rfl ?_
 obtain ⟨r6,hr6,hX⟩:=bind_some hX
 refine TL.tcX [] [(b4,RL (α:=UInt8) 5 ([]:List UInt8)),(b3,RV 46 [Enc.v ((0:Int):Int),Enc.v ((0:Int):Int),Enc.v ((0:Int):Int),OL (α:=UInt8) b4 ([]:List UInt8)])] rfl nd (dlt rfl) rfl ⟨rfl,⟨rfl,trivial⟩⟩ (ok_cartridgeref1_NewReader b1 (Nd.take nd 0 rfl) _ hr6) ?_
 rintro _ _ hQ nd
 obtain ⟨b7,rfl,rfl⟩:=hQ
 refine M rfl rfl (TL.nil (hK5 _ _ (SR fun K8 hK8=>M rfl rfl ?_)))
 obtain ⟨r9,hr9,hX⟩:=bind_some hX
 refine TL.tcX [(b7,RV 151 [Enc.v r6.1,Enc.v r6.2])] [(b4,RL (α:=UInt8) 5 ([]:List UInt8)),(b3,RV 46 [Enc.v ((0:Int):Int),Enc.v ((0:Int):Int),Enc.v ((0:Int):Int),OL (α:=UInt8) b4 ([]:List UInt8)])] rfl nd (dlt rfl) rfl ⟨rfl,⟨rfl,trivial⟩⟩ (ok_cartridgeref1_Reader_Byte r6.1 r6.2 b7 (Nd.take nd 1 rfl) _ hr9) ?_
 rintro _ _ hQ nd
 obtain ⟨rfl,rfl⟩:=hQ
 refine P1 (p_cvt src5 kd3 rfl (cv_8 r9.1)) rfl rfl (M rfl rfl ?_)
 obtain ⟨r11,hr11,hX⟩:=bind_some hX
 refine TL.tcX [(b7,RV 151 [Enc.v r9.2.1,Enc.v r9.2.2])] [(b4,RL (α:=UInt8) 5 ([]:List UInt8)),(b3,RV 46 [Enc.v ((0:Int):Int),Enc.v ((0:Int):Int),Enc.v ((0:Int):Int),OL (α:=UInt8) b4 ([]:List UInt8)])] rfl nd (dlt rfl) rfl ⟨rfl,⟨rfl,trivial⟩⟩ (ok_cartridgeref1_Reader_Int r9.2.1 r9.2.2 b7 (Nd.take nd 1 rfl) _ hr11) ?_
 rintro _ _ hQ nd
 obtain ⟨rfl,rfl⟩:=hQ
 refine M rfl rfl ?_
 obtain ⟨r13,hr13,hX⟩:=bind_some hX
 refine TL.tcX [(b7,RV 151 [Enc.v r11.2.1,Enc.v r11.2.2])] [(b4,RL (α:=UInt8) 5 ([]:List UInt8)),(b3,RV 46 [Enc.v ((0:Int):Int),Enc.v ((0:Int):Int),Enc.v ((0:Int):Int),OL (α:=UInt8) b4 ([]:List UInt8)])] rfl nd (dlt rfl) rfl ⟨rfl,⟨rfl,trivial⟩⟩ (ok_cartridgeref1_Reader_Int r11.2.1 r11.2.2 b7 (Nd.take nd 1 rfl) _ hr13) ?_
 rintro _ _ hQ nd
 obtain ⟨rfl,rfl⟩:=hQ
 refine P1 (p_bld (l:=[Enc.v ((r9.1.toNat:Int):Int),Enc.v r11.1,Enc.v r13.1,.nils]) ty46 rfl all46 rfl (fun _=>⟨⟨rfl,trivial,rfl⟩,⟨rfl,trivial,rfl⟩,⟨rfl,trivial,rfl⟩,trivial⟩)) rfl rfl ?_
 refine TLc.alO (l:=[Enc.v ((0:Int):Int),Enc.v ((0:Int):Int),Enc.v ((0:Int):Int),.nils]) nd ty46 ti46_z rfl rfl fun b15 nd=>?_
 refine TLc.stV (lu:=[Enc.v ((r9.1.toNat:Int):Int),Enc.v r11.1,Enc.v r13.1,.nils]) nd ty46 rfl (j:=0) rfl rfl rfl (Cells_agg rfl (allA.mem ⟨trivial,trivial,trivial,trivial,trivial⟩)) rfl rfl [Enc.v ((r9.1.toNat:Int):Int),Enc.v r11.1,Enc.v r13.1,.nils] rfl fun nd=>?_
 refine TL.nil (hK8 _ _ ?_)
 refine TK.ownC (α:=UInt8) nd (j:=0) rfl 3 5 (.inl rfl) fun b16 nd=>?_
 refine SR fun K17 hK17=>M rfl rfl ?_
 obtain ⟨r18,hr18,hX⟩:=bind_some hX
 refine TL.pick [2,0,1,3,4] nd Dc fun nd=>?_
 refine TL.tcX [(b7,RV 151 [Enc.v r13.2.1,Enc.v r13.2.2])] [(b16,RL (α:=UInt8) 5 ([]:List UInt8)),(b15,RV 46 [Enc.v ((r9.1.toNat:Int):Int),Enc.v r11.1,Enc.v r13.1,OL (α:=UInt8) b16 ([]:List UInt8)]),(b4,RL (α:=UInt8) 5 ([]:List UInt8)),(b3,RV 46 [Enc.v ((0:Int):Int),Enc.v ((0:Int):Int),Enc.v ((0:Int):Int),OL (α:=UInt8) b4 ([]:List UInt8)])] rfl nd (dlt rfl) rfl ⟨rfl,⟨rfl,trivial⟩⟩ (ok_cartridgeref1_Reader_Byte r13.2.1 r13.2.2 b7 (Nd.take nd 1 rfl) _ hr18) ?_
 rintro _ _ hQ nd
 obtain ⟨rfl,rfl⟩:=hQ
 refine P1 (p_cvt src5 kd3 rfl (cv_8 r18.1)) rfl rfl (P1 (p_mul rfl rfl) rfl rfl (M rfl rfl ?_))
 obtain ⟨r20,hr20,hX⟩:=bind_some hX
 refine TL.tcX [(b7,RV 151 [Enc.v r18.2.1,Enc.v r18.2.2])] [(b16,RL (α:=UInt8) 5 ([]:List UInt8)),(b15,RV 46 [Enc.v ((r9.1.toNat:Int):Int),Enc.v r11.1,Enc.v r13.1,OL (α:=UInt8) b16 ([]:List UInt8)]),(b4,RL (α:=UInt8) 5 ([]:List UInt8)),(b3,RV 46 [Enc.v ((0:Int):Int),Enc.v ((0:Int):Int),Enc.v ((0:Int):Int),OL (α:=UInt8) b4 ([]:List UInt8)])] rfl nd (dlt rfl) rfl ⟨rfl,⟨rfl,trivial⟩⟩ (ok_cartridgeref1_Reader_Byte r18.2.1 r18.2.2 b7 (Nd.take nd 1 rfl) _ hr20) ?_
 rintro _ _ hQ nd
 obtain ⟨rfl,rfl⟩:=hQ
 refine P1 (p_cvt src5 kd3 rfl (cv_8 r20.1)) rfl rfl (P1 (p_add rfl rfl) rfl rfl (M rfl rfl (TL.nil (hK17 _ _ ?_))))
 refine TK.seq_k fun K22 hK22=>?_
 refine SR fun K23 hK23=>M rfl rfl ?_
 obtain ⟨r24,hr24,hX⟩:=bind_some hX
 refine TL.lookX [.vref (ofL [Enc.v r20.2.1,Enc.v r20.2.2]) 2 0] rfl rfl rfl (fun _=>⟨rfl,⟨rfl,trivial⟩⟩) ⟨look_ref (l:=[Enc.v r20.2.1,Enc.v r20.2.2]) nd (j:=0) rfl ⟨look_v (v:=Enc.v r20.2.1) (v_val _),look_v (v:=Enc.v r20.2.2) (v_val _),trivial⟩,trivial⟩ (fun e=>ok_cartridgeref1_Reader_Bad r20.2.1 r20.2.2 _ hr24) (trivial) ?_
 refine M rfl rfl ?_
 refine TLc.p (gc:=(!r24)) (p_mv rfl (hg:=fun e=>rfl)) (gcF1 rfl) rfl ?_
 refine TLc.p (gc:=(!r24)) (p_mv rfl (hg:=fun e=>rfl)) (gcF1 rfl) rfl ?_
 obtain ⟨r25,hr25,hX⟩:=bind_some hX
 refine TL.lookX [.vref (ofL [Enc.v r20.2.1,Enc.v r20.2.2]) 2 0] (gcF1 rfl) rfl rfl (fun e=>⟨rfl,⟨e,trivial⟩⟩) ⟨look_ref (l:=[Enc.v r20.2.1,Enc.v r20.2.2]) nd (j:=0) rfl ⟨look_v (v:=Enc.v r20.2.1) (v_val _),look_v (v:=Enc.v r20.2.2) (v_val _),trivial⟩,trivial⟩ (fun e=>ok_cartridgeref1_Reader_Left r20.2.1 r20.2.2 _ (optG_t hr25 e)) (trivial) ?_
 refine TLc.p (gc:=(!r24)) (p_gtr rfl rfl (hg:=fun e=>⟨e,e⟩)) (gcF1 rfl) rfl ?_
 refine P1 (p_or rfl rfl (fun e=>⟨rfl,fun h=>(not_t h)⟩)) rfl rfl (TL.nil (hK23 _ _ ?_))
 refine TK.cond (b:=(r24||(decide ((wr ((wr ((256:Int)*(r18.1.toNat:Int)))+(r20.1.toNat:Int)))>r25)))) rfl (fun hc=>?_) (fun hc=>?_)
 ·have hX:=ite_t hc hX
  refine SR fun K26 hK26=>P1 (p_bld (l:=[Enc.v ((0:Int):Int),Enc.v ((0:Int):Int),Enc.v ((0:Int):Int),.nils]) ty46 rfl all46 rfl (fun _=>trivial)) rfl rfl ?_
  refine TLc.stV (lu:=[Enc.v ((0:Int):Int),Enc.v ((0:Int):Int),Enc.v ((0:Int):Int),.nils]) nd ty46 rfl (j:=4) rfl rfl rfl (Cells_agg rfl (allA.mem ⟨trivial,trivial,trivial,trivial,trivial⟩)) rfl rfl [Enc.v ((0:Int):Int),Enc.v ((0:Int):Int),Enc.v ((0:Int):Int),.nils] rfl fun nd=>?_
  refine M rfl rfl (TL.nil (hK26 _ _ ?_))
  refine TK.ownC (α:=UInt8) nd (j:=4) rfl 3 5 (.inl rfl) fun b27 nd=>?_
  refine TK.layR (l2':=[Enc.v ((0:Int):Int),Enc.v ((0:Int):Int),Enc.v ((0:Int):Int),Enc.v (([]:List UInt8):(List UInt8))]) [] nd (j:=0) rfl 5 rfl rfl ⟨fix_id _,fix_id _,fix_id _,fix_OL nd (j:=0) rfl,trivial⟩ trivial fun nd=>?_
  refine TK.ret ?_
  try dsimp only[thenQ]
  exact retC [Enc.v ((Unit_api.mk (0:Int) (0:Int) (0:Int) ([]:List UInt8)):Unit_api),Enc.v ((2:Int):Int)] ⟨p_ldVa (l':=Enc.cl ((Unit_api.mk (0:Int) (0:Int) (0:Int) ([]:List UInt8)):Unit_api)) ty46 rfl rfl nd (j:=4) rfl rfl rfl rfl (Nat.le_of_ble_eq_true rfl),p_mv rfl,trivial⟩ (by obtain rfl:=some_in hX;rfl) (tup_val (allVal.mem ⟨v_val _,v_val _,trivial⟩))
 ·have hX:=ite_f hc hX
  refine TK.skip ?_
  refine hK22 _ _ (SR fun K28 hK28=>M rfl rfl (M rfl rfl ?_))
  obtain ⟨r29,hr29,hX⟩:=bind_some hX
  refine TL.tcX [(b7,RV 151 [Enc.v r20.2.1,Enc.v r20.2.2])] [(b16,RL (α:=UInt8) 5 ([]:List UInt8)),(b15,RV 46 [Enc.v ((r9.1.toNat:Int):Int),Enc.v r11.1,Enc.v r13.1,OL (α:=UInt8) b16 ([]:List UInt8)]),(b4,RL (α:=UInt8) 5 ([]:List UInt8)),(b3,RV 46 [Enc.v ((0:Int):Int),Enc.v ((0:Int):Int),Enc.v ((0:Int):Int),OL (α:=UInt8) b4 ([]:List UInt8)])] rfl nd (dlt rfl) rfl ⟨rfl,⟨rfl,⟨rfl,trivial⟩⟩⟩ (ok_cartridgeref1_Reader_take (wr ((wr ((256:Int)*(r18.1.toNat:Int)))+(r20.1.toNat:Int))) r20.2.1 r20.2.2 b7 (Nd.take nd 1 rfl) _ hr29) ?_
  rintro _ _ hQ nd
  obtain ⟨rfl,rfl⟩:=hQ
  obtain ⟨u31,hu31,hX⟩:=bind_some hX
  refine TLc.appN nd kd42 bo42 ty5 rfl rfl (.inl rfl) rfl (Src_L _) Dc (need_t hu31) rfl fun b32 nd=>?_
  refine P1 (p_faV fs46_3 Dc rfl nd (j:=3) rfl rfl) rfl rfl ?_
  refine TLc.stV (lu:=[OL (α:=UInt8) b32 r29.1]) nd ty42 rfl (j:=3) rfl rfl rfl (Cells_rs (refOK_of nd (j:=0) rfl rfl)) rfl rfl [Enc.v ((r9.1.toNat:Int):Int),Enc.v r11.1,Enc.v r13.1,OL (α:=UInt8) b32 r29.1] rfl fun nd=>?_
  refine TL.nil (hK28 _ _ (SR fun K33 hK33=>?_))
  refine TL.layR (l2':=[Enc.v ((r9.1.toNat:Int):Int),Enc.v r11.1,Enc.v r13.1,Enc.v r29.1]) [] nd (j:=0) rfl 3 rfl rfl ⟨fix_id _,fix_id _,fix_id _,fix_OL nd (j:=0) rfl,trivial⟩ trivial fun nd=>?_
  refine P1 (p_ldVa (l':=Enc.cl ((Unit_api.mk (r9.1.toNat:Int) r11.1 r13.1 r29.1):Unit_api)) ty46 rfl rfl nd (j:=2) rfl rfl rfl rfl (Nat.le_of_ble_eq_true rfl)) rfl rfl ?_
  obtain ⟨r34,hr34,hX⟩:=bind_some hX
  refine TL.cvX rfl rfl rfl (fun _=>⟨rfl,⟨rfl,trivial⟩⟩) (fun e=>ok_cartridgeref1_PutFrame (Unit_api.mk (r9.1.toNat:Int) r11.1 r13.1 r29.1) _ hr34) ?_
  refine M rfl rfl (P1 (p_ex rfl rfl Dc) rfl rfl (P1 (p_ex rfl rfl Dc) rfl rfl (M rfl rfl (M rfl rfl (TL.nil (hK33 _ _ ?_))))))
  refine TK.seq_k fun K35 hK35=>?_
  refine SR fun K36 hK36=>M rfl rfl (P1 (p_neq rfl rfl) rfl rfl (M rfl rfl ?_))
  refine TLc.p (gc:=(!((r34.2 !=(0:Int))))) (p_mv rfl (hg:=fun e=>rfl)) (gcF1 rfl) rfl ?_
  refine TL.ofV (gc:=(!((r34.2 !=(0:Int))))) (vok_cvtBS (C:=cx) (gc:=(!((r34.2 !=(0:Int))))) (xs:=r34.1) kd42 kd5 kd9 rfl (look_v (v:=Enc.v r34.1) (v_val _)) (hg:=fun e=>e)) (gcF1 rfl) rfl ?_
  refine TLc.p (gc:=(!((r34.2 !=(0:Int))))) (p_mv rfl (hg:=fun e=>rfl)) (gcF1 rfl) rfl ?_
  refine TL.ofV (gc:=(!((r34.2 !=(0:Int))))) (vok_cvtBS (C:=cx) (gc:=(!((r34.2 !=(0:Int))))) (xs:=b1) kd42 kd5 kd9 rfl (look_v (v:=Enc.v b1) (v_val _)) (hg:=fun e=>e)) (gcF1 rfl) rfl ?_
  refine TLc.p (gc:=(!((r34.2 !=(0:Int))))) (ps_neq (s:=(Str.mk r34.1)) (r:=(Str.mk b1)) rfl rfl (hg:=fun e=>⟨e,e⟩)) (gcF1 rfl) rfl ?_
  refine P1 (p_or rfl rfl (fun e=>⟨rfl,fun h=>(not_t h)⟩)) rfl rfl (TL.nil (hK36 _ _ ?_))
  refine TK.cond (b:=((r34.2 !=(0:Int))||(!((Str.mk r34.1).l==(Str.mk b1).l)))) rfl (fun hc=>?_) (fun hc=>?_)
  ·have hX:=ite_t hc hX
   refine SR fun K37 hK37=>P1 (p_bld (l:=[Enc.v ((0:Int):Int),Enc.v ((0:Int):Int),Enc.v ((0:Int):Int),.nils]) ty46 rfl all46 rfl (fun _=>trivial)) rfl rfl ?_
   refine TLc.stV (lu:=[Enc.v ((0:Int):Int),Enc.v ((0:Int):Int),Enc.v ((0:Int):Int),.nils]) nd ty46 rfl (j:=4) rfl rfl rfl (Cells_agg rfl (allA.mem ⟨trivial,trivial,trivial,trivial,trivial⟩)) rfl rfl [Enc.v ((0:Int):Int),Enc.v ((0:Int):Int),Enc.v ((0:Int):Int),.nils] rfl fun nd=>?_
   refine M rfl rfl (TL.nil (hK37 _ _ ?_))
   refine TK.ownC (α:=UInt8) nd (j:=4) rfl 3 5 (.inl rfl) fun b38 nd=>?_
   refine TK.layR (l2':=[Enc.v ((0:Int):Int),Enc.v ((0:Int):Int),Enc.v ((0:Int):Int),Enc.v (([]:List UInt8):(List UInt8))]) [] nd (j:=0) rfl 5 rfl rfl ⟨fix_id _,fix_id _,fix_id _,fix_OL nd (j:=0) rfl,trivial⟩ trivial fun nd=>?_
   refine TK.ret ?_
   try dsimp only[thenQ]
   exact retC [Enc.v ((Unit_api.mk (0:Int) (0:Int) (0:Int) ([]:List UInt8)):Unit_api),Enc.v ((2:Int):Int)] ⟨p_ldVa (l':=Enc.cl ((Unit_api.mk (0:Int) (0:Int) (0:Int) ([]:List UInt8)):Unit_api)) ty46 rfl rfl nd (j:=4) rfl rfl rfl rfl (Nat.le_of_ble_eq_true rfl),p_mv rfl,trivial⟩ (by obtain rfl:=some_in hX;rfl) (tup_val (allVal.mem ⟨v_val _,v_val _,trivial⟩))
  ·have hX:=ite_f hc hX
   refine TK.skip ?_
   refine hK35 _ _ (SR fun K39 hK39=>P1 (p_ldVa (l':=Enc.cl ((Unit_api.mk (r9.1.toNat:Int) r11.1 r13.1 r29.1):Unit_api)) ty46 rfl rfl nd (j:=2) rfl rfl rfl rfl (Nat.le_of_ble_eq_true rfl)) rfl rfl ?_)
   refine TLc.stV (lu:=Enc.cl ((Unit_api.mk (r9.1.toNat:Int) r11.1 r13.1 r29.1):Unit_api)) nd ty46 rfl (j:=4) rfl rfl rfl (Cells_v ((Unit_api.mk (r9.1.toNat:Int) r11.1 r13.1 r29.1):Unit_api)) rfl rfl [Enc.v ((Unit_api.mk (r9.1.toNat:Int) r11.1 r13.1 r29.1).Kind:Int),Enc.v ((Unit_api.mk (r9.1.toNat:Int) r11.1 r13.1 r29.1).Label:Int),Enc.v ((Unit_api.mk (r9.1.toNat:Int) r11.1 r13.1 r29.1).Number:Int),Enc.v ((Unit_api.mk (r9.1.toNat:Int) r11.1 r13.1 r29.1).Load:(List UInt8))] rfl fun nd=>?_
   refine M rfl rfl (TL.nil (hK39 _ _ ?_))
   refine TK.ret ?_
   try dsimp only[thenQ]
   exact retC [Enc.v ((Unit_api.mk (r9.1.toNat:Int) r11.1 r13.1 r29.1):Unit_api),Enc.v ((0:Int):Int)] ⟨p_ldVa (l':=Enc.cl ((Unit_api.mk (r9.1.toNat:Int) r11.1 r13.1 r29.1):Unit_api)) ty46 rfl rfl nd (j:=4) rfl rfl rfl rfl (Nat.le_of_ble_eq_true rfl),p_mv rfl,trivial⟩ (by obtain rfl:=some_in hX;rfl) (tup_val (allVal.mem ⟨v_val _,v_val _,trivial⟩))
theorem bc_cartridgeref10_Good:BodyC cx 24 48 [.c 4 46,.t 5] k24:=⟨Enters.of Tryz.func24 (by kernel_rfl) (by kernel_rfl),_,_,Tryz.func24,rfl,by kernel_rfl,rfl,rfl⟩
theorem ok_cartridgeref10_Good (t1:Tape_api) (n2:Int) (r:(Unit_api×Bool)) (hX:X.cartridgeref10_Good t1 n2=some r):Fun Tryz.prog 24 [Enc.v (t1:Tape_api),Enc.v (n2:Int)] (·= .tup 2 (ofL [Enc.v r.1,Enc.v r.2])):=by
 refine Fun.ofC (C:=cx) bc_cartridgeref10_Good (Nat.le_of_ble_eq_true rfl) (allVal.mem ⟨(by exact (v_val _)),(by exact (v_val _)),trivial⟩) ?_
 unfold k24
 have nd:Nd []:=Nd_nil
 unfold X.cartridgeref10_Good at hX
 refine SR fun K3 hK3=>?_
 refine TLc.boxV (lu:=[Enc.v t1.Label,Enc.v t1.Cap,Enc.v t1.Blocks,Enc.v t1.Lost]) nd rfl (Cells_v (t1:Tape_api)) rfl ?_
 refine TLc.alO (l:=[Enc.v ((0:Int):Int),Enc.v ((0:Int):Int),Enc.v ((0:Int):Int),.nils]) nd ty46 ti46_z rfl rfl fun b4 nd=>?_
 refine M rfl rfl (TL.nil (hK3 _ _ ?_))
 refine TK.cvR nd (j:=0) rfl (l':=[Enc.v ((0:Int):Int),Enc.v ((0:Int):Int),Enc.v ((0:Int):Int),Enc.v (([]:(List UInt8)):(List UInt8))]) ⟨Wk.refl _,Wk.refl _,Wk.refl _,Wk_nil,trivial⟩ fun nd=>?_
 refine TK.seq_k fun K5 hK5=>?_
 refine SR fun K6 hK6=>P1 (p_faR fs49_3 Dc rfl) rfl rfl (P1 (p_ldR (v:=Enc.v t1.Lost) ty4 rfl rfl rfl rfl rfl rfl) rfl rfl (M rfl rfl ?_))
 refine TLc.p (gc:=(!(t1.Lost))) (p_mv rfl (hg:=fun e=>rfl)) (gcF1 rfl) rfl ?_
 refine TLc.p (gc:=(!(t1.Lost))) (p_lss rfl rfl (hg:=fun e=>⟨e,rfl⟩)) (gcF1 rfl) rfl ?_
 refine P1 (p_or rfl rfl (fun e=>⟨rfl,fun h=>(not_t h)⟩)) rfl rfl (M rfl rfl ?_)
 refine TLc.p (gc:=(!((t1.Lost||(decide (n2<(0:Int))))))) (p_mv rfl (hg:=fun e=>rfl)) (gcF1 rfl) rfl ?_
 refine TLc.p (gc:=(!((t1.Lost||(decide (n2<(0:Int))))))) (p_faR fs49_2 Dc rfl (hg:=fun e=>rfl)) (gcF1 rfl) rfl ?_
 refine TLc.p (gc:=(!((t1.Lost||(decide (n2<(0:Int))))))) (p_ldR (v:=Enc.v t1.Blocks) ty47 rfl rfl rfl rfl rfl rfl (hg:=fun e=>e)) (gcF1 rfl) rfl ?_
 refine TLc.p (gc:=(!((t1.Lost||(decide (n2<(0:Int))))))) (p_lenL (xs:=t1.Blocks) kd47 rfl (hg:=fun e=>e)) (gcF1 rfl) rfl ?_
 refine TLc.p (gc:=(!((t1.Lost||(decide (n2<(0:Int))))))) (p_geq rfl rfl (hg:=fun e=>⟨e,e⟩)) (gcF1 rfl) rfl ?_
 refine P1 (p_or rfl rfl (fun e=>⟨rfl,fun h=>(not_t h)⟩)) rfl rfl (TL.nil (hK6 _ _ ?_))
 refine TK.cond (b:=((t1.Lost||(decide (n2<(0:Int))))||(decide (n2≥(t1.Blocks.length:Int))))) rfl (fun hc=>?_) (fun hc=>?_)
 ·have hX:=ite_t hc hX
  refine SR fun K7 hK7=>?_
  refine TLc.p (gc:=true) (p_bld (l:=[Enc.v ((0:Int):Int),Enc.v ((0:Int):Int),Enc.v ((0:Int):Int),.nils]) ty46 rfl all46 rfl (fun _=>trivial)) rfl rfl (TL.wk (v':=Enc.v ((Unit_api.mk (0:Int) (0:Int) (0:Int) ([]:(List UInt8))):Unit_api)) (Wk_agg ⟨Wk.refl _,Wk.refl _,Wk.refl _,Wk_nil,trivial⟩) ?_)
  refine TLc.stV (lu:=Enc.cl ((Unit_api.mk (0:Int) (0:Int) (0:Int) ([]:(List UInt8))):Unit_api)) nd ty46 rfl (j:=0) rfl rfl rfl (Cells_v ((Unit_api.mk (0:Int) (0:Int) (0:Int) ([]:(List UInt8))):Unit_api)) rfl rfl [Enc.v ((Unit_api.mk (0:Int) (0:Int) (0:Int) ([]:(List UInt8))).Kind:Int),Enc.v ((Unit_api.mk (0:Int) (0:Int) (0:Int) ([]:(List UInt8))).Label:Int),Enc.v ((Unit_api.mk (0:Int) (0:Int) (0:Int) ([]:(List UInt8))).Number:Int),Enc.v ((Unit_api.mk (0:Int) (0:Int) (0:Int) ([]:(List UInt8))).Load:(List UInt8))] rfl fun nd=>?_
  refine M rfl rfl (TL.nil (hK7 _ _ ?_))
  refine TK.ret ?_
  try dsimp only[thenQ]
  exact retC [Enc.v ((Unit_api.mk (0:Int) (0:Int) (0:Int) ([]:(List UInt8))):Unit_api),Enc.v false] ⟨p_ldVa (l':=Enc.cl ((Unit_api.mk (0:Int) (0:Int) (0:Int) ([]:(List UInt8))):Unit_api)) ty46 rfl rfl nd (j:=0) rfl rfl rfl rfl (Nat.le_of_ble_eq_true rfl),p_mv rfl,trivial⟩ (by obtain rfl:=some_in hX;rfl) (tup_val (allVal.mem ⟨v_val _,v_val _,trivial⟩))
 ·have hX:=ite_f hc hX
  refine TK.skip ?_
  refine hK5 _ _ (SR fun K8 hK8=>P1 (p_faR fs49_2 Dc rfl) rfl rfl (P1 (p_ldR (v:=Enc.v t1.Blocks) ty47 rfl rfl rfl rfl rfl rfl) rfl rfl (M rfl rfl ?_)))
  obtain ⟨e9,he9,hX⟩:=bind_some hX
  refine P1 (p_iaL (xs:=t1.Blocks) kd47 ty42 rfl rfl rfl (fun _=>he9)) rfl rfl (P1 (p_ldE (xs:=t1.Blocks) (a:=e9) (e9:(List UInt8)) ty42 rfl rfl (fun _=>he9) rfl rfl rfl) rfl rfl ?_)
  obtain ⟨r10,hr10,hX⟩:=bind_some hX
  refine TL.cvX rfl rfl rfl (fun _=>⟨rfl,⟨rfl,trivial⟩⟩) (fun e=>ok_cartridgeref1_GetFrame e9 _ hr10) ?_
  refine M rfl rfl (P1 (p_ex rfl rfl Dc) rfl rfl (P1 (p_ex rfl rfl Dc) rfl rfl ?_))
  refine TLc.alO (l:=[Enc.v ((0:Int):Int),Enc.v ((0:Int):Int),Enc.v ((0:Int):Int),.nils]) nd ty46 ti46_z rfl rfl fun b11 nd=>?_
  refine TLc.stV (lu:=Enc.cl (r10.1:Unit_api)) nd ty46 rfl (j:=0) rfl rfl rfl (Cells_v (r10.1:Unit_api)) rfl rfl [Enc.v r10.1.Kind,Enc.v r10.1.Label,Enc.v r10.1.Number,Enc.v r10.1.Load] rfl fun nd=>?_
  refine M rfl rfl (TL.nil (hK8 _ _ ?_))
  refine TK.seq_k fun K12 hK12=>?_
  refine SR fun K13 hK13=>M rfl rfl (P1 (p_neq rfl rfl) rfl rfl (M rfl rfl ?_))
  refine TLc.p (gc:=(!((r10.2 !=(0:Int))))) (p_faV fs46_1 Dc rfl nd (j:=0) rfl rfl (hg:=fun e=>rfl)) (gcF1 rfl) rfl ?_
  refine TLc.p (gc:=(!((r10.2 !=(0:Int))))) (p_ldV (v:=Enc.v r10.1.Label) ty3 rfl rfl nd (j:=0) rfl rfl rfl rfl rfl (hg:=fun e=>e)) (gcF1 rfl) rfl ?_
  refine TLc.p (gc:=(!((r10.2 !=(0:Int))))) (p_faR fs49_0 Dc rfl (hg:=fun e=>rfl)) (gcF1 rfl) rfl ?_
  refine TLc.p (gc:=(!((r10.2 !=(0:Int))))) (p_ldR (v:=Enc.v t1.Label) ty3 rfl rfl rfl rfl rfl rfl (hg:=fun e=>e)) (gcF1 rfl) rfl ?_
  refine TLc.p (gc:=(!((r10.2 !=(0:Int))))) (p_neq rfl rfl (hg:=fun e=>⟨e,e⟩)) (gcF1 rfl) rfl ?_
  refine P1 (p_or rfl rfl (fun e=>⟨rfl,fun h=>(not_t h)⟩)) rfl rfl (M rfl rfl ?_)
  refine TLc.p (gc:=(!(((r10.2 !=(0:Int))||(r10.1.Label !=t1.Label))))) (p_faV fs46_2 Dc rfl nd (j:=0) rfl rfl (hg:=fun e=>rfl)) (gcF1 rfl) rfl ?_
  refine TLc.p (gc:=(!(((r10.2 !=(0:Int))||(r10.1.Label !=t1.Label))))) (p_ldV (v:=Enc.v r10.1.Number) ty3 rfl rfl nd (j:=0) rfl rfl rfl rfl rfl (hg:=fun e=>e)) (gcF1 rfl) rfl ?_
  refine TLc.p (gc:=(!(((r10.2 !=(0:Int))||(r10.1.Label !=t1.Label))))) (p_mv rfl (hg:=fun e=>rfl)) (gcF1 rfl) rfl ?_
  refine TLc.p (gc:=(!(((r10.2 !=(0:Int))||(r10.1.Label !=t1.Label))))) (p_neq rfl rfl (hg:=fun e=>⟨e,e⟩)) (gcF1 rfl) rfl ?_
  refine P1 (p_or rfl rfl (fun e=>⟨rfl,fun h=>(not_t h)⟩)) rfl rfl (TL.nil (hK13 _ _ ?_))
  refine TK.cond (b:=(((r10.2 !=(0:Int))||(r10.1.Label !=t1.Label))||(r10.1.Number !=n2))) rfl (fun hc=>?_) (fun hc=>?_)
  ·have hX:=ite_t hc hX
   refine SR fun K14 hK14=>?_
   refine TLc.p (gc:=true) (p_bld (l:=[Enc.v ((0:Int):Int),Enc.v ((0:Int):Int),Enc.v ((0:Int):Int),.nils]) ty46 rfl all46 rfl (fun _=>trivial)) rfl rfl (TL.wk (v':=Enc.v ((Unit_api.mk (0:Int) (0:Int) (0:Int) ([]:(List UInt8))):Unit_api)) (Wk_agg ⟨Wk.refl _,Wk.refl _,Wk.refl _,Wk_nil,trivial⟩) ?_)
   refine TLc.stV (lu:=Enc.cl ((Unit_api.mk (0:Int) (0:Int) (0:Int) ([]:(List UInt8))):Unit_api)) nd ty46 rfl (j:=1) rfl rfl rfl (Cells_v ((Unit_api.mk (0:Int) (0:Int) (0:Int) ([]:(List UInt8))):Unit_api)) rfl rfl [Enc.v ((Unit_api.mk (0:Int) (0:Int) (0:Int) ([]:(List UInt8))).Kind:Int),Enc.v ((Unit_api.mk (0:Int) (0:Int) (0:Int) ([]:(List UInt8))).Label:Int),Enc.v ((Unit_api.mk (0:Int) (0:Int) (0:Int) ([]:(List UInt8))).Number:Int),Enc.v ((Unit_api.mk (0:Int) (0:Int) (0:Int) ([]:(List UInt8))).Load:(List UInt8))] rfl fun nd=>?_
   refine M rfl rfl (TL.nil (hK14 _ _ ?_))
   refine TK.ret ?_
   try dsimp only[thenQ]
   exact retC [Enc.v ((Unit_api.mk (0:Int) (0:Int) (0:Int) ([]:(List UInt8))):Unit_api),Enc.v false] ⟨p_ldVa (l':=Enc.cl ((Unit_api.mk (0:Int) (0:Int) (0:Int) ([]:(List UInt8))):Unit_api)) ty46 rfl rfl nd (j:=1) rfl rfl rfl rfl (Nat.le_of_ble_eq_true rfl),p_mv rfl,trivial⟩ (by obtain rfl:=some_in hX;rfl) (tup_val (allVal.mem ⟨v_val _,v_val _,trivial⟩))
  ·have hX:=ite_f hc hX
   refine TK.skip ?_
   refine hK12 _ _ (SR fun K15 hK15=>P1 (p_ldVa (l':=Enc.cl (r10.1:Unit_api)) ty46 rfl rfl nd (j:=0) rfl rfl rfl rfl (Nat.le_of_ble_eq_true rfl)) rfl rfl ?_)
   refine TLc.stV (lu:=Enc.cl (r10.1:Unit_api)) nd ty46 rfl (j:=1) rfl rfl rfl (Cells_v (r10.1:Unit_api)) rfl rfl [Enc.v r10.1.Kind,Enc.v r10.1.Label,Enc.v r10.1.Number,Enc.v r10.1.Load] rfl fun nd=>?_
   refine M rfl rfl (TL.nil (hK15 _ _ ?_))
   refine TK.ret ?_
   try dsimp only[thenQ]
   exact retC [Enc.v r10.1,Enc.v true] ⟨p_ldVa (l':=Enc.cl (r10.1:Unit_api)) ty46 rfl rfl nd (j:=1) rfl rfl rfl rfl (Nat.le_of_ble_eq_true rfl),p_mv rfl,trivial⟩ (by obtain rfl:=some_in hX;rfl) (tup_val (allVal.mem ⟨v_val _,v_val _,trivial⟩))
theorem ok_cartridgeref10_RightSeal (s1:Seal_api) (r:Bool) (hX:X.cartridgeref10_RightSeal s1=some r):Fun Tryz.prog 25 [Enc.v (s1:Seal_api)] (·=Enc.v (r:Bool)):=by
 refine Fun.of b25 (Nat.le_of_ble_eq_true rfl) (allVal.mem ⟨(by exact (v_val _)),trivial⟩) ?_
 unfold k25
 have nd:Nd []:=Nd_nil
 unfold X.cartridgeref10_RightSeal at hX
 refine SR fun K2 hK2=>?_
 refine TLc.boxV (lu:=[Enc.v s1.Number,Enc.v s1.Index,Enc.v s1.Data,Enc.v s1.Parity,Enc.v s1.Labels]) nd rfl (Cells_v (s1:Seal_api)) rfl ?_
 refine M rfl rfl (TL.nil (hK2 _ _ ?_))
 refine TK.seq_k fun K3 hK3=>?_
 refine SR fun K4 hK4=>P1 (p_faR fs38_0 Dc rfl) rfl rfl (P1 (p_ldR (v:=Enc.v s1.Number) ty3 rfl rfl rfl rfl rfl rfl) rfl rfl (P1 (p_lss rfl rfl) rfl rfl (M rfl rfl ?_)))
 refine TLc.p (gc:=(!((decide (s1.Number<(1:Int)))))) (p_faR fs38_0 Dc rfl (hg:=fun e=>rfl)) (gcF1 rfl) rfl ?_
 refine TLc.p (gc:=(!((decide (s1.Number<(1:Int)))))) (p_ldR (v:=Enc.v s1.Number) ty3 rfl rfl rfl rfl rfl rfl (hg:=fun e=>e)) (gcF1 rfl) rfl ?_
 refine TLc.p (gc:=(!((decide (s1.Number<(1:Int)))))) (p_gtr rfl rfl (hg:=fun e=>⟨e,rfl⟩)) (gcF1 rfl) rfl ?_
 refine P1 (p_or rfl rfl (fun e=>⟨rfl,fun h=>(not_t h)⟩)) rfl rfl (M rfl rfl ?_)
 refine TLc.p (gc:=(!(((decide (s1.Number<(1:Int)))||(decide (s1.Number>(1073741824:Int))))))) (p_faR fs38_2 Dc rfl (hg:=fun e=>rfl)) (gcF1 rfl) rfl ?_
 refine TLc.p (gc:=(!(((decide (s1.Number<(1:Int)))||(decide (s1.Number>(1073741824:Int))))))) (p_ldR (v:=Enc.v s1.Data) ty3 rfl rfl rfl rfl rfl rfl (hg:=fun e=>e)) (gcF1 rfl) rfl ?_
 refine TLc.p (gc:=(!(((decide (s1.Number<(1:Int)))||(decide (s1.Number>(1073741824:Int))))))) (p_lss rfl rfl (hg:=fun e=>⟨e,rfl⟩)) (gcF1 rfl) rfl ?_
 refine P1 (p_or rfl rfl (fun e=>⟨rfl,fun h=>(not_t h)⟩)) rfl rfl (M rfl rfl ?_)
 refine TLc.p (gc:=(!((((decide (s1.Number<(1:Int)))||(decide (s1.Number>(1073741824:Int))))||(decide (s1.Data<(1:Int))))))) (p_faR fs38_3 Dc rfl (hg:=fun e=>rfl)) (gcF1 rfl) rfl ?_
 refine TLc.p (gc:=(!((((decide (s1.Number<(1:Int)))||(decide (s1.Number>(1073741824:Int))))||(decide (s1.Data<(1:Int))))))) (p_ldR (v:=Enc.v s1.Parity) ty3 rfl rfl rfl rfl rfl rfl (hg:=fun e=>e)) (gcF1 rfl) rfl ?_
 refine TLc.p (gc:=(!((((decide (s1.Number<(1:Int)))||(decide (s1.Number>(1073741824:Int))))||(decide (s1.Data<(1:Int))))))) (p_lss rfl rfl (hg:=fun e=>⟨e,rfl⟩)) (gcF1 rfl) rfl ?_
 refine P1 (p_or rfl rfl (fun e=>⟨rfl,fun h=>(not_t h)⟩)) rfl rfl (M rfl rfl ?_)
 refine TLc.p (gc:=(!(((((decide (s1.Number<(1:Int)))||(decide (s1.Number>(1073741824:Int))))||(decide (s1.Data<(1:Int))))||(decide (s1.Parity<(1:Int))))))) (p_faR fs38_2 Dc rfl (hg:=fun e=>rfl)) (gcF1 rfl) rfl ?_
 refine TLc.p (gc:=(!(((((decide (s1.Number<(1:Int)))||(decide (s1.Number>(1073741824:Int))))||(decide (s1.Data<(1:Int))))||(decide (s1.Parity<(1:Int))))))) (p_ldR (v:=Enc.v s1.Data) ty3 rfl rfl rfl rfl rfl rfl (hg:=fun e=>e)) (gcF1 rfl) rfl ?_
 refine TLc.p (gc:=(!(((((decide (s1.Number<(1:Int)))||(decide (s1.Number>(1073741824:Int))))||(decide (s1.Data<(1:Int))))||(decide (s1.Parity<(1:Int))))))) (p_gtr rfl rfl (hg:=fun e=>⟨e,rfl⟩)) (gcF1 rfl) rfl ?_
 refine P1 (p_or rfl rfl (fun e=>⟨rfl,fun h=>(not_t h)⟩)) rfl rfl (M rfl rfl ?_)
 refine TLc.p (gc:=(!((((((decide (s1.Number<(1:Int)))||(decide (s1.Number>(1073741824:Int))))||(decide (s1.Data<(1:Int))))||(decide (s1.Parity<(1:Int))))||(decide (s1.Data>(14:Int))))))) (p_faR fs38_3 Dc rfl (hg:=fun e=>rfl)) (gcF1 rfl) rfl ?_
 refine TLc.p (gc:=(!((((((decide (s1.Number<(1:Int)))||(decide (s1.Number>(1073741824:Int))))||(decide (s1.Data<(1:Int))))||(decide (s1.Parity<(1:Int))))||(decide (s1.Data>(14:Int))))))) (p_ldR (v:=Enc.v s1.Parity) ty3 rfl rfl rfl rfl rfl rfl (hg:=fun e=>e)) (gcF1 rfl) rfl ?_
 refine TLc.p (gc:=(!((((((decide (s1.Number<(1:Int)))||(decide (s1.Number>(1073741824:Int))))||(decide (s1.Data<(1:Int))))||(decide (s1.Parity<(1:Int))))||(decide (s1.Data>(14:Int))))))) (p_gtr rfl rfl (hg:=fun e=>⟨e,rfl⟩)) (gcF1 rfl) rfl ?_
 refine P1 (p_or rfl rfl (fun e=>⟨rfl,fun h=>(not_t h)⟩)) rfl rfl (M rfl rfl ?_)
 refine TLc.p (gc:=(!(((((((decide (s1.Number<(1:Int)))||(decide (s1.Number>(1073741824:Int))))||(decide (s1.Data<(1:Int))))||(decide (s1.Parity<(1:Int))))||(decide (s1.Data>(14:Int))))||(decide (s1.Parity>(14:Int))))))) (p_faR fs38_2 Dc rfl (hg:=fun e=>rfl)) (gcF1 rfl) rfl ?_
 refine TLc.p (gc:=(!(((((((decide (s1.Number<(1:Int)))||(decide (s1.Number>(1073741824:Int))))||(decide (s1.Data<(1:Int))))||(decide (s1.Parity<(1:Int))))||(decide (s1.Data>(14:Int))))||(decide (s1.Parity>(14:Int))))))) (p_ldR (v:=Enc.v s1.Data) ty3 rfl rfl rfl rfl rfl rfl (hg:=fun e=>e)) (gcF1 rfl) rfl ?_
 refine TLc.p (gc:=(!(((((((decide (s1.Number<(1:Int)))||(decide (s1.Number>(1073741824:Int))))||(decide (s1.Data<(1:Int))))||(decide (s1.Parity<(1:Int))))||(decide (s1.Data>(14:Int))))||(decide (s1.Parity>(14:Int))))))) (p_faR fs38_3 Dc rfl (hg:=fun e=>rfl)) (gcF1 rfl) rfl ?_
 refine TLc.p (gc:=(!(((((((decide (s1.Number<(1:Int)))||(decide (s1.Number>(1073741824:Int))))||(decide (s1.Data<(1:Int))))||(decide (s1.Parity<(1:Int))))||(decide (s1.Data>(14:Int))))||(decide (s1.Parity>(14:Int))))))) (p_ldR (v:=Enc.v s1.Parity) ty3 rfl rfl rfl rfl rfl rfl (hg:=fun e=>e)) (gcF1 rfl) rfl ?_
 refine TLc.p (gc:=(!(((((((decide (s1.Number<(1:Int)))||(decide (s1.Number>(1073741824:Int))))||(decide (s1.Data<(1:Int))))||(decide (s1.Parity<(1:Int))))||(decide (s1.Data>(14:Int))))||(decide (s1.Parity>(14:Int))))))) (p_add rfl rfl (hg:=fun e=>⟨e,e⟩)) (gcF1 rfl) rfl ?_
 refine TLc.p (gc:=(!(((((((decide (s1.Number<(1:Int)))||(decide (s1.Number>(1073741824:Int))))||(decide (s1.Data<(1:Int))))||(decide (s1.Parity<(1:Int))))||(decide (s1.Data>(14:Int))))||(decide (s1.Parity>(14:Int))))))) (p_gtr rfl rfl (hg:=fun e=>⟨e,rfl⟩)) (gcF1 rfl) rfl ?_
 refine P1 (p_or rfl rfl (fun e=>⟨rfl,fun h=>(not_t h)⟩)) rfl rfl (M rfl rfl ?_)
 refine TLc.p (gc:=(!((((((((decide (s1.Number<(1:Int)))||(decide (s1.Number>(1073741824:Int))))||(decide (s1.Data<(1:Int))))||(decide (s1.Parity<(1:Int))))||(decide (s1.Data>(14:Int))))||(decide (s1.Parity>(14:Int))))||(decide ((wr (s1.Data+s1.Parity))>(14:Int))))))) (p_faR fs38_4 Dc rfl (hg:=fun e=>rfl)) (gcF1 rfl) rfl ?_
 refine TLc.p (gc:=(!((((((((decide (s1.Number<(1:Int)))||(decide (s1.Number>(1073741824:Int))))||(decide (s1.Data<(1:Int))))||(decide (s1.Parity<(1:Int))))||(decide (s1.Data>(14:Int))))||(decide (s1.Parity>(14:Int))))||(decide ((wr (s1.Data+s1.Parity))>(14:Int))))))) (p_ldR (v:=Enc.v s1.Labels) ty36 rfl rfl rfl rfl rfl rfl (hg:=fun e=>e)) (gcF1 rfl) rfl ?_
 refine TLc.p (gc:=(!((((((((decide (s1.Number<(1:Int)))||(decide (s1.Number>(1073741824:Int))))||(decide (s1.Data<(1:Int))))||(decide (s1.Parity<(1:Int))))||(decide (s1.Data>(14:Int))))||(decide (s1.Parity>(14:Int))))||(decide ((wr (s1.Data+s1.Parity))>(14:Int))))))) (p_lenL (xs:=s1.Labels) kd36 rfl (hg:=fun e=>e)) (gcF1 rfl) rfl ?_
 refine TLc.p (gc:=(!((((((((decide (s1.Number<(1:Int)))||(decide (s1.Number>(1073741824:Int))))||(decide (s1.Data<(1:Int))))||(decide (s1.Parity<(1:Int))))||(decide (s1.Data>(14:Int))))||(decide (s1.Parity>(14:Int))))||(decide ((wr (s1.Data+s1.Parity))>(14:Int))))))) (p_faR fs38_2 Dc rfl (hg:=fun e=>rfl)) (gcF1 rfl) rfl ?_
 refine TLc.p (gc:=(!((((((((decide (s1.Number<(1:Int)))||(decide (s1.Number>(1073741824:Int))))||(decide (s1.Data<(1:Int))))||(decide (s1.Parity<(1:Int))))||(decide (s1.Data>(14:Int))))||(decide (s1.Parity>(14:Int))))||(decide ((wr (s1.Data+s1.Parity))>(14:Int))))))) (p_ldR (v:=Enc.v s1.Data) ty3 rfl rfl rfl rfl rfl rfl (hg:=fun e=>e)) (gcF1 rfl) rfl ?_
 refine TLc.p (gc:=(!((((((((decide (s1.Number<(1:Int)))||(decide (s1.Number>(1073741824:Int))))||(decide (s1.Data<(1:Int))))||(decide (s1.Parity<(1:Int))))||(decide (s1.Data>(14:Int))))||(decide (s1.Parity>(14:Int))))||(decide ((wr (s1.Data+s1.Parity))>(14:Int))))))) (p_faR fs38_3 Dc rfl (hg:=fun e=>rfl)) (gcF1 rfl) rfl ?_
 refine TLc.p (gc:=(!((((((((decide (s1.Number<(1:Int)))||(decide (s1.Number>(1073741824:Int))))||(decide (s1.Data<(1:Int))))||(decide (s1.Parity<(1:Int))))||(decide (s1.Data>(14:Int))))||(decide (s1.Parity>(14:Int))))||(decide ((wr (s1.Data+s1.Parity))>(14:Int))))))) (p_ldR (v:=Enc.v s1.Parity) ty3 rfl rfl rfl rfl rfl rfl (hg:=fun e=>e)) (gcF1 rfl) rfl ?_
 refine TLc.p (gc:=(!((((((((decide (s1.Number<(1:Int)))||(decide (s1.Number>(1073741824:Int))))||(decide (s1.Data<(1:Int))))||(decide (s1.Parity<(1:Int))))||(decide (s1.Data>(14:Int))))||(decide (s1.Parity>(14:Int))))||(decide ((wr (s1.Data+s1.Parity))>(14:Int))))))) (p_add rfl rfl (hg:=fun e=>⟨e,e⟩)) (gcF1 rfl) rfl ?_
 refine TLc.p (gc:=(!((((((((decide (s1.Number<(1:Int)))||(decide (s1.Number>(1073741824:Int))))||(decide (s1.Data<(1:Int))))||(decide (s1.Parity<(1:Int))))||(decide (s1.Data>(14:Int))))||(decide (s1.Parity>(14:Int))))||(decide ((wr (s1.Data+s1.Parity))>(14:Int))))))) (p_neq rfl rfl (hg:=fun e=>⟨e,e⟩)) (gcF1 rfl) rfl ?_
 refine P1 (p_or rfl rfl (fun e=>⟨rfl,fun h=>(not_t h)⟩)) rfl rfl (M rfl rfl ?_)
 refine TLc.p (gc:=(!(((((((((decide (s1.Number<(1:Int)))||(decide (s1.Number>(1073741824:Int))))||(decide (s1.Data<(1:Int))))||(decide (s1.Parity<(1:Int))))||(decide (s1.Data>(14:Int))))||(decide (s1.Parity>(14:Int))))||(decide ((wr (s1.Data+s1.Parity))>(14:Int))))||((s1.Labels.length:Int) !=(wr (s1.Data+s1.Parity))))))) (p_faR fs38_1 Dc rfl (hg:=fun e=>rfl)) (gcF1 rfl) rfl ?_
 refine TLc.p (gc:=(!(((((((((decide (s1.Number<(1:Int)))||(decide (s1.Number>(1073741824:Int))))||(decide (s1.Data<(1:Int))))||(decide (s1.Parity<(1:Int))))||(decide (s1.Data>(14:Int))))||(decide (s1.Parity>(14:Int))))||(decide ((wr (s1.Data+s1.Parity))>(14:Int))))||((s1.Labels.length:Int) !=(wr (s1.Data+s1.Parity))))))) (p_ldR (v:=Enc.v s1.Index) ty3 rfl rfl rfl rfl rfl rfl (hg:=fun e=>e)) (gcF1 rfl) rfl ?_
 refine TLc.p (gc:=(!(((((((((decide (s1.Number<(1:Int)))||(decide (s1.Number>(1073741824:Int))))||(decide (s1.Data<(1:Int))))||(decide (s1.Parity<(1:Int))))||(decide (s1.Data>(14:Int))))||(decide (s1.Parity>(14:Int))))||(decide ((wr (s1.Data+s1.Parity))>(14:Int))))||((s1.Labels.length:Int) !=(wr (s1.Data+s1.Parity))))))) (p_lss rfl rfl (hg:=fun e=>⟨e,rfl⟩)) (gcF1 rfl) rfl ?_
 refine P1 (p_or rfl rfl (fun e=>⟨rfl,fun h=>(not_t h)⟩)) rfl rfl (M rfl rfl ?_)
 refine TLc.p (gc:=(!((((((((((decide (s1.Number<(1:Int)))||(decide (s1.Number>(1073741824:Int))))||(decide (s1.Data<(1:Int))))||(decide (s1.Parity<(1:Int))))||(decide (s1.Data>(14:Int))))||(decide (s1.Parity>(14:Int))))||(decide ((wr (s1.Data+s1.Parity))>(14:Int))))||((s1.Labels.length:Int) !=(wr (s1.Data+s1.Parity))))||(decide (s1.Index<(0:Int))))))) (p_faR fs38_1 Dc rfl (hg:=fun e=>rfl)) (gcF1 rfl) rfl ?_
 refine TLc.p (gc:=(!((((((((((decide (s1.Number<(1:Int)))||(decide (s1.Number>(1073741824:Int))))||(decide (s1.Data<(1:Int))))||(decide (s1.Parity<(1:Int))))||(decide (s1.Data>(14:Int))))||(decide (s1.Parity>(14:Int))))||(decide ((wr (s1.Data+s1.Parity))>(14:Int))))||((s1.Labels.length:Int) !=(wr (s1.Data+s1.Parity))))||(decide (s1.Index<(0:Int))))))) (p_ldR (v:=Enc.v s1.Index) ty3 rfl rfl rfl rfl rfl rfl (hg:=fun e=>e)) (gcF1 rfl) rfl ?_
 refine TLc.p (gc:=(!((((((((((decide (s1.Number<(1:Int)))||(decide (s1.Number>(1073741824:Int))))||(decide (s1.Data<(1:Int))))||(decide (s1.Parity<(1:Int))))||(decide (s1.Data>(14:Int))))||(decide (s1.Parity>(14:Int))))||(decide ((wr (s1.Data+s1.Parity))>(14:Int))))||((s1.Labels.length:Int) !=(wr (s1.Data+s1.Parity))))||(decide (s1.Index<(0:Int))))))) (p_faR fs38_4 Dc rfl (hg:=fun e=>rfl)) (gcF1 rfl) rfl ?_
 refine TLc.p (gc:=(!((((((((((decide (s1.Number<(1:Int)))||(decide (s1.Number>(1073741824:Int))))||(decide (s1.Data<(1:Int))))||(decide (s1.Parity<(1:Int))))||(decide (s1.Data>(14:Int))))||(decide (s1.Parity>(14:Int))))||(decide ((wr (s1.Data+s1.Parity))>(14:Int))))||((s1.Labels.length:Int) !=(wr (s1.Data+s1.Parity))))||(decide (s1.Index<(0:Int))))))) (p_ldR (v:=Enc.v s1.Labels) ty36 rfl rfl rfl rfl rfl rfl (hg:=fun e=>e)) (gcF1 rfl) rfl ?_
 refine TLc.p (gc:=(!((((((((((decide (s1.Number<(1:Int)))||(decide (s1.Number>(1073741824:Int))))||(decide (s1.Data<(1:Int))))||(decide (s1.Parity<(1:Int))))||(decide (s1.Data>(14:Int))))||(decide (s1.Parity>(14:Int))))||(decide ((wr (s1.Data+s1.Parity))>(14:Int))))||((s1.Labels.length:Int) !=(wr (s1.Data+s1.Parity))))||(decide (s1.Index<(0:Int))))))) (p_lenL (xs:=s1.Labels) kd36 rfl (hg:=fun e=>e)) (gcF1 rfl) rfl ?_
 refine TLc.p (gc:=(!((((((((((decide (s1.Number<(1:Int)))||(decide (s1.Number>(1073741824:Int))))||(decide (s1.Data<(1:Int))))||(decide (s1.Parity<(1:Int))))||(decide (s1.Data>(14:Int))))||(decide (s1.Parity>(14:Int))))||(decide ((wr (s1.Data+s1.Parity))>(14:Int))))||((s1.Labels.length:Int) !=(wr (s1.Data+s1.Parity))))||(decide (s1.Index<(0:Int))))))) (p_geq rfl rfl (hg:=fun e=>⟨e,e⟩)) (gcF1 rfl) rfl ?_
 refine P1 (p_or rfl rfl (fun e=>⟨rfl,fun h=>(not_t h)⟩)) rfl rfl (TL.nil (hK4 _ _ ?_))
 refine TK.cond (b:=((((((((((decide (s1.Number<(1:Int)))||(decide (s1.Number>(1073741824:Int))))||(decide (s1.Data<(1:Int))))||(decide (s1.Parity<(1:Int))))||(decide (s1.Data>(14:Int))))||(decide (s1.Parity>(14:Int))))||(decide ((wr (s1.Data+s1.Parity))>(14:Int))))||((s1.Labels.length:Int) !=(wr (s1.Data+s1.Parity))))||(decide (s1.Index<(0:Int))))||(decide (s1.Index≥(s1.Labels.length:Int))))) rfl (fun hc=>?_) (fun hc=>?_)
 ·have hX:=ite_t hc hX
  refine SR fun K5 hK5=>M rfl rfl (TL.nil (hK5 _ _ ?_))
  refine TK.ret ?_
  try dsimp only[thenQ]
  exact R1 rfl hX
 ·have hX:=ite_f hc hX
  refine TK.skip ?_
  refine hK3 _ _ ?_
  refine TK.seq_k fun K6 hK6=>?_
  refine SR fun K7 hK7=>M rfl rfl (TL.nil (hK7 _ _ ?_))
  refine TK.block ?_
  obtain ⟨o8,hO8,hA8⟩:=bind_some hX
  have E8:∀(env:Env) (h:Hp),(∃_u:Unit,keepE [] env=[]∧Nd []∧HSub [] h)→X.cartridgeref10_RightSeal_e8=some r→K6 env h:=by
   intro env h hE hX
   obtain ⟨_u,henv,nd,hs⟩:=hE
   unfold X.cartridgeref10_RightSeal_e8 at hX
   refine hK6 _ _ (TK.keep [] ?_)
   rw[henv]
   refine TK.subH hs ?_
   refine SR fun K10 hK10=>M rfl rfl (TL.nil (hK10 _ _ ?_))
   refine TK.ret ?_
   try dsimp only[thenQ]
   exact R1 rfl hX
  refine TK.iter [1,3] (fun s env h=>match s with|i9=>∃_u:Unit,env=[(1,true,.vref (ofL [Enc.v s1.Number,Enc.v s1.Index,Enc.v s1.Data,Enc.v s1.Parity,Enc.v s1.Labels]) 5 0),(3,true,Enc.v i9)]∧Nd []∧HSub [] h) hO8 ⟨(),rfl,Nd_nil,HSub.refl _⟩ ?_
  rintro i9 env h x8x ⟨_u,rfl,nd,hs⟩ hX hR8
  refine TK.subH hs ?_
  unfold X.cartridgeref10_RightSeal_s8 at hX
  try dsimp only at hX
  refine TK.seq_k fun K11 hK11=>?_
  refine SR fun K12 hK12=>M rfl rfl (P1 (p_faR fs38_4 Dc rfl) rfl rfl (P1 (p_ldR (v:=Enc.v s1.Labels) ty36 rfl rfl rfl rfl rfl rfl) rfl rfl (P1 (p_lenL (xs:=s1.Labels) kd36 rfl) rfl rfl (P1 (p_lss rfl rfl) rfl rfl (TL.nil (hK12 _ _ ?_))))))
  refine TK.cond (b:=(decide (i9<(s1.Labels.length:Int)))) rfl (fun hc=>?_) (fun hc=>?_)
  ·have hX:=ite_t hc hX
   refine TK.skip ?_
   refine hK11 _ _ ?_
   refine TK.seq_k fun K13 hK13=>?_
   refine TK.block ?_
   refine TK.seq_k fun K14 hK14=>?_
   refine SR fun K15 hK15=>P1 (p_faR fs38_4 Dc rfl) rfl rfl (P1 (p_ldR (v:=Enc.v s1.Labels) ty36 rfl rfl rfl rfl rfl rfl) rfl rfl (M rfl rfl ?_))
   obtain ⟨e16,he16,hX⟩:=bind_some hX
   refine P1 (p_iaL (xs:=s1.Labels) kd36 ty3 rfl rfl rfl (fun _=>he16)) rfl rfl (P1 (p_ldE (xs:=s1.Labels) (a:=e16) (e16:Int) ty3 rfl rfl (fun _=>he16) rfl rfl rfl) rfl rfl (P1 (p_lss rfl rfl) rfl rfl (M rfl rfl ?_)))
   refine TLc.p (gc:=(!((decide (e16<(1:Int)))))) (p_faR fs38_4 Dc rfl (hg:=fun e=>rfl)) (gcF1 rfl) rfl ?_
   refine TLc.p (gc:=(!((decide (e16<(1:Int)))))) (p_ldR (v:=Enc.v s1.Labels) ty36 rfl rfl rfl rfl rfl rfl (hg:=fun e=>e)) (gcF1 rfl) rfl ?_
   refine TLc.p (gc:=(!((decide (e16<(1:Int)))))) (p_mv rfl (hg:=fun e=>rfl)) (gcF1 rfl) rfl ?_
   obtain ⟨e17,he17,hX⟩:=bind_some hX
   refine TLc.p (gc:=(!((decide (e16<(1:Int)))))) (p_iaL (xs:=s1.Labels) kd36 ty3 rfl rfl rfl (fun e=>optG_t he17 e) (hg:=fun e=>⟨e,e⟩)) (gcF1 rfl) rfl ?_
   refine TLc.p (gc:=(!((decide (e16<(1:Int)))))) (p_ldE (xs:=s1.Labels) (a:=e17) (e17:Int) ty3 rfl rfl (fun e=>optG_t he17 e) rfl rfl rfl (hg:=fun e=>e)) (gcF1 rfl) rfl ?_
   refine TLc.p (gc:=(!((decide (e16<(1:Int)))))) (p_gtr rfl rfl (hg:=fun e=>⟨e,rfl⟩)) (gcF1 rfl) rfl ?_
   refine P1 (p_or rfl rfl (fun e=>⟨rfl,fun h=>(not_t h)⟩)) rfl rfl (TL.nil (hK15 _ _ ?_))
   refine TK.cond (b:=((decide (e16<(1:Int)))||(decide (e17>(2147483647:Int))))) rfl (fun hc=>?_) (fun hc=>?_)
   ·have hX:=ite_t hc hX
    refine SR fun K18 hK18=>M rfl rfl (TL.nil (hK18 _ _ ?_))
    refine TK.ret ?_
    obtain rfl:=hR8 _ (some_in hX).symm
    replace hX:=hA8
    try dsimp only[thenQ]
    exact R1 rfl hX
   ·have hX:=ite_f hc hX
    refine TK.skip ?_
    refine hK14 _ _ (SR fun K19 hK19=>M rfl rfl (TL.nil (hK19 _ _ ?_)))
    refine TK.block ?_
    obtain ⟨o20,hO20,hA20⟩:=bind_some hX
    have E20:∀(env:Env) (h:Hp),(∃_u:Unit,keepE [1,3] env=[(1,true,.vref (ofL [Enc.v s1.Number,Enc.v s1.Index,Enc.v s1.Data,Enc.v s1.Parity,Enc.v s1.Labels]) 5 0),(3,true,Enc.v i9)]∧Nd []∧HSub [] h)→X.cartridgeref10_RightSeal_e20 i9=some x8x→K13 env h:=by
     intro env h hE hX
     obtain ⟨_u,henv,nd,hs⟩:=hE
     unfold X.cartridgeref10_RightSeal_e20 at hX
     refine hK13 _ _ (TK.keep [1,3] ?_)
     rw[henv]
     refine TK.subH hs ?_
     refine TK.reg ?_
     refine M rfl rfl (P1 (p_add rfl rfl) rfl rfl (M rfl rfl (TL.nil ?_)))
     exact ⟨_,(some_in hX).symm,(),rfl,Nd_nil,HSub.refl _⟩
    refine TK.iter [1,3,4] (fun s env h=>match s with|k21=>∃_u:Unit,env=[(1,true,.vref (ofL [Enc.v s1.Number,Enc.v s1.Index,Enc.v s1.Data,Enc.v s1.Parity,Enc.v s1.Labels]) 5 0),(3,true,Enc.v i9),(4,true,Enc.v k21)]∧Nd []∧HSub [] h) hO20 ⟨(),rfl,Nd_nil,HSub.refl _⟩ ?_
    rintro k21 env h x20x ⟨_u,rfl,nd,hs⟩ hX hR20
    refine TK.subH hs ?_
    unfold X.cartridgeref10_RightSeal_s20 at hX
    try dsimp only at hX
    refine TK.seq_k fun K22 hK22=>?_
    refine SR fun K23 hK23=>M rfl rfl (M rfl rfl (P1 (p_lss rfl rfl) rfl rfl (TL.nil (hK23 _ _ ?_))))
    refine TK.cond (b:=(decide (k21<i9))) rfl (fun hc=>?_) (fun hc=>?_)
    ·have hX:=ite_t hc hX
     refine TK.skip ?_
     refine hK22 _ _ ?_
     refine TK.seq_k fun K24 hK24=>?_
     refine TK.block ?_
     refine TK.seq_k fun K25 hK25=>?_
     have ndS:Nd []:=Nd.pick nd (is:=[]) Dc
     refine TK.drwX (h:=[]) (hS:=[]) [(0,0),(0,1),(0,2),(0,3),(0,4),(0,5),(0,6),(0,7),(0,8),(0,9),(0,10)] mixed (by kernel_rfl) (HSub_app nd) ?_
     refine D0 rfl (p_faR fs38_4 Dc rfl) rfl rfl ?_
     refine D0 rfl (p_ldR (v:=Enc.v s1.Labels) ty36 rfl rfl rfl rfl rfl rfl) rfl rfl ?_
     refine DM rfl rfl rfl ?_
     obtain ⟨e26,he26,hX⟩:=bind_some hX
     refine D0 rfl (p_iaL (xs:=s1.Labels) kd36 ty3 rfl rfl rfl (fun _=>he26)) rfl rfl ?_
     refine D0 rfl (p_ldE (xs:=s1.Labels) (a:=e26) (e26:Int) ty3 rfl rfl (fun _=>he26) rfl rfl rfl) rfl rfl ?_
     refine D0 rfl (p_faR fs38_4 Dc rfl) rfl rfl ?_
     refine D0 rfl (p_ldR (v:=Enc.v s1.Labels) ty36 rfl rfl rfl rfl rfl rfl) rfl rfl ?_
     refine DM rfl rfl rfl ?_
     obtain ⟨e27,he27,hX⟩:=bind_some hX
     refine D0 rfl (p_iaL (xs:=s1.Labels) kd36 ty3 rfl rfl rfl (fun _=>he27)) rfl rfl ?_
     refine D0 rfl (p_ldE (xs:=s1.Labels) (a:=e27) (e27:Int) ty3 rfl rfl (fun _=>he27) rfl rfl rfl) rfl rfl ?_
     refine D0 rfl (p_eql rfl rfl) rfl rfl ?_
     refine DRend ?_
     refine hK25 _ _ ?_
     refine TK.cond (b:=(e26==e27)) rfl (fun hc=>?_) (fun hc=>?_)
     ·have hX:=ite_t hc hX
      refine SR fun K28 hK28=>M rfl rfl (TL.nil (hK28 _ _ ?_))
      refine TK.ret ?_
      obtain rfl:=hR20 _ (some_in hX).symm
      replace hX:=hA20
      obtain rfl:=hR8 _ (some_in hX).symm
      replace hX:=hA8
      try dsimp only[thenQ]
      exact R1 rfl hX
     ·have hX:=ite_f hc hX
      refine TK.skip ?_
      refine hK24 _ _ ?_
      refine TK.reg ?_
      refine M rfl rfl (P1 (p_add rfl rfl) rfl rfl (M rfl rfl (TL.nil ?_)))
      exact ⟨_,(some_in hX).symm,(),rfl,Nd_nil,HSub.refl _⟩
    ·have hX:=ite_f hc hX
     refine TK.exit ?_
     obtain rfl:=hR20 _ (some_in hX).symm
     exact E20 _ _ ⟨(),rfl,Nd_nil,HSub.refl _⟩ hA20
  ·have hX:=ite_f hc hX
   refine TK.exit ?_
   obtain rfl:=hR8 _ (some_in hX).symm
   exact E8 _ _ ⟨(),rfl,Nd_nil,HSub.refl _⟩ hA8
theorem ok_cartridgeref10_Row (l1:(List Tape_api)) (n2:Int) (r:(List (List UInt8))) (hX:X.cartridgeref10_Row l1 n2=some r):Fun Tryz.prog 58 [Enc.v (l1:(List Tape_api)),Enc.v (n2:Int)] (·=Enc.v (r:(List (List UInt8)))):=by
 refine Fun.of b58 (Nat.le_of_ble_eq_true rfl) (allVal.mem ⟨(by exact (v_val _)),(by exact (v_val _)),trivial⟩) ?_
 unfold k58
 have nd:Nd []:=Nd_nil
 unfold X.cartridgeref10_Row at hX
 refine SR fun K3 hK3=>M rfl rfl (TL.nil (hK3 _ _ (SR fun K4 hK4=>M rfl rfl (TL.nil (hK4 _ _ ?_)))))
 refine TK.ownL (α:=(List UInt8)) 5 42 nd rfl (.inl rfl) fun b5 nd=>?_
 refine TK.seq_k fun K6 hK6=>?_
 refine SR fun K7 hK7=>M rfl rfl (TL.nil (hK7 _ _ ?_))
 refine TK.block ?_
 obtain ⟨o8,hO8,hA8⟩:=bind_some hX
 have E8:∀(l13:List (List UInt8)) (env:Env) (h:Hp),(∃b12,keepE [5] env=[(5,true,OL b12 l13)]∧Nd [(b12,RL (α:=(List UInt8)) 42 l13)]∧HSub [(b12,RL (α:=(List UInt8)) 42 l13)] h)→X.cartridgeref10_Row_e8 l13=some r→K6 env h:=by
  intro l13 env h hE hX
  obtain ⟨b12,henv,nd,hs⟩:=hE
  unfold X.cartridgeref10_Row_e8 at hX
  refine hK6 _ _ (TK.keep [5] ?_)
  rw[henv]
  refine TK.subH hs ?_
  refine SR fun K14 hK14=>M rfl rfl (M rfl rfl (TL.nil (hK14 _ _ ?_)))
  refine TK.lay [(4,L l13)] nd (j:=0) rfl ⟨⟨_,rfl,fix_OL nd (j:=0) rfl,rfl⟩,trivial⟩ fun nd=>?_
  refine TK.ret ?_
  try dsimp only[thenQ]
  exact R1 rfl hX
 refine TK.iter [0,1,5,6] (fun s env h=>match s with|(out10,i11)=>∃b9,env=[(0,true,Enc.v l1),(1,true,Enc.v n2),(5,true,OL b9 out10),(6,true,Enc.v i11)]∧Nd [(b9,RL (α:=(List UInt8)) 42 out10)]∧HSub [(b9,RL (α:=(List UInt8)) 42 out10)] h) hO8 ⟨b5,rfl,(Nd.pick nd (is:=[0]) Dc),(HSub.pick nd (is:=[0]) Dc)⟩ ?_
 rintro ⟨out10,i11⟩ env h x8x ⟨b9,rfl,nd,hs⟩ hX hR8
 refine TK.subH hs ?_
 unfold X.cartridgeref10_Row_s8 at hX
 try dsimp only at hX
 refine TK.seq_k fun K15 hK15=>?_
 refine SR fun K16 hK16=>M rfl rfl (M rfl rfl (P1 (p_lenL (xs:=l1) kd22 rfl) rfl rfl (P1 (p_lss rfl rfl) rfl rfl (TL.nil (hK16 _ _ ?_)))))
 refine TK.cond (b:=(decide (i11<(l1.length:Int)))) rfl (fun hc=>?_) (fun hc=>?_)
 ·have hX:=ite_t hc hX
  refine TK.skip ?_
  refine hK15 _ _ ?_
  refine TK.seq_k fun K17 hK17=>?_
  have J17:∀(l19:List (List UInt8)) (env:Env) (h:Hp),(∃b18,keepE [0,1,5,6] env=[(0,true,Enc.v l1),(1,true,Enc.v n2),(5,true,OL b18 l19),(6,true,Enc.v i11)]∧Nd [(b18,RL (α:=(List UInt8)) 42 l19)]∧HSub [(b18,RL (α:=(List UInt8)) 42 l19)] h)→X.cartridgeref10_Row_j17 i11 l19=some x8x→K17 env h:=by
   intro l19 env h hE hX
   obtain ⟨b18,henv,nd,hs⟩:=hE
   unfold X.cartridgeref10_Row_j17 at hX
   refine hK17 _ _ (TK.keep [0,1,5,6] ?_)
   rw[henv]
   refine TK.subH hs ?_
   refine TK.reg ?_
   refine M rfl rfl (P1 (p_add rfl rfl) rfl rfl (M rfl rfl (TL.nil ?_)))
   exact ⟨_,(some_in hX).symm,b18,rfl,(Nd.pick nd (is:=[0]) Dc),(HSub.pick nd (is:=[0]) Dc)⟩
  refine TK.block ?_
  refine TK.block ?_
  refine SR fun K20 hK20=>M rfl rfl (M rfl rfl ?_)
  obtain ⟨e21,he21,hX⟩:=bind_some hX
  refine P1 (p_iaL (xs:=l1) kd22 ty49 rfl rfl rfl (fun _=>he21)) rfl rfl (P1 (p_faE fs49_3 Dc rfl) rfl rfl (P1 (p_ldE (xs:=l1) (a:=e21) (e21.Lost:Bool) ty4 rfl rfl (fun _=>he21) rfl rfl rfl) rfl rfl (M rfl rfl ?_)))
  refine TLc.p (gc:=(!(e21.Lost))) (p_mv rfl (hg:=fun e=>rfl)) (gcF1 rfl) rfl ?_
  refine TLc.p (gc:=(!(e21.Lost))) (p_lss rfl rfl (hg:=fun e=>⟨e,rfl⟩)) (gcF1 rfl) rfl ?_
  refine P1 (p_or rfl rfl (fun e=>⟨rfl,fun h=>(not_t h)⟩)) rfl rfl (M rfl rfl ?_)
  refine TLc.p (gc:=(!((e21.Lost||(decide (n2<(0:Int))))))) (p_mv rfl (hg:=fun e=>rfl)) (gcF1 rfl) rfl ?_
  refine TLc.p (gc:=(!((e21.Lost||(decide (n2<(0:Int))))))) (p_mv rfl (hg:=fun e=>rfl)) (gcF1 rfl) rfl ?_
  refine TLc.p (gc:=(!((e21.Lost||(decide (n2<(0:Int))))))) (p_mv rfl (hg:=fun e=>rfl)) (gcF1 rfl) rfl ?_
  obtain ⟨e22,he22,hX⟩:=bind_some hX
  refine TLc.p (gc:=(!((e21.Lost||(decide (n2<(0:Int))))))) (p_iaL (xs:=l1) kd22 ty49 rfl rfl rfl (fun e=>optG_t he22 e) (hg:=fun e=>⟨e,e⟩)) (gcF1 rfl) rfl ?_
  refine TLc.p (gc:=(!((e21.Lost||(decide (n2<(0:Int))))))) (p_faE fs49_2 Dc rfl (hg:=fun e=>e)) (gcF1 rfl) rfl ?_
  refine TLc.p (gc:=(!((e21.Lost||(decide (n2<(0:Int))))))) (p_ldE (xs:=l1) (a:=e22) (e22.Blocks:(List (List UInt8))) ty47 rfl rfl (fun e=>optG_t he22 e) rfl rfl rfl (hg:=fun e=>e)) (gcF1 rfl) rfl ?_
  refine TLc.p (gc:=(!((e21.Lost||(decide (n2<(0:Int))))))) (p_lenL (xs:=e22.Blocks) kd47 rfl (hg:=fun e=>e)) (gcF1 rfl) rfl ?_
  refine TLc.p (gc:=(!((e21.Lost||(decide (n2<(0:Int))))))) (p_geq rfl rfl (hg:=fun e=>⟨e,e⟩)) (gcF1 rfl) rfl ?_
  refine P1 (p_or rfl rfl (fun e=>⟨rfl,fun h=>(not_t h)⟩)) rfl rfl (M rfl rfl (TL.nil (hK20 _ _ ?_)))
  refine TK.cond (b:=((e21.Lost||(decide (n2<(0:Int))))||(decide (n2≥(e22.Blocks.length:Int))))) rfl (fun hc=>?_) (fun hc=>?_)
  ·have hX:=ite_t hc hX
   refine TK.reg ?_
   refine M rfl rfl ?_
   obtain ⟨u23,hu23,hX⟩:=bind_some hX
   refine TLc.mkV nd (0:UInt8) kd42 ty5 rfl (fun j hj=>by (have:j=0:=by simpa[Enc.sz] using hj);subst this;rfl) rfl rfl Dc (need_t hu23) rfl ?_
   refine TLc.lit ([(List.replicate (79:Int).toNat (0:UInt8))]:List (List UInt8)) kd47 ty42 rfl ⟨⟨rfl,rfl⟩,trivial⟩ rfl rfl rfl ?_
   obtain ⟨u24,hu24,hX⟩:=bind_some hX
   refine TLc.appO nd kd47 bo47 ty42 rfl rfl (j:=0) rfl rfl (Src_L _) Dc (need_t hu24) rfl fun nd=>?_
   refine M rfl rfl (TL.nil ?_)
   exact J17 (out10++([(List.replicate (79:Int).toNat (0:UInt8))]:List (List UInt8))) _ _ ⟨b9,rfl,(Nd.pick nd (is:=[0]) Dc),(HSub.pick nd (is:=[0]) Dc)⟩ hX
  ·have hX:=ite_f hc hX
   refine SR fun K25 hK25=>M rfl rfl (M rfl rfl ?_)
   obtain ⟨e26,he26,hX⟩:=bind_some hX
   refine P1 (p_iaL (xs:=l1) kd22 ty49 rfl rfl rfl (fun _=>he26)) rfl rfl (P1 (p_faE fs49_2 Dc rfl) rfl rfl (P1 (p_ldE (xs:=l1) (a:=e26) (e26.Blocks:(List (List UInt8))) ty47 rfl rfl (fun _=>he26) rfl rfl rfl) rfl rfl (M rfl rfl ?_)))
   obtain ⟨e27,he27,hX⟩:=bind_some hX
   refine P1 (p_iaL (xs:=e26.Blocks) kd47 ty42 rfl rfl rfl (fun _=>he27)) rfl rfl (P1 (p_ldE (xs:=e26.Blocks) (a:=e27) (e27:(List UInt8)) ty42 rfl rfl (fun _=>he27) rfl rfl rfl) rfl rfl (P1 (p_lenL (xs:=e27) kd42 rfl) rfl rfl (P1 (p_eql rfl rfl) rfl rfl (M rfl rfl (TL.nil (hK25 _ _ ?_))))))
   refine TK.cond (b:=((e27.length:Int)==(79:Int))) rfl (fun hc=>?_) (fun hc=>?_)
   ·have hX:=ite_t hc hX
    refine TK.reg ?_
    refine M rfl rfl (M rfl rfl (M rfl rfl ?_))
    obtain ⟨e28,he28,hX⟩:=bind_some hX
    refine P1 (p_iaL (xs:=l1) kd22 ty49 rfl rfl rfl (fun _=>he28)) rfl rfl (P1 (p_faE fs49_2 Dc rfl) rfl rfl (P1 (p_ldE (xs:=l1) (a:=e28) (e28.Blocks:(List (List UInt8))) ty47 rfl rfl (fun _=>he28) rfl rfl rfl) rfl rfl (M rfl rfl ?_)))
    obtain ⟨e29,he29,hX⟩:=bind_some hX
    refine P1 (p_iaL (xs:=e28.Blocks) kd47 ty42 rfl rfl rfl (fun _=>he29)) rfl rfl (P1 (p_ldE (xs:=e28.Blocks) (a:=e29) (e29:(List UInt8)) ty42 rfl rfl (fun _=>he29) rfl rfl rfl) rfl rfl ?_)
    obtain ⟨u30,hu30,hX⟩:=bind_some hX
    refine TLc.appN nd kd42 bo42 ty5 rfl rfl (.inl rfl) rfl (Src_L _) Dc (need_t hu30) rfl fun b31 nd=>?_
    refine TL.lay [(60,L e29)] nd (j:=0) rfl ⟨⟨_,rfl,fix_OL nd (j:=0) rfl,rfl⟩,trivial⟩ fun nd=>?_
    refine TLc.lit ([e29]:List (List UInt8)) kd47 ty42 rfl ⟨⟨rfl,rfl⟩,trivial⟩ rfl rfl rfl ?_
    obtain ⟨u33,hu33,hX⟩:=bind_some hX
    refine TLc.appO nd kd47 bo47 ty42 rfl rfl (j:=0) rfl rfl (Src_L _) Dc (need_t hu33) rfl fun nd=>?_
    refine M rfl rfl (TL.nil ?_)
    exact J17 (out10++([e29]:List (List UInt8))) _ _ ⟨b9,rfl,(Nd.pick nd (is:=[0]) Dc),(HSub.pick nd (is:=[0]) Dc)⟩ hX
   ·have hX:=ite_f hc hX
    refine TK.reg ?_
    refine M rfl rfl ?_
    refine TLc.litN ([([]:(List UInt8))]:List (List UInt8)) kd47 ty42 rfl ⟨⟨rfl,_,rfl,.inr ⟨rfl,rfl⟩⟩,trivial⟩ rfl rfl rfl ?_
    obtain ⟨u34,hu34,hX⟩:=bind_some hX
    refine TLc.appO nd kd47 bo47 ty42 rfl rfl (j:=0) rfl rfl (Src_L _) Dc (need_t hu34) rfl fun nd=>?_
    refine M rfl rfl (TL.nil ?_)
    exact J17 (out10++([([]:(List UInt8))]:List (List UInt8))) _ _ ⟨b9,rfl,(Nd.pick nd (is:=[0]) Dc),(HSub.pick nd (is:=[0]) Dc)⟩ hX
 ·have hX:=ite_f hc hX
  refine TK.exit ?_
  obtain rfl:=hR8 _ (some_in hX).symm
  exact E8 out10 _ _ ⟨b9,rfl,(Nd.pick nd (is:=[0]) Dc),(HSub.pick nd (is:=[0]) Dc)⟩ hA8
theorem ok_cartridgeref1_Mul (a1:UInt8) (b2:UInt8) (r:UInt8) (hX:X.cartridgeref1_Mul a1 b2=some r):Fun Tryz.prog 89 [Enc.v (a1:UInt8),Enc.v (b2:UInt8)] (·=Enc.v (r:UInt8)):=by
 refine Fun.of b89 (Nat.le_of_ble_eq_true rfl) (allVal.mem ⟨(by exact (v_val _)),(by exact (v_val _)),trivial⟩) ?_
 unfold k89
 have nd:Nd []:=Nd_nil
 unfold X.cartridgeref1_Mul at hX
 refine SR fun K3 hK3=>M rfl rfl (TL.nil (hK3 _ _ (SR fun K4 hK4=>M rfl rfl (TL.nil (hK4 _ _ ?_)))))
 refine TK.seq_k fun K5 hK5=>?_
 refine SR fun K6 hK6=>M rfl rfl (TL.nil (hK6 _ _ ?_))
 refine TK.block ?_
 obtain ⟨o7,hO7,hA7⟩:=bind_some hX
 have E7:∀(x10:Int) (env:Env) (h:Hp),(∃_u:Unit,keepE [5] env=[(5,true,Enc.v x10)]∧Nd []∧HSub [] h)→X.cartridgeref1_Mul_e7 x10=some r→K5 env h:=by
  intro x10 env h hE hX
  obtain ⟨_u,henv,nd,hs⟩:=hE
  unfold X.cartridgeref1_Mul_e7 at hX
  refine hK5 _ _ (TK.keep [5] ?_)
  rw[henv]
  refine TK.subH hs ?_
  refine TK.seq_k fun K11 hK11=>?_
  refine SR fun K12 hK12=>M rfl rfl (TL.nil (hK12 _ _ ?_))
  refine TK.block ?_
  obtain ⟨o13,hO13,hA13⟩:=bind_some hX
  have E13:∀(x16:Int) (env:Env) (h:Hp),(∃_u:Unit,keepE [5] env=[(5,true,Enc.v x16)]∧Nd []∧HSub [] h)→X.cartridgeref1_Mul_e13 x16=some r→K11 env h:=by
   intro x16 env h hE hX
   obtain ⟨_u,henv,nd,hs⟩:=hE
   unfold X.cartridgeref1_Mul_e13 at hX
   refine hK11 _ _ (TK.keep [5] ?_)
   rw[henv]
   refine TK.subH hs ?_
   refine SR fun K17 hK17=>M rfl rfl (P1 (p_cvt src3 kd5 rfl (cv_u8 _)) rfl rfl (M rfl rfl (TL.nil (hK17 _ _ ?_))))
   refine TK.ret ?_
   try dsimp only[thenQ]
   exact R1 rfl hX
  refine TK.iter [5,7] (fun s env h=>match s with|(x14,i15)=>∃_u:Unit,env=[(5,true,Enc.v x14),(7,true,Enc.v i15)]∧Nd []∧HSub [] h) hO13 ⟨(),rfl,Nd_nil,HSub.refl _⟩ ?_
  rintro ⟨x14,i15⟩ env h x13x ⟨_u,rfl,nd,hs⟩ hX hR13
  refine TK.subH hs ?_
  unfold X.cartridgeref1_Mul_s13 at hX
  try dsimp only at hX
  refine TK.seq_k fun K18 hK18=>?_
  refine SR fun K19 hK19=>M rfl rfl (P1 (p_geq rfl rfl) rfl rfl (TL.nil (hK19 _ _ ?_)))
  refine TK.cond (b:=(decide (i15≥(8:Int)))) rfl (fun hc=>?_) (fun hc=>?_)
  ·have hX:=ite_t hc hX
   refine TK.skip ?_
   refine hK18 _ _ ?_
   refine TK.seq_k fun K20 hK20=>?_
   have J20:∀(x21:Int) (env:Env) (h:Hp),(∃_u:Unit,keepE [5,7] env=[(5,true,Enc.v x21),(7,true,Enc.v i15)]∧Nd []∧HSub [] h)→X.cartridgeref1_Mul_j20 i15 x21=some x13x→K20 env h:=by
    intro x21 env h hE hX
    obtain ⟨_u,henv,nd,hs⟩:=hE
    unfold X.cartridgeref1_Mul_j20 at hX
    refine hK20 _ _ (TK.keep [5,7] ?_)
    rw[henv]
    refine TK.subH hs ?_
    refine TK.reg ?_
    refine M rfl rfl (P1 (p_sub rfl rfl) rfl rfl (M rfl rfl (TL.nil ?_)))
    exact ⟨_,(some_in hX).symm,(),rfl,Nd_nil,HSub.refl _⟩
   refine TK.block ?_
   refine SR fun K22 hK22=>M rfl rfl (M rfl rfl (P1 (p_cvt src3 kd80 rfl (cv_u64 _)) rfl rfl (P1 (p_shr rfl rfl (fun _=>by omega)) rfl rfl (P1 (p_and64 rfl rfl) rfl rfl (P1 (p_eql rfl rfl) rfl rfl (TL.nil (hK22 _ _ ?_)))))))
   refine TK.cond (b:=((and64 (shr64 x14 ((u64 i15).toNat:Int)) (1:Int))==(1:Int))) rfl (fun hc=>?_) (fun hc=>?_)
   ·have hX:=ite_t hc hX
    refine TK.reg ?_
    refine M rfl rfl (M rfl rfl (P1 (p_sub rfl rfl) rfl rfl (P1 (p_cvt src3 kd80 rfl (cv_u64 _)) rfl rfl (P1 (p_shl rfl rfl (fun _=>by omega)) rfl rfl (P1 (p_xor64 rfl rfl) rfl rfl (M rfl rfl (TL.nil ?_)))))))
    exact J20 (xor64 x14 (shl64 (285:Int) ((u64 (wr (i15-(8:Int)))).toNat:Int))) _ _ ⟨(),rfl,Nd_nil,HSub.refl _⟩ hX
   ·have hX:=ite_f hc hX
    refine TK.skip ?_
    exact J20 x14 _ _ ⟨(),rfl,Nd_nil,HSub.refl _⟩ hX
  ·have hX:=ite_f hc hX
   refine TK.exit ?_
   obtain rfl:=hR13 _ (some_in hX).symm
   exact E13 x14 _ _ ⟨(),rfl,Nd_nil,HSub.refl _⟩ hA13
 refine TK.iter [0,1,5,6] (fun s env h=>match s with|(x8,i9)=>∃_u:Unit,env=[(0,true,Enc.v a1),(1,true,Enc.v b2),(5,true,Enc.v x8),(6,true,Enc.v i9)]∧Nd []∧HSub [] h) hO7 ⟨(),rfl,Nd_nil,HSub.refl _⟩ ?_
 rintro ⟨x8,i9⟩ env h x7x ⟨_u,rfl,nd,hs⟩ hX hR7
 refine TK.subH hs ?_
 unfold X.cartridgeref1_Mul_s7 at hX
 try dsimp only at hX
 refine TK.seq_k fun K23 hK23=>?_
 refine SR fun K24 hK24=>M rfl rfl (P1 (p_lss rfl rfl) rfl rfl (TL.nil (hK24 _ _ ?_)))
 refine TK.cond (b:=(decide (i9<(8:Int)))) rfl (fun hc=>?_) (fun hc=>?_)
 ·have hX:=ite_t hc hX
  refine TK.skip ?_
  refine hK23 _ _ ?_
  refine TK.seq_k fun K25 hK25=>?_
  have J25:∀(x26:Int) (env:Env) (h:Hp),(∃_u:Unit,keepE [0,1,5,6] env=[(0,true,Enc.v a1),(1,true,Enc.v b2),(5,true,Enc.v x26),(6,true,Enc.v i9)]∧Nd []∧HSub [] h)→X.cartridgeref1_Mul_j25 i9 x26=some x7x→K25 env h:=by
   intro x26 env h hE hX
   obtain ⟨_u,henv,nd,hs⟩:=hE
   unfold X.cartridgeref1_Mul_j25 at hX
   refine hK25 _ _ (TK.keep [0,1,5,6] ?_)
   rw[henv]
   refine TK.subH hs ?_
   refine TK.reg ?_
   refine M rfl rfl (P1 (p_add rfl rfl) rfl rfl (M rfl rfl (TL.nil ?_)))
   exact ⟨_,(some_in hX).symm,(),rfl,Nd_nil,HSub.refl _⟩
  refine TK.block ?_
  refine SR fun K27 hK27=>M rfl rfl (M rfl rfl (P1 (p_cvt src3 kd80 rfl (cv_u64 _)) rfl rfl (P1 (p8_shr (a:=b2) (b:=(u64 i9).toNat) rfl rfl) rfl rfl (P1 (p8_and (a:=(shr8 b2 (u64 i9).toNat)) (b:=(1:UInt8)) rfl rfl) rfl rfl (P1 (p8_eql (a:=((shr8 b2 (u64 i9).toNat)&&&(1:UInt8))) (b:=(1:UInt8)) rfl rfl) rfl rfl (TL.nil (hK27 _ _ ?_)))))))
  refine TK.cond (b:=(((shr8 b2 (u64 i9).toNat)&&&(1:UInt8))==(1:UInt8))) rfl (fun hc=>?_) (fun hc=>?_)
  ·have hX:=ite_t hc hX
   refine TK.reg ?_
   refine M rfl rfl (M rfl rfl (P1 (p_cvt src5 kd3 rfl (cv_8 a1)) rfl rfl (M rfl rfl (P1 (p_cvt src3 kd80 rfl (cv_u64 _)) rfl rfl (P1 (p_shl rfl rfl (fun _=>by omega)) rfl rfl (P1 (p_xor64 rfl rfl) rfl rfl (M rfl rfl (TL.nil ?_))))))))
   exact J25 (xor64 x8 (shl64 (a1.toNat:Int) ((u64 i9).toNat:Int))) _ _ ⟨(),rfl,Nd_nil,HSub.refl _⟩ hX
  ·have hX:=ite_f hc hX
   refine TK.skip ?_
   exact J25 x8 _ _ ⟨(),rfl,Nd_nil,HSub.refl _⟩ hX
 ·have hX:=ite_f hc hX
  refine TK.exit ?_
  obtain rfl:=hR7 _ (some_in hX).symm
  exact E7 x8 _ _ ⟨(),rfl,Nd_nil,HSub.refl _⟩ hA7
theorem ok_cartridgeref1_Inv (a1:UInt8) (r:UInt8) (hX:X.cartridgeref1_Inv a1=some r):Fun Tryz.prog 113 [Enc.v (a1:UInt8)] (·=Enc.v (r:UInt8)):=by
 refine Fun.of b113 (Nat.le_of_ble_eq_true rfl) (allVal.mem ⟨(by exact (v_val _)),trivial⟩) ?_
 unfold k113
 have nd:Nd []:=Nd_nil
 unfold X.cartridgeref1_Inv at hX
 refine SR fun K2 hK2=>M rfl rfl (TL.nil (hK2 _ _ (SR fun K3 hK3=>M rfl rfl (TL.nil (hK3 _ _ ?_)))))
 refine TK.seq_k fun K4 hK4=>?_
 refine SR fun K5 hK5=>M rfl rfl (TL.nil (hK5 _ _ ?_))
 refine TK.block ?_
 obtain ⟨o6,hO6,hA6⟩:=bind_some hX
 have E6:∀(x9:UInt8) (env:Env) (h:Hp),(∃_u:Unit,keepE [3] env=[(3,true,Enc.v x9)]∧Nd []∧HSub [] h)→X.cartridgeref1_Inv_e6 x9=some r→K4 env h:=by
  intro x9 env h hE hX
  obtain ⟨_u,henv,nd,hs⟩:=hE
  unfold X.cartridgeref1_Inv_e6 at hX
  refine hK4 _ _ (TK.keep [3] ?_)
  rw[henv]
  refine TK.subH hs ?_
  refine SR fun K10 hK10=>M rfl rfl (M rfl rfl (TL.nil (hK10 _ _ ?_)))
  refine TK.ret ?_
  try dsimp only[thenQ]
  exact R1 rfl hX
 refine TK.iter [0,3,4] (fun s env h=>match s with|(x7,i8)=>∃_u:Unit,env=[(0,true,Enc.v a1),(3,true,Enc.v x7),(4,true,Enc.v i8)]∧Nd []∧HSub [] h) hO6 ⟨(),rfl,Nd_nil,HSub.refl _⟩ ?_
 rintro ⟨x7,i8⟩ env h x6x ⟨_u,rfl,nd,hs⟩ hX hR6
 refine TK.subH hs ?_
 unfold X.cartridgeref1_Inv_s6 at hX
 try dsimp only at hX
 refine TK.seq_k fun K11 hK11=>?_
 refine SR fun K12 hK12=>M rfl rfl (P1 (p_lss rfl rfl) rfl rfl (TL.nil (hK12 _ _ ?_)))
 refine TK.cond (b:=(decide (i8<(254:Int)))) rfl (fun hc=>?_) (fun hc=>?_)
 ·have hX:=ite_t hc hX
  refine TK.skip ?_
  refine hK11 _ _ ?_
  refine TK.seq_k fun K13 hK13=>?_
  refine TK.block ?_
  refine TK.reg ?_
  refine M rfl rfl (M rfl rfl ?_)
  obtain ⟨r14,hr14,hX⟩:=bind_some hX
  refine TL.cvX rfl rfl rfl (fun _=>⟨rfl,⟨rfl,⟨rfl,trivial⟩⟩⟩) (fun e=>ok_cartridgeref1_Mul x7 a1 _ hr14) ?_
  refine M rfl rfl (TL.nil (hK13 _ _ ?_))
  refine TK.reg ?_
  refine M rfl rfl (P1 (p_add rfl rfl) rfl rfl (M rfl rfl (TL.nil ?_)))
  exact ⟨_,(some_in hX).symm,(),rfl,Nd_nil,HSub.refl _⟩
 ·have hX:=ite_f hc hX
  refine TK.exit ?_
  obtain rfl:=hR6 _ (some_in hX).symm
  exact E6 x7 _ _ ⟨(),rfl,Nd_nil,HSub.refl _⟩ hA6
theorem ok_cartridgeref1_Cauchy (data1:Int) (parity2:Int) (r:((List (List UInt8))×Int)) (hX:X.cartridgeref1_Cauchy data1 parity2=some r):Fun Tryz.prog 88 [Enc.v (data1:Int),Enc.v (parity2:Int)] (·= .tup 2 (ofL [Enc.v r.1,Enc.v r.2])):=by
 refine Fun.of b88 (Nat.le_of_ble_eq_true rfl) (allVal.mem ⟨(by exact (v_val _)),(by exact (v_val _)),trivial⟩) ?_
 unfold k88
 have nd:Nd []:=Nd_nil
 unfold X.cartridgeref1_Cauchy at hX
 refine SR fun K3 hK3=>M rfl rfl (M rfl rfl (TL.nil (hK3 _ _ ?_)))
 refine TK.seq_k fun K4 hK4=>?_
 refine SR fun K5 hK5=>M rfl rfl (P1 (p_lss rfl rfl) rfl rfl (M rfl rfl ?_))
 refine TLc.p (gc:=(!((decide (data1<(1:Int)))))) (p_mv rfl (hg:=fun e=>rfl)) (gcF1 rfl) rfl ?_
 refine TLc.p (gc:=(!((decide (data1<(1:Int)))))) (p_lss rfl rfl (hg:=fun e=>⟨e,rfl⟩)) (gcF1 rfl) rfl ?_
 refine P1 (p_or rfl rfl (fun e=>⟨rfl,fun h=>(not_t h)⟩)) rfl rfl (M rfl rfl ?_)
 refine TLc.p (gc:=(!(((decide (data1<(1:Int)))||(decide (parity2<(1:Int))))))) (p_mv rfl (hg:=fun e=>rfl)) (gcF1 rfl) rfl ?_
 refine TLc.p (gc:=(!(((decide (data1<(1:Int)))||(decide (parity2<(1:Int))))))) (p_gtr rfl rfl (hg:=fun e=>⟨e,rfl⟩)) (gcF1 rfl) rfl ?_
 refine P1 (p_or rfl rfl (fun e=>⟨rfl,fun h=>(not_t h)⟩)) rfl rfl (M rfl rfl ?_)
 refine TLc.p (gc:=(!((((decide (data1<(1:Int)))||(decide (parity2<(1:Int))))||(decide (data1>(255:Int))))))) (p_mv rfl (hg:=fun e=>rfl)) (gcF1 rfl) rfl ?_
 refine TLc.p (gc:=(!((((decide (data1<(1:Int)))||(decide (parity2<(1:Int))))||(decide (data1>(255:Int))))))) (p_gtr rfl rfl (hg:=fun e=>⟨e,rfl⟩)) (gcF1 rfl) rfl ?_
 refine P1 (p_or rfl rfl (fun e=>⟨rfl,fun h=>(not_t h)⟩)) rfl rfl (M rfl rfl ?_)
 refine TLc.p (gc:=(!(((((decide (data1<(1:Int)))||(decide (parity2<(1:Int))))||(decide (data1>(255:Int))))||(decide (parity2>(255:Int))))))) (p_mv rfl (hg:=fun e=>rfl)) (gcF1 rfl) rfl ?_
 refine TLc.p (gc:=(!(((((decide (data1<(1:Int)))||(decide (parity2<(1:Int))))||(decide (data1>(255:Int))))||(decide (parity2>(255:Int))))))) (p_mv rfl (hg:=fun e=>rfl)) (gcF1 rfl) rfl ?_
 refine TLc.p (gc:=(!(((((decide (data1<(1:Int)))||(decide (parity2<(1:Int))))||(decide (data1>(255:Int))))||(decide (parity2>(255:Int))))))) (p_add rfl rfl (hg:=fun e=>⟨e,e⟩)) (gcF1 rfl) rfl ?_
 refine TLc.p (gc:=(!(((((decide (data1<(1:Int)))||(decide (parity2<(1:Int))))||(decide (data1>(255:Int))))||(decide (parity2>(255:Int))))))) (p_gtr rfl rfl (hg:=fun e=>⟨e,rfl⟩)) (gcF1 rfl) rfl ?_
 refine P1 (p_or rfl rfl (fun e=>⟨rfl,fun h=>(not_t h)⟩)) rfl rfl (TL.nil (hK5 _ _ ?_))
 refine TK.cond (b:=(((((decide (data1<(1:Int)))||(decide (parity2<(1:Int))))||(decide (data1>(255:Int))))||(decide (parity2>(255:Int))))||(decide ((wr (data1+parity2))>(255:Int))))) rfl (fun hc=>?_) (fun hc=>?_)
 ·have hX:=ite_t hc hX
  refine SR fun K6 hK6=>M rfl rfl (M rfl rfl (TL.nil (hK6 _ _ ?_)))
  refine TK.wk 4 (L ([]:(List (List UInt8)))) rfl Wk_nil ?_
  refine TK.ret ?_
  try dsimp only[thenQ]
  exact retN (vs:=[Enc.v (([]:(List (List UInt8))):(List (List UInt8))),Enc.v ((1:Int):Int)]) ⟨rfl,rfl,trivial⟩ (by obtain rfl:=some_in hX;rfl) (allVal.mem ⟨v_val _,v_val _,trivial⟩)
 ·have hX:=ite_f hc hX
  refine TK.skip ?_
  refine hK4 _ _ (SR fun K7 hK7=>M rfl rfl (TL.nil (hK7 _ _ ?_)))
  refine TK.ownL (α:=(List UInt8)) 6 42 nd rfl (.inl rfl) fun b8 nd=>?_
  refine TK.seq_k fun K9 hK9=>?_
  refine SR fun K10 hK10=>M rfl rfl (TL.nil (hK10 _ _ ?_))
  refine TK.block ?_
  obtain ⟨o11,hO11,hA11⟩:=bind_some hX
  have E11:∀(l16:List (List UInt8)) (env:Env) (h:Hp),(∃b15,keepE [6] env=[(6,true,OL b15 l16)]∧Nd [(b15,RL (α:=(List UInt8)) 42 l16)]∧HSub [(b15,RL (α:=(List UInt8)) 42 l16)] h)→X.cartridgeref1_Cauchy_e11 l16=some r→K9 env h:=by
   intro l16 env h hE hX
   obtain ⟨b15,henv,nd,hs⟩:=hE
   unfold X.cartridgeref1_Cauchy_e11 at hX
   refine hK9 _ _ (TK.keep [6] ?_)
   rw[henv]
   refine TK.subH hs ?_
   refine SR fun K17 hK17=>M rfl rfl (M rfl rfl (M rfl rfl (TL.nil (hK17 _ _ ?_))))
   refine TK.lay [(4,L l16)] nd (j:=0) rfl ⟨⟨_,rfl,fix_OL nd (j:=0) rfl,rfl⟩,trivial⟩ fun nd=>?_
   refine TK.ret ?_
   try dsimp only[thenQ]
   exact retN (vs:=[Enc.v l16,Enc.v ((0:Int):Int)]) ⟨rfl,rfl,trivial⟩ (by obtain rfl:=some_in hX;rfl) (allVal.mem ⟨v_val _,v_val _,trivial⟩)
  refine TK.iter [0,1,6,7] (fun s env h=>match s with|(out13,i14)=>∃b12,env=[(0,true,Enc.v data1),(1,true,Enc.v parity2),(6,true,OL b12 out13),(7,true,Enc.v i14)]∧Nd [(b12,RL (α:=(List UInt8)) 42 out13)]∧HSub [(b12,RL (α:=(List UInt8)) 42 out13)] h) hO11 ⟨b8,rfl,(Nd.pick nd (is:=[0]) Dc),(HSub.pick nd (is:=[0]) Dc)⟩ ?_
  rintro ⟨out13,i14⟩ env h x11x ⟨b12,rfl,nd,hs⟩ hX hR11
  refine TK.subH hs ?_
  unfold X.cartridgeref1_Cauchy_s11 at hX
  try dsimp only at hX
  refine TK.seq_k fun K18 hK18=>?_
  refine SR fun K19 hK19=>M rfl rfl (M rfl rfl (P1 (p_lss rfl rfl) rfl rfl (TL.nil (hK19 _ _ ?_))))
  refine TK.cond (b:=(decide (i14<parity2))) rfl (fun hc=>?_) (fun hc=>?_)
  ·have hX:=ite_t hc hX
   refine TK.skip ?_
   refine hK18 _ _ ?_
   refine TK.seq_k fun K20 hK20=>?_
   refine TK.block ?_
   refine SR fun K21 hK21=>M rfl rfl (TL.nil (hK21 _ _ ?_))
   refine TK.ownL (α:=UInt8) 8 5 nd rfl (.inl rfl) fun b22 nd=>?_
   refine TK.seq_k fun K23 hK23=>?_
   refine SR fun K24 hK24=>M rfl rfl (TL.nil (hK24 _ _ ?_))
   refine TK.block ?_
   obtain ⟨o25,hO25,hA25⟩:=bind_some hX
   have E25:∀(l32:List UInt8) (env:Env) (h:Hp),(∃b30 b31,keepE [0,1,6,7,8] env=[(0,true,Enc.v data1),(1,true,Enc.v parity2),(6,true,OL b30 out13),(7,true,Enc.v i14),(8,true,OL b31 l32)]∧Nd [(b30,RL (α:=(List UInt8)) 42 out13),(b31,RL (α:=UInt8) 5 l32)]∧HSub [(b30,RL (α:=(List UInt8)) 42 out13),(b31,RL (α:=UInt8) 5 l32)] h)→X.cartridgeref1_Cauchy_e25 out13 i14 l32=some x11x→K23 env h:=by
    intro l32 env h hE hX
    obtain ⟨b30,b31,henv,nd,hs⟩:=hE
    unfold X.cartridgeref1_Cauchy_e25 at hX
    refine hK23 _ _ (TK.keep [0,1,6,7,8] ?_)
    rw[henv]
    refine TK.subH hs ?_
    refine TK.reg ?_
    refine M rfl rfl (M rfl rfl ?_)
    refine TL.lay [(52,L l32)] nd (j:=1) rfl ⟨⟨_,rfl,fix_OL nd (j:=1) rfl,rfl⟩,trivial⟩ fun nd=>?_
    refine TLc.lit ([l32]:List (List UInt8)) kd47 ty42 rfl ⟨⟨rfl,rfl⟩,trivial⟩ rfl rfl rfl ?_
    obtain ⟨u33,hu33,hX⟩:=bind_some hX
    refine TLc.appO nd kd47 bo47 ty42 rfl rfl (j:=0) rfl rfl (Src_L _) Dc (need_t hu33) rfl fun nd=>?_
    refine M rfl rfl (TL.nil (hK20 _ _ ?_))
    refine TK.reg ?_
    refine M rfl rfl (P1 (p_add rfl rfl) rfl rfl (M rfl rfl (TL.nil ?_)))
    exact ⟨_,(some_in hX).symm,b30,rfl,(Nd.pick nd (is:=[0]) Dc),(HSub.pick nd (is:=[0]) Dc)⟩
   refine TK.iter [0,1,6,7,8,9] (fun s env h=>match s with|(row28,j29)=>∃b26 b27,env=[(0,true,Enc.v data1),(1,true,Enc.v parity2),(6,true,OL b26 out13),(7,true,Enc.v i14),(8,true,OL b27 row28),(9,true,Enc.v j29)]∧Nd [(b26,RL (α:=(List UInt8)) 42 out13),(b27,RL (α:=UInt8) 5 row28)]∧HSub [(b26,RL (α:=(List UInt8)) 42 out13),(b27,RL (α:=UInt8) 5 row28)] h) hO25 ⟨b12,b22,rfl,(Nd.pick nd (is:=[1,0]) Dc),(HSub.pick nd (is:=[1,0]) Dc)⟩ ?_
   rintro ⟨row28,j29⟩ env h x25x ⟨b26,b27,rfl,nd,hs⟩ hX hR25
   refine TK.subH hs ?_
   unfold X.cartridgeref1_Cauchy_s25 at hX
   try dsimp only at hX
   refine TK.seq_k fun K34 hK34=>?_
   refine SR fun K35 hK35=>M rfl rfl (M rfl rfl (P1 (p_lss rfl rfl) rfl rfl (TL.nil (hK35 _ _ ?_))))
   refine TK.cond (b:=(decide (j29<data1))) rfl (fun hc=>?_) (fun hc=>?_)
   ·have hX:=ite_t hc hX
    refine TK.skip ?_
    refine hK34 _ _ ?_
    refine TK.seq_k fun K36 hK36=>?_
    refine TK.block ?_
    refine TK.reg ?_
    refine M rfl rfl (M rfl rfl (P1 (p_cvt src3 kd5 rfl (cv_u8 _)) rfl rfl (M rfl rfl (M rfl rfl (P1 (p_add rfl rfl) rfl rfl (P1 (p_cvt src3 kd5 rfl (cv_u8 _)) rfl rfl (P1 (p8_xor (a:=(u8 i14)) (b:=(u8 (wr (parity2+j29)))) rfl rfl) rfl rfl ?_)))))))
    obtain ⟨r37,hr37,hX⟩:=bind_some hX
    refine TL.cvX rfl rfl rfl (fun _=>⟨rfl,⟨rfl,trivial⟩⟩) (fun e=>ok_cartridgeref1_Inv ((u8 i14)^^^(u8 (wr (parity2+j29)))) _ hr37) ?_
    refine TLc.lit ([r37]:List UInt8) kd42 ty5 rfl ⟨⟨rfl,rfl⟩,trivial⟩ rfl rfl rfl ?_
    obtain ⟨u38,hu38,hX⟩:=bind_some hX
    refine TLc.appO nd kd42 bo42 ty5 rfl rfl (j:=1) rfl rfl (Src_L _) Dc (need_t hu38) rfl fun nd=>?_
    refine M rfl rfl (TL.nil (hK36 _ _ ?_))
    refine TK.reg ?_
    refine M rfl rfl (P1 (p_add rfl rfl) rfl rfl (M rfl rfl (TL.nil ?_)))
    exact ⟨_,(some_in hX).symm,b26,b27,rfl,(Nd.pick nd (is:=[0,1]) Dc),(HSub.pick nd (is:=[0,1]) Dc)⟩
   ·have hX:=ite_f hc hX
    refine TK.exit ?_
    obtain rfl:=hR25 _ (some_in hX).symm
    exact E25 row28 _ _ ⟨b26,b27,rfl,(Nd.pick nd (is:=[0,1]) Dc),(HSub.pick nd (is:=[0,1]) Dc)⟩ hA25
  ·have hX:=ite_f hc hX
   refine TK.exit ?_
   obtain rfl:=hR11 _ (some_in hX).symm
   exact E11 out13 _ _ ⟨b12,rfl,(Nd.pick nd (is:=[0]) Dc),(HSub.pick nd (is:=[0]) Dc)⟩ hA11
theorem ok_cartridgeref1_Encode (data1:(List (List UInt8))) (parity2:Int) (r:((List (List UInt8))×Int)) (hX:X.cartridgeref1_Encode data1 parity2=some r):Fun Tryz.prog 59 [Enc.v (data1:(List (List UInt8))),Enc.v (parity2:Int)] (·= .tup 2 (ofL [Enc.v r.1,Enc.v r.2])):=by
 refine Fun.of b59 (Nat.le_of_ble_eq_true rfl) (allVal.mem ⟨(by exact (v_val _)),(by exact (v_val _)),trivial⟩) ?_
 unfold k59
 have nd:Nd []:=Nd_nil
 unfold X.cartridgeref1_Encode at hX
 refine SR fun K3 hK3=>M rfl rfl (M rfl rfl (TL.nil (hK3 _ _ ?_)))
 refine TK.seq_k fun K4 hK4=>?_
 refine SR fun K5 hK5=>M rfl rfl (P1 (p_lenL (xs:=data1) kd47 rfl) rfl rfl (P1 (p_lss rfl rfl) rfl rfl (M rfl rfl ?_)))
 refine TLc.p (gc:=(!((decide ((data1.length:Int)<(1:Int)))))) (p_mv rfl (hg:=fun e=>rfl)) (gcF1 rfl) rfl ?_
 refine TLc.p (gc:=(!((decide ((data1.length:Int)<(1:Int)))))) (p_lss rfl rfl (hg:=fun e=>⟨e,rfl⟩)) (gcF1 rfl) rfl ?_
 refine P1 (p_or rfl rfl (fun e=>⟨rfl,fun h=>(not_t h)⟩)) rfl rfl (M rfl rfl ?_)
 refine TLc.p (gc:=(!(((decide ((data1.length:Int)<(1:Int)))||(decide (parity2<(0:Int))))))) (p_mv rfl (hg:=fun e=>rfl)) (gcF1 rfl) rfl ?_
 refine TLc.p (gc:=(!(((decide ((data1.length:Int)<(1:Int)))||(decide (parity2<(0:Int))))))) (p_gtr rfl rfl (hg:=fun e=>⟨e,rfl⟩)) (gcF1 rfl) rfl ?_
 refine P1 (p_or rfl rfl (fun e=>⟨rfl,fun h=>(not_t h)⟩)) rfl rfl (M rfl rfl ?_)
 refine TLc.p (gc:=(!((((decide ((data1.length:Int)<(1:Int)))||(decide (parity2<(0:Int))))||(decide (parity2>(255:Int))))))) (p_mv rfl (hg:=fun e=>rfl)) (gcF1 rfl) rfl ?_
 refine TLc.p (gc:=(!((((decide ((data1.length:Int)<(1:Int)))||(decide (parity2<(0:Int))))||(decide (parity2>(255:Int))))))) (p_lenL (xs:=data1) kd47 rfl (hg:=fun e=>e)) (gcF1 rfl) rfl ?_
 refine TLc.p (gc:=(!((((decide ((data1.length:Int)<(1:Int)))||(decide (parity2<(0:Int))))||(decide (parity2>(255:Int))))))) (p_mv rfl (hg:=fun e=>rfl)) (gcF1 rfl) rfl ?_
 refine TLc.p (gc:=(!((((decide ((data1.length:Int)<(1:Int)))||(decide (parity2<(0:Int))))||(decide (parity2>(255:Int))))))) (p_add rfl rfl (hg:=fun e=>⟨e,e⟩)) (gcF1 rfl) rfl ?_
 refine TLc.p (gc:=(!((((decide ((data1.length:Int)<(1:Int)))||(decide (parity2<(0:Int))))||(decide (parity2>(255:Int))))))) (p_gtr rfl rfl (hg:=fun e=>⟨e,rfl⟩)) (gcF1 rfl) rfl ?_
 refine P1 (p_or rfl rfl (fun e=>⟨rfl,fun h=>(not_t h)⟩)) rfl rfl (TL.nil (hK5 _ _ ?_))
 refine TK.cond (b:=((((decide ((data1.length:Int)<(1:Int)))||(decide (parity2<(0:Int))))||(decide (parity2>(255:Int))))||(decide ((wr ((data1.length:Int)+parity2))>(255:Int))))) rfl (fun hc=>?_) (fun hc=>?_)
 ·have hX:=ite_t hc hX
  refine SR fun K6 hK6=>M rfl rfl (M rfl rfl (TL.nil (hK6 _ _ ?_)))
  refine TK.wk 4 (L ([]:(List (List UInt8)))) rfl Wk_nil ?_
  refine TK.ret ?_
  try dsimp only[thenQ]
  exact retN (vs:=[Enc.v (([]:(List (List UInt8))):(List (List UInt8))),Enc.v ((1:Int):Int)]) ⟨rfl,rfl,trivial⟩ (by obtain rfl:=some_in hX;rfl) (allVal.mem ⟨v_val _,v_val _,trivial⟩)
 ·have hX:=ite_f hc hX
  refine TK.skip ?_
  refine hK4 _ _ ?_
  refine TK.seq_k fun K7 hK7=>?_
  refine SR fun K8 hK8=>M rfl rfl (TL.nil (hK8 _ _ ?_))
  refine TK.block ?_
  obtain ⟨o9,hO9,hA9⟩:=bind_some hX
  have E9:∀(env:Env) (h:Hp),(∃_u:Unit,keepE [0,1] env=[(0,true,Enc.v data1),(1,true,Enc.v parity2)]∧Nd []∧HSub [] h)→X.cartridgeref1_Encode_e9 parity2 data1=some r→K7 env h:=by
   intro env h hE hX
   obtain ⟨_u,henv,nd,hs⟩:=hE
   unfold X.cartridgeref1_Encode_e9 at hX
   refine hK7 _ _ (TK.keep [0,1] ?_)
   rw[henv]
   refine TK.subH hs ?_
   refine TK.seq_k fun K11 hK11=>?_
   refine SR fun K12 hK12=>M rfl rfl (P1 (p_eql rfl rfl) rfl rfl (TL.nil (hK12 _ _ ?_)))
   refine TK.cond (b:=(parity2==(0:Int))) rfl (fun hc=>?_) (fun hc=>?_)
   ·have hX:=ite_t hc hX
    refine SR fun K13 hK13=>M rfl rfl (M rfl rfl (TL.nil (hK13 _ _ ?_)))
    refine TK.wk 4 (L ([]:(List (List UInt8)))) rfl Wk_nil ?_
    refine TK.ret ?_
    try dsimp only[thenQ]
    exact retN (vs:=[Enc.v (([]:(List (List UInt8))):(List (List UInt8))),Enc.v ((0:Int):Int)]) ⟨rfl,rfl,trivial⟩ (by obtain rfl:=some_in hX;rfl) (allVal.mem ⟨v_val _,v_val _,trivial⟩)
   ·have hX:=ite_f hc hX
    refine TK.skip ?_
    refine hK11 _ _ (SR fun K14 hK14=>M rfl rfl (P1 (p_lenL (xs:=data1) kd47 rfl) rfl rfl (M rfl rfl ?_)))
    obtain ⟨r15,hr15,hX⟩:=bind_some hX
    refine TL.cvX rfl rfl rfl (fun _=>⟨rfl,⟨rfl,⟨rfl,trivial⟩⟩⟩) (fun e=>ok_cartridgeref1_Cauchy (data1.length:Int) parity2 _ hr15) ?_
    refine M rfl rfl (P1 (p_ex rfl rfl Dc) rfl rfl (P1 (p_ex rfl rfl Dc) rfl rfl (M rfl rfl (M rfl rfl (TL.nil (hK14 _ _ (SR fun K16 hK16=>M rfl rfl (TL.nil (hK16 _ _ ?_)))))))))
    refine TK.ownL (α:=(List UInt8)) 9 42 nd rfl (.inl rfl) fun b17 nd=>?_
    refine TK.seq_k fun K18 hK18=>?_
    refine SR fun K19 hK19=>M rfl rfl (TL.nil (hK19 _ _ ?_))
    refine TK.block ?_
    obtain ⟨o20,hO20,hA20⟩:=bind_some hX
    have E20:∀(l25:List (List UInt8)) (env:Env) (h:Hp),(∃b24,keepE [9] env=[(9,true,OL b24 l25)]∧Nd [(b24,RL (α:=(List UInt8)) 42 l25)]∧HSub [(b24,RL (α:=(List UInt8)) 42 l25)] h)→X.cartridgeref1_Encode_e20 l25=some r→K18 env h:=by
     intro l25 env h hE hX
     obtain ⟨b24,henv,nd,hs⟩:=hE
     unfold X.cartridgeref1_Encode_e20 at hX
     refine hK18 _ _ (TK.keep [9] ?_)
     rw[henv]
     refine TK.subH hs ?_
     refine SR fun K26 hK26=>M rfl rfl (M rfl rfl (M rfl rfl (TL.nil (hK26 _ _ ?_))))
     refine TK.lay [(4,L l25)] nd (j:=0) rfl ⟨⟨_,rfl,fix_OL nd (j:=0) rfl,rfl⟩,trivial⟩ fun nd=>?_
     refine TK.ret ?_
     try dsimp only[thenQ]
     exact retN (vs:=[Enc.v l25,Enc.v ((0:Int):Int)]) ⟨rfl,rfl,trivial⟩ (by obtain rfl:=some_in hX;rfl) (allVal.mem ⟨v_val _,v_val _,trivial⟩)
    refine TK.iter [0,1,7,9,10] (fun s env h=>match s with|(out22,i23)=>∃b21,env=[(0,true,Enc.v data1),(1,true,Enc.v parity2),(7,true,Enc.v r15.1),(9,true,OL b21 out22),(10,true,Enc.v i23)]∧Nd [(b21,RL (α:=(List UInt8)) 42 out22)]∧HSub [(b21,RL (α:=(List UInt8)) 42 out22)] h) hO20 ⟨b17,rfl,(Nd.pick nd (is:=[0]) Dc),(HSub.pick nd (is:=[0]) Dc)⟩ ?_
    rintro ⟨out22,i23⟩ env h x20x ⟨b21,rfl,nd,hs⟩ hX hR20
    refine TK.subH hs ?_
    unfold X.cartridgeref1_Encode_s20 at hX
    try dsimp only at hX
    refine TK.seq_k fun K27 hK27=>?_
    refine SR fun K28 hK28=>M rfl rfl (M rfl rfl (P1 (p_lss rfl rfl) rfl rfl (TL.nil (hK28 _ _ ?_))))
    refine TK.cond (b:=(decide (i23<parity2))) rfl (fun hc=>?_) (fun hc=>?_)
    ·have hX:=ite_t hc hX
     refine TK.skip ?_
     refine hK27 _ _ ?_
     refine TK.seq_k fun K29 hK29=>?_
     refine TK.block ?_
     refine SR fun K30 hK30=>M rfl rfl ?_
     obtain ⟨e31,he31,hX⟩:=bind_some hX
     refine P1 (p_iaL (xs:=data1) kd47 ty42 rfl rfl rfl (fun _=>he31)) rfl rfl (P1 (p_ldE (xs:=data1) (a:=e31) (e31:(List UInt8)) ty42 rfl rfl (fun _=>he31) rfl rfl rfl) rfl rfl (P1 (p_lenL (xs:=e31) kd42 rfl) rfl rfl ?_))
     obtain ⟨u33,hu33,hX⟩:=bind_some hX
     refine TLc.mkO nd (0:UInt8) kd42 ty5 rfl (fun j hj=>by (have:j=0:=by simpa[Enc.sz] using hj);subst this;rfl) rfl rfl Dc (need_t hu33) rfl fun b34 nd=>?_
     refine M rfl rfl (TL.nil (hK30 _ _ ?_))
     refine TK.seq_k fun K35 hK35=>?_
     refine SR fun K36 hK36=>M rfl rfl (TL.nil (hK36 _ _ ?_))
     refine TK.block ?_
     obtain ⟨o37,hO37,hA37⟩:=bind_some hX
     have E37:∀(l44:List UInt8) (env:Env) (h:Hp),(∃b42 b43,keepE [0,1,7,9,10,11] env=[(0,true,Enc.v data1),(1,true,Enc.v parity2),(7,true,Enc.v r15.1),(9,true,OL b42 out22),(10,true,Enc.v i23),(11,true,OL b43 l44)]∧Nd [(b42,RL (α:=(List UInt8)) 42 out22),(b43,RL (α:=UInt8) 5 l44)]∧HSub [(b42,RL (α:=(List UInt8)) 42 out22),(b43,RL (α:=UInt8) 5 l44)] h)→X.cartridgeref1_Encode_e37 out22 i23 l44=some x20x→K35 env h:=by
      intro l44 env h hE hX
      obtain ⟨b42,b43,henv,nd,hs⟩:=hE
      unfold X.cartridgeref1_Encode_e37 at hX
      refine hK35 _ _ (TK.keep [0,1,7,9,10,11] ?_)
      rw[henv]
      refine TK.subH hs ?_
      refine TK.reg ?_
      refine M rfl rfl (M rfl rfl ?_)
      refine TL.lay [(103,L l44)] nd (j:=1) rfl ⟨⟨_,rfl,fix_OL nd (j:=1) rfl,rfl⟩,trivial⟩ fun nd=>?_
      refine TLc.lit ([l44]:List (List UInt8)) kd47 ty42 rfl ⟨⟨rfl,rfl⟩,trivial⟩ rfl rfl rfl ?_
      obtain ⟨u45,hu45,hX⟩:=bind_some hX
      refine TLc.appO nd kd47 bo47 ty42 rfl rfl (j:=0) rfl rfl (Src_L _) Dc (need_t hu45) rfl fun nd=>?_
      refine M rfl rfl (TL.nil (hK29 _ _ ?_))
      refine TK.reg ?_
      refine M rfl rfl (P1 (p_add rfl rfl) rfl rfl (M rfl rfl (TL.nil ?_)))
      exact ⟨_,(some_in hX).symm,b42,rfl,(Nd.pick nd (is:=[0]) Dc),(HSub.pick nd (is:=[0]) Dc)⟩
     refine TK.iter [0,1,7,9,10,11,12] (fun s env h=>match s with|(row40,k41)=>∃b38 b39,env=[(0,true,Enc.v data1),(1,true,Enc.v parity2),(7,true,Enc.v r15.1),(9,true,OL b38 out22),(10,true,Enc.v i23),(11,true,OL b39 row40),(12,true,Enc.v k41)]∧Nd [(b38,RL (α:=(List UInt8)) 42 out22),(b39,RL (α:=UInt8) 5 row40)]∧HSub [(b38,RL (α:=(List UInt8)) 42 out22),(b39,RL (α:=UInt8) 5 row40)] h) hO37 ⟨b21,b34,rfl,(Nd.pick nd (is:=[1,0]) Dc),(HSub.pick nd (is:=[1,0]) Dc)⟩ ?_
     rintro ⟨row40,k41⟩ env h x37x ⟨b38,b39,rfl,nd,hs⟩ hX hR37
     refine TK.subH hs ?_
     unfold X.cartridgeref1_Encode_s37 at hX
     try dsimp only at hX
     refine TK.seq_k fun K46 hK46=>?_
     refine SR fun K47 hK47=>M rfl rfl (M rfl rfl (P1 (p_lenR kd42 rfl (fun _=>refOK_of nd (j:=1) rfl rfl)) rfl rfl (P1 (p_lss rfl rfl) rfl rfl (TL.nil (hK47 _ _ ?_)))))
     refine TK.cond (b:=(decide (k41<(row40.length:Int)))) rfl (fun hc=>?_) (fun hc=>?_)
     ·have hX:=ite_t hc hX
      refine TK.skip ?_
      refine hK46 _ _ ?_
      refine TK.seq_k fun K48 hK48=>?_
      refine TK.block ?_
      refine SR fun K49 hK49=>M rfl rfl (TL.nil (hK49 _ _ ?_))
      refine TK.block ?_
      obtain ⟨o50,hO50,hA50⟩:=bind_some hX
      have E50:∀(l57:List UInt8) (env:Env) (h:Hp),(∃b55 b56,keepE [0,1,7,9,10,11,12] env=[(0,true,Enc.v data1),(1,true,Enc.v parity2),(7,true,Enc.v r15.1),(9,true,OL b55 out22),(10,true,Enc.v i23),(11,true,OL b56 l57),(12,true,Enc.v k41)]∧Nd [(b55,RL (α:=(List UInt8)) 42 out22),(b56,RL (α:=UInt8) 5 l57)]∧HSub [(b55,RL (α:=(List UInt8)) 42 out22),(b56,RL (α:=UInt8) 5 l57)] h)→X.cartridgeref1_Encode_e50 k41 l57=some x37x→K48 env h:=by
       intro l57 env h hE hX
       obtain ⟨b55,b56,henv,nd,hs⟩:=hE
       unfold X.cartridgeref1_Encode_e50 at hX
       refine hK48 _ _ (TK.keep [0,1,7,9,10,11,12] ?_)
       rw[henv]
       refine TK.subH hs ?_
       refine TK.reg ?_
       refine M rfl rfl (P1 (p_add rfl rfl) rfl rfl (M rfl rfl (TL.nil ?_)))
       exact ⟨_,(some_in hX).symm,b55,b56,rfl,(Nd.pick nd (is:=[0,1]) Dc),(HSub.pick nd (is:=[0,1]) Dc)⟩
      refine TK.iter [0,1,7,9,10,11,12,13] (fun s env h=>match s with|(row53,j54)=>∃b51 b52,env=[(0,true,Enc.v data1),(1,true,Enc.v parity2),(7,true,Enc.v r15.1),(9,true,OL b51 out22),(10,true,Enc.v i23),(11,true,OL b52 row53),(12,true,Enc.v k41),(13,true,Enc.v j54)]∧Nd [(b51,RL (α:=(List UInt8)) 42 out22),(b52,RL (α:=UInt8) 5 row53)]∧HSub [(b51,RL (α:=(List UInt8)) 42 out22),(b52,RL (α:=UInt8) 5 row53)] h) hO50 ⟨b38,b39,rfl,(Nd.pick nd (is:=[0,1]) Dc),(HSub.pick nd (is:=[0,1]) Dc)⟩ ?_
      rintro ⟨row53,j54⟩ env h x50x ⟨b51,b52,rfl,nd,hs⟩ hX hR50
      refine TK.subH hs ?_
      unfold X.cartridgeref1_Encode_s50 at hX
      try dsimp only at hX
      refine TK.seq_k fun K58 hK58=>?_
      refine SR fun K59 hK59=>M rfl rfl (M rfl rfl (P1 (p_lenL (xs:=data1) kd47 rfl) rfl rfl (P1 (p_lss rfl rfl) rfl rfl (TL.nil (hK59 _ _ ?_)))))
      refine TK.cond (b:=(decide (j54<(data1.length:Int)))) rfl (fun hc=>?_) (fun hc=>?_)
      ·have hX:=ite_t hc hX
       refine TK.skip ?_
       refine hK58 _ _ ?_
       refine TK.seq_k fun K60 hK60=>?_
       refine TK.block ?_
       refine TK.pick [1,0] nd Dc fun nd=>?_
       have ndS:Nd [(b51,RL (α:=(List UInt8)) 42 out22)]:=Nd.pick nd (is:=[1]) Dc
       refine TK.endK fun KD hKD=>?_
       refine TK.drwX (h:=[(b52,RL (α:=UInt8) 5 row53)]) (hS:=[(b51,RL (α:=(List UInt8)) 42 out22)]) [(0,0),(0,1),(0,2),(0,3),(1,4),(1,5),(0,6),(0,7),(0,8),(0,9),(0,10),(0,11),(0,12),(0,13),(0,14),(0,15),(0,16),(0,17),(0,18),(0,19),(0,20),(0,21),(1,22),(2,23)] mixed (by kernel_rfl) (HSub_app nd) ?_
       refine DM rfl rfl rfl ?_
       refine DM rfl rfl rfl ?_
       refine DM rfl rfl rfl ?_
       refine DM rfl rfl rfl ?_
       obtain ⟨e61,he61,hX⟩:=bind_some hX
       refine DR1 (gc:=true) rfl (vok_p (C:=cx) (p_iaO (xs:=row53) kd42 ty5 rfl rfl rfl nd (j:=0) rfl (fun _=>he61))) rfl rfl ?_
       refine DR1 (gc:=true) rfl (vok_p (C:=cx) (p_ldO (xs:=row53) (a:=e61) (e61:UInt8) ty5 rfl rfl nd (j:=0) rfl (fun _=>he61) rfl rfl rfl)) rfl rfl ?_
       refine DM rfl rfl rfl ?_
       refine DM rfl rfl rfl ?_
       obtain ⟨e62,he62,hX⟩:=bind_some hX
       refine D0 rfl (p_iaL (xs:=r15.1) kd47 ty42 rfl rfl rfl (fun _=>he62)) rfl rfl ?_
       refine D0 rfl (p_ldE (xs:=r15.1) (a:=e62) (e62:(List UInt8)) ty42 rfl rfl (fun _=>he62) rfl rfl rfl) rfl rfl ?_
       refine DM rfl rfl rfl ?_
       obtain ⟨e63,he63,hX⟩:=bind_some hX
       refine D0 rfl (p_iaL (xs:=e62) kd42 ty5 rfl rfl rfl (fun _=>he63)) rfl rfl ?_
       refine D0 rfl (p_ldE (xs:=e62) (a:=e63) (e63:UInt8) ty5 rfl rfl (fun _=>he63) rfl rfl rfl) rfl rfl ?_
       refine DM rfl rfl rfl ?_
       refine DM rfl rfl rfl ?_
       obtain ⟨e64,he64,hX⟩:=bind_some hX
       refine D0 rfl (p_iaL (xs:=data1) kd47 ty42 rfl rfl rfl (fun _=>he64)) rfl rfl ?_
       refine D0 rfl (p_ldE (xs:=data1) (a:=e64) (e64:(List UInt8)) ty42 rfl rfl (fun _=>he64) rfl rfl rfl) rfl rfl ?_
       refine DM rfl rfl rfl ?_
       obtain ⟨e65,he65,hX⟩:=bind_some hX
       refine D0 rfl (p_iaL (xs:=e64) kd42 ty5 rfl rfl rfl (fun _=>he65)) rfl rfl ?_
       refine D0 rfl (p_ldE (xs:=e64) (a:=e65) (e65:UInt8) ty5 rfl rfl (fun _=>he65) rfl rfl rfl) rfl rfl ?_
       obtain ⟨r66,hr66,hX⟩:=bind_some hX
       refine DR0 (gc:=true) rfl (vok_c rfl (fun _=>⟨rfl,⟨rfl,⟨rfl,trivial⟩⟩⟩) (fun e=>ok_cartridgeref1_Mul e63 e65 _ hr66)) rfl rfl ?_
       refine D0 rfl (p8_xor (a:=e61) (b:=r66) rfl rfl) rfl rfl ?_
       obtain ⟨e67,he67,hX⟩:=bind_some hX
       refine DR1 (gc:=true) rfl (vok_p (C:=cx) (p_iaO (xs:=row53) kd42 ty5 rfl rfl rfl nd (j:=0) rfl (fun _=>he67))) rfl rfl ?_
       refine DR2n rfl ?_
       refine TLc.stW (xs:=row53) (i:=k41) (lu:=Enc.cl ((e61^^^r66):UInt8)) (a':=(e61^^^r66)) nd ty5 rfl (j:=0) rfl (by simp[Enc.sz]) (inb_of he67 (by simp)) rfl (Cells_v ((e61^^^r66):UInt8)) rfl (WkL_refl _) fun nd=>?_
       refine TL.nil ⟨.nilp,[(b52,RL (α:=UInt8) 5 (row53.set k41.toNat (e61^^^r66)))],rfl,rfl,HSub_app nd,?_⟩
       refine DRend ?_
       refine hKD _ _ ?_
       refine TL.cv 11 (OL (α:=UInt8) b52 (row53.set k41.toNat (e61^^^r66))) rfl (Wk_eq (OL_len (by simp))) ?_
       refine TL.nil (hK60 _ _ ?_)
       refine TK.reg ?_
       refine M rfl rfl (P1 (p_add rfl rfl) rfl rfl (M rfl rfl (TL.nil ?_)))
       exact ⟨_,(some_in hX).symm,b51,b52,rfl,(Nd.pick nd (is:=[1,0]) Dc),(HSub.pick nd (is:=[1,0]) Dc)⟩
      ·have hX:=ite_f hc hX
       refine TK.exit ?_
       obtain rfl:=hR50 _ (some_in hX).symm
       exact E50 row53 _ _ ⟨b51,b52,rfl,(Nd.pick nd (is:=[0,1]) Dc),(HSub.pick nd (is:=[0,1]) Dc)⟩ hA50
     ·have hX:=ite_f hc hX
      refine TK.exit ?_
      obtain rfl:=hR37 _ (some_in hX).symm
      exact E37 row40 _ _ ⟨b38,b39,rfl,(Nd.pick nd (is:=[0,1]) Dc),(HSub.pick nd (is:=[0,1]) Dc)⟩ hA37
    ·have hX:=ite_f hc hX
     refine TK.exit ?_
     obtain rfl:=hR20 _ (some_in hX).symm
     exact E20 out22 _ _ ⟨b21,rfl,(Nd.pick nd (is:=[0]) Dc),(HSub.pick nd (is:=[0]) Dc)⟩ hA20
  refine TK.iter [0,1,6] (fun s env h=>match s with|i10=>∃_u:Unit,env=[(0,true,Enc.v data1),(1,true,Enc.v parity2),(6,true,Enc.v i10)]∧Nd []∧HSub [] h) hO9 ⟨(),rfl,Nd_nil,HSub.refl _⟩ ?_
  rintro i10 env h x9x ⟨_u,rfl,nd,hs⟩ hX hR9
  refine TK.subH hs ?_
  unfold X.cartridgeref1_Encode_s9 at hX
  try dsimp only at hX
  refine TK.seq_k fun K68 hK68=>?_
  refine SR fun K69 hK69=>M rfl rfl (M rfl rfl (P1 (p_lenL (xs:=data1) kd47 rfl) rfl rfl (P1 (p_lss rfl rfl) rfl rfl (TL.nil (hK69 _ _ ?_)))))
  refine TK.cond (b:=(decide (i10<(data1.length:Int)))) rfl (fun hc=>?_) (fun hc=>?_)
  ·have hX:=ite_t hc hX
   refine TK.skip ?_
   refine hK68 _ _ ?_
   refine TK.seq_k fun K70 hK70=>?_
   refine TK.block ?_
   refine TK.seq_k fun K71 hK71=>?_
   have ndS:Nd []:=Nd.pick nd (is:=[]) Dc
   refine TK.drwX (h:=[]) (hS:=[]) [(0,0),(0,1),(0,2),(0,3),(0,4),(0,5),(0,6),(0,7),(0,8),(0,9)] mixed (by kernel_rfl) (HSub_app nd) ?_
   refine DM rfl rfl rfl ?_
   refine DM rfl rfl rfl ?_
   obtain ⟨e72,he72,hX⟩:=bind_some hX
   refine D0 rfl (p_iaL (xs:=data1) kd47 ty42 rfl rfl rfl (fun _=>he72)) rfl rfl ?_
   refine D0 rfl (p_ldE (xs:=data1) (a:=e72) (e72:(List UInt8)) ty42 rfl rfl (fun _=>he72) rfl rfl rfl) rfl rfl ?_
   refine D0 rfl (p_lenL (xs:=e72) kd42 rfl) rfl rfl ?_
   refine DM rfl rfl rfl ?_
   obtain ⟨e73,he73,hX⟩:=bind_some hX
   refine D0 rfl (p_iaL (xs:=data1) kd47 ty42 rfl rfl rfl (fun _=>he73)) rfl rfl ?_
   refine D0 rfl (p_ldE (xs:=data1) (a:=e73) (e73:(List UInt8)) ty42 rfl rfl (fun _=>he73) rfl rfl rfl) rfl rfl ?_
   refine D0 rfl (p_lenL (xs:=e73) kd42 rfl) rfl rfl ?_
   refine D0 rfl (p_neq rfl rfl) rfl rfl ?_
   refine DRend ?_
   refine hK71 _ _ ?_
   refine TK.cond (b:=((e72.length:Int) !=(e73.length:Int))) rfl (fun hc=>?_) (fun hc=>?_)
   ·have hX:=ite_t hc hX
    refine SR fun K74 hK74=>M rfl rfl (M rfl rfl (TL.nil (hK74 _ _ ?_)))
    refine TK.wk 4 (L ([]:(List (List UInt8)))) rfl Wk_nil ?_
    refine TK.ret ?_
    obtain rfl:=hR9 _ (some_in hX).symm
    replace hX:=hA9
    try dsimp only[thenQ]
    exact retN (vs:=[Enc.v (([]:(List (List UInt8))):(List (List UInt8))),Enc.v ((1:Int):Int)]) ⟨rfl,rfl,trivial⟩ (by obtain rfl:=some_in hX;rfl) (allVal.mem ⟨v_val _,v_val _,trivial⟩)
   ·have hX:=ite_f hc hX
    refine TK.skip ?_
    refine hK70 _ _ ?_
    refine TK.reg ?_
    refine M rfl rfl (P1 (p_add rfl rfl) rfl rfl (M rfl rfl (TL.nil ?_)))
    exact ⟨_,(some_in hX).symm,(),rfl,Nd_nil,HSub.refl _⟩
  ·have hX:=ite_f hc hX
   refine TK.exit ?_
   obtain rfl:=hR9 _ (some_in hX).symm
   exact E9 _ _ ⟨(),rfl,Nd_nil,HSub.refl _⟩ hA9
theorem ok_cartridgeref10_Parity (l1:(List Tape_api)) (parity2:Int) (r:((List (List (List UInt8)))×Int)) (hX:X.cartridgeref10_Parity l1 parity2=some r):Fun Tryz.prog 26 [Enc.v (l1:(List Tape_api)),Enc.v (parity2:Int)] (·= .tup 2 (ofL [Enc.v r.1,Enc.v r.2])):=by
 refine Fun.of b26 (Nat.le_of_ble_eq_true rfl) (allVal.mem ⟨(by exact (v_val _)),(by exact (v_val _)),trivial⟩) ?_
 unfold k26
 have nd:Nd []:=Nd_nil
 unfold X.cartridgeref10_Parity at hX
 refine SR fun K3 hK3=>M rfl rfl (M rfl rfl (TL.nil (hK3 _ _ ?_)))
 refine TK.seq_k fun K4 hK4=>?_
 refine SR fun K5 hK5=>M rfl rfl (P1 (p_lenL (xs:=l1) kd22 rfl) rfl rfl (P1 (p_lss rfl rfl) rfl rfl (M rfl rfl ?_)))
 refine TLc.p (gc:=(!((decide ((l1.length:Int)<(1:Int)))))) (p_mv rfl (hg:=fun e=>rfl)) (gcF1 rfl) rfl ?_
 refine TLc.p (gc:=(!((decide ((l1.length:Int)<(1:Int)))))) (p_lss rfl rfl (hg:=fun e=>⟨e,rfl⟩)) (gcF1 rfl) rfl ?_
 refine P1 (p_or rfl rfl (fun e=>⟨rfl,fun h=>(not_t h)⟩)) rfl rfl (M rfl rfl ?_)
 refine TLc.p (gc:=(!(((decide ((l1.length:Int)<(1:Int)))||(decide (parity2<(0:Int))))))) (p_mv rfl (hg:=fun e=>rfl)) (gcF1 rfl) rfl ?_
 refine TLc.p (gc:=(!(((decide ((l1.length:Int)<(1:Int)))||(decide (parity2<(0:Int))))))) (p_gtr rfl rfl (hg:=fun e=>⟨e,rfl⟩)) (gcF1 rfl) rfl ?_
 refine P1 (p_or rfl rfl (fun e=>⟨rfl,fun h=>(not_t h)⟩)) rfl rfl (M rfl rfl ?_)
 refine TLc.p (gc:=(!((((decide ((l1.length:Int)<(1:Int)))||(decide (parity2<(0:Int))))||(decide (parity2>(255:Int))))))) (p_mv rfl (hg:=fun e=>rfl)) (gcF1 rfl) rfl ?_
 refine TLc.p (gc:=(!((((decide ((l1.length:Int)<(1:Int)))||(decide (parity2<(0:Int))))||(decide (parity2>(255:Int))))))) (p_lenL (xs:=l1) kd22 rfl (hg:=fun e=>e)) (gcF1 rfl) rfl ?_
 refine TLc.p (gc:=(!((((decide ((l1.length:Int)<(1:Int)))||(decide (parity2<(0:Int))))||(decide (parity2>(255:Int))))))) (p_mv rfl (hg:=fun e=>rfl)) (gcF1 rfl) rfl ?_
 refine TLc.p (gc:=(!((((decide ((l1.length:Int)<(1:Int)))||(decide (parity2<(0:Int))))||(decide (parity2>(255:Int))))))) (p_add rfl rfl (hg:=fun e=>⟨e,e⟩)) (gcF1 rfl) rfl ?_
 refine TLc.p (gc:=(!((((decide ((l1.length:Int)<(1:Int)))||(decide (parity2<(0:Int))))||(decide (parity2>(255:Int))))))) (p_gtr rfl rfl (hg:=fun e=>⟨e,rfl⟩)) (gcF1 rfl) rfl ?_
 refine P1 (p_or rfl rfl (fun e=>⟨rfl,fun h=>(not_t h)⟩)) rfl rfl (TL.nil (hK5 _ _ ?_))
 refine TK.cond (b:=((((decide ((l1.length:Int)<(1:Int)))||(decide (parity2<(0:Int))))||(decide (parity2>(255:Int))))||(decide ((wr ((l1.length:Int)+parity2))>(255:Int))))) rfl (fun hc=>?_) (fun hc=>?_)
 ·have hX:=ite_t hc hX
  refine SR fun K6 hK6=>M rfl rfl (M rfl rfl (TL.nil (hK6 _ _ ?_)))
  refine TK.wk 4 (L ([]:(List (List (List UInt8))))) rfl Wk_nil ?_
  refine TK.ret ?_
  try dsimp only[thenQ]
  exact retN (vs:=[Enc.v (([]:(List (List (List UInt8)))):(List (List (List UInt8)))),Enc.v ((1:Int):Int)]) ⟨rfl,rfl,trivial⟩ (by obtain rfl:=some_in hX;rfl) (allVal.mem ⟨v_val _,v_val _,trivial⟩)
 ·have hX:=ite_f hc hX
  refine TK.skip ?_
  refine hK4 _ _ (SR fun K7 hK7=>M rfl rfl (TL.nil (hK7 _ _ ?_)))
  refine TK.ownG (α:=(List UInt8)) 6 47 nd rfl (.inl rfl) fun b8 nd=>?_
  refine TK.seq_k fun K9 hK9=>?_
  refine SR fun K10 hK10=>M rfl rfl (TL.nil (hK10 _ _ ?_))
  refine TK.block ?_
  obtain ⟨o11,hO11,hA11⟩:=bind_some hX
  have E11:∀(l16:List (List (List UInt8))) (env:Env) (h:Hp),(∃b15 T15 cs15,keepE [0,1,6] env=[(0,true,Enc.v l1),(1,true,Enc.v parity2),(6,true,OL b15 l16)]∧Nd ((b15,RV 47 cs15)::T15)∧HSub ((b15,RV 47 cs15)::T15) h∧Grid (α:=(List UInt8)) 42 T15 cs15 l16)→X.cartridgeref10_Parity_e11 l1 parity2 l16=some r→K9 env h:=by
   intro l16 env h hE hX
   obtain ⟨b15,T15,cs15,henv,nd,hs,hG15⟩:=hE
   unfold X.cartridgeref10_Parity_e11 at hX
   refine hK9 _ _ (TK.keep [0,1,6] ?_)
   rw[henv]
   refine TK.subH hs ?_
   refine TK.seq_k fun K17 hK17=>?_
   refine SR fun K18 hK18=>M rfl rfl (TL.nil (hK18 _ _ ?_))
   refine TK.block ?_
   obtain ⟨o19,hO19,hA19⟩:=bind_some hX
   have E19:∀(l24:List (List (List UInt8))) (env:Env) (h:Hp),(∃b23 T23 cs23,keepE [6] env=[(6,true,OL b23 l24)]∧Nd ((b23,RV 47 cs23)::T23)∧HSub ((b23,RV 47 cs23)::T23) h∧Grid (α:=(List UInt8)) 42 T23 cs23 l24)→X.cartridgeref10_Parity_e19 l24=some r→K17 env h:=by
    intro l24 env h hE hX
    obtain ⟨b23,T23,cs23,henv,nd,hs,hG23⟩:=hE
    unfold X.cartridgeref10_Parity_e19 at hX
    refine hK17 _ _ (TK.keep [6] ?_)
    rw[henv]
    refine TK.subH hs ?_
    refine SR fun K25 hK25=>M rfl rfl (M rfl rfl (M rfl rfl (TL.nil (hK25 _ _ ?_))))
    refine TK.layG (α:=(List UInt8)) [(b23,RV 47 cs23)] T23 nd (j:=0) rfl hG23 fun nd=>?_
    refine TK.lay [(4,L l24)] nd (j:=0) rfl ⟨⟨_,rfl,fix_OL nd (j:=0) rfl,rfl⟩,trivial⟩ fun nd=>?_
    refine TK.ret ?_
    try dsimp only[thenQ]
    exact retN (vs:=[Enc.v (l24:(List (List (List UInt8)))),Enc.v ((0:Int):Int)]) ⟨rfl,rfl,trivial⟩ (by obtain rfl:=some_in hX;rfl) (allVal.mem ⟨v_val _,v_val _,trivial⟩)
   refine TK.iter [0,1,6,8] (fun s env h=>match s with|(out21,n22)=>∃b20 T20 cs20,env=[(0,true,Enc.v l1),(1,true,Enc.v parity2),(6,true,OL b20 out21),(8,true,Enc.v n22)]∧Nd ((b20,RV 47 cs20)::T20)∧HSub ((b20,RV 47 cs20)::T20) h∧Grid (α:=(List UInt8)) 42 T20 cs20 out21) hO19 ⟨b15,T15,cs15,rfl,(Nd.pickT nd 1 (is:=[0]) Dc Dc (len_geF [_] _)),(HSub.pickT nd 1 (is:=[0]) Dc Dc (len_geF [_] _)),hG15⟩ ?_
   rintro ⟨out21,n22⟩ env h x19x ⟨b20,T20,cs20,rfl,nd,hs,hG20⟩ hX hR19
   refine TK.subH hs ?_
   unfold X.cartridgeref10_Parity_s19 at hX
   try dsimp only at hX
   refine TK.seq_k fun K26 hK26=>?_
   refine SR fun K27 hK27=>M rfl rfl (M rfl rfl ?_)
   obtain ⟨r28,hr28,hX⟩:=bind_some hX
   refine TL.cvX rfl rfl rfl (fun _=>⟨rfl,⟨rfl,trivial⟩⟩) (fun e=>ok_cartridgeref10_StripeLen l1 _ hr28) ?_
   refine P1 (p_lss rfl rfl) rfl rfl (TL.nil (hK27 _ _ ?_))
   refine TK.cond (b:=(decide (n22<r28))) rfl (fun hc=>?_) (fun hc=>?_)
   ·have hX:=ite_t hc hX
    refine TK.skip ?_
    refine hK26 _ _ ?_
    refine TK.seq_k fun K29 hK29=>?_
    refine TK.block ?_
    refine SR fun K30 hK30=>M rfl rfl (M rfl rfl ?_)
    obtain ⟨r31,hr31,hX⟩:=bind_some hX
    refine TL.cvX rfl rfl rfl (fun _=>⟨rfl,⟨rfl,⟨rfl,trivial⟩⟩⟩) (fun e=>ok_cartridgeref10_Row l1 n22 _ hr31) ?_
    refine M rfl rfl (TL.nil (hK30 _ _ ?_))
    refine TK.seq_k fun K32 hK32=>?_
    refine SR fun K33 hK33=>M rfl rfl (TL.nil (hK33 _ _ ?_))
    refine TK.block ?_
    obtain ⟨o34,hO34,hA34⟩:=bind_some hX
    have E34:∀(env:Env) (h:Hp),(∃b37 T37 cs37,keepE [0,1,6,8,9] env=[(0,true,Enc.v l1),(1,true,Enc.v parity2),(6,true,OL b37 out21),(8,true,Enc.v n22),(9,true,Enc.v r31)]∧Nd ((b37,RV 47 cs37)::T37)∧HSub ((b37,RV 47 cs37)::T37) h∧Grid (α:=(List UInt8)) 42 T37 cs37 out21)→X.cartridgeref10_Parity_e34 r31 parity2 out21 n22=some x19x→K32 env h:=by
     intro env h hE hX
     obtain ⟨b37,T37,cs37,henv,nd,hs,hG37⟩:=hE
     unfold X.cartridgeref10_Parity_e34 at hX
     refine hK32 _ _ (TK.keep [0,1,6,8,9] ?_)
     rw[henv]
     refine TK.subH hs ?_
     refine SR fun K38 hK38=>M rfl rfl (M rfl rfl ?_)
     obtain ⟨r39,hr39,hX⟩:=bind_some hX
     refine TL.cvX rfl rfl rfl (fun _=>⟨rfl,⟨rfl,⟨rfl,trivial⟩⟩⟩) (fun e=>ok_cartridgeref1_Encode r31 parity2 _ hr39) ?_
     refine M rfl rfl (P1 (p_ex rfl rfl Dc) rfl rfl (P1 (p_ex rfl rfl Dc) rfl rfl (M rfl rfl (M rfl rfl (TL.nil (hK38 _ _ ?_))))))
     refine TK.seq_k fun K40 hK40=>?_
     refine SR fun K41 hK41=>M rfl rfl (P1 (p_neq rfl rfl) rfl rfl (TL.nil (hK41 _ _ ?_)))
     refine TK.cond (b:=(r39.2 !=(0:Int))) rfl (fun hc=>?_) (fun hc=>?_)
     ·have hX:=ite_t hc hX
      refine SR fun K42 hK42=>M rfl rfl (M rfl rfl (M rfl rfl (TL.nil (hK42 _ _ ?_))))
      refine TK.wk 4 (L ([]:(List (List (List UInt8))))) rfl Wk_nil ?_
      refine TK.ret ?_
      obtain rfl:=hR19 _ (some_in hX).symm
      replace hX:=hA19
      try dsimp only[thenQ]
      exact retN (vs:=[Enc.v (([]:(List (List (List UInt8)))):(List (List (List UInt8)))),Enc.v r39.2]) ⟨rfl,rfl,trivial⟩ (by obtain rfl:=some_in hX;rfl) (allVal.mem ⟨v_val _,v_val _,trivial⟩)
     ·have hX:=ite_f hc hX
      refine TK.skip ?_
      refine hK40 _ _ (SR fun K43 hK43=>M rfl rfl (TL.nil (hK43 _ _ ?_)))
      refine TK.block ?_
      obtain ⟨o44,hO44,hA44⟩:=bind_some hX
      have E44:∀(l49:List (List (List UInt8))) (env:Env) (h:Hp),(∃b48 T48 cs48,keepE [0,1,6,8] env=[(0,true,Enc.v l1),(1,true,Enc.v parity2),(6,true,OL b48 l49),(8,true,Enc.v n22)]∧Nd ((b48,RV 47 cs48)::T48)∧HSub ((b48,RV 47 cs48)::T48) h∧Grid (α:=(List UInt8)) 42 T48 cs48 l49)→X.cartridgeref10_Parity_e44 n22 l49=some x19x→K29 env h:=by
       intro l49 env h hE hX
       obtain ⟨b48,T48,cs48,henv,nd,hs,hG48⟩:=hE
       unfold X.cartridgeref10_Parity_e44 at hX
       refine hK29 _ _ (TK.keep [0,1,6,8] ?_)
       rw[henv]
       refine TK.subH hs ?_
       refine TK.reg ?_
       refine M rfl rfl (P1 (p_add rfl rfl) rfl rfl (M rfl rfl (TL.nil ?_)))
       exact ⟨_,(some_in hX).symm,b48,T48,cs48,rfl,(Nd.pickT nd 1 (is:=[0]) Dc Dc (len_geF [_] _)),(HSub.pickT nd 1 (is:=[0]) Dc Dc (len_geF [_] _)),hG48⟩
      refine TK.iter [0,1,6,8,11,13] (fun s env h=>match s with|(out46,j47)=>∃b45 T45 cs45,env=[(0,true,Enc.v l1),(1,true,Enc.v parity2),(6,true,OL b45 out46),(8,true,Enc.v n22),(11,true,Enc.v r39.1),(13,true,Enc.v j47)]∧Nd ((b45,RV 47 cs45)::T45)∧HSub ((b45,RV 47 cs45)::T45) h∧Grid (α:=(List UInt8)) 42 T45 cs45 out46) hO44 ⟨b37,T37,cs37,rfl,(Nd.pickT nd 1 (is:=[0]) Dc Dc (len_geF [_] _)),(HSub.pickT nd 1 (is:=[0]) Dc Dc (len_geF [_] _)),hG37⟩ ?_
      rintro ⟨out46,j47⟩ env h x44x ⟨b45,T45,cs45,rfl,nd,hs,hG45⟩ hX hR44
      refine TK.subH hs ?_
      unfold X.cartridgeref10_Parity_s44 at hX
      try dsimp only at hX
      refine TK.seq_k fun K50 hK50=>?_
      refine SR fun K51 hK51=>M rfl rfl (M rfl rfl (P1 (p_lss rfl rfl) rfl rfl (TL.nil (hK51 _ _ ?_))))
      refine TK.cond (b:=(decide (j47<parity2))) rfl (fun hc=>?_) (fun hc=>?_)
      ·have hX:=ite_t hc hX
       refine TK.skip ?_
       refine hK50 _ _ ?_
       refine TK.seq_k fun K52 hK52=>?_
       refine TK.block ?_
       refine TK.endK fun KD hKD=>?_
       refine TK.drwXe [(0,0),(0,1),(0,2),(0,3),(1,4),(1,5),(0,6),(0,7),(0,8),(0,9),(0,10),(2,11),(1,12),(2,13)] mixed (by kernel_rfl) ?_
       refine DM rfl rfl rfl ?_
       refine DM rfl rfl rfl ?_
       refine DM rfl rfl rfl ?_
       refine DM rfl rfl rfl ?_
       obtain ⟨e53,he53,hX⟩:=bind_some hX
       refine DR1e (gc:=true) rfl (vok_p (C:=cx) (p_iaG hG45 kd54 ty47 rfl rfl rfl nd (j:=0) rfl (fun _=>he53))) rfl rfl ?_
       obtain ⟨nm54,hT54,hc54⟩:=gridAt (i:=j47) hG45 he53
       refine DR1e (gc:=true) rfl (vok_p (C:=cx) (p_ldG ty47 rfl rfl nd (j:=0) rfl hc54 rfl rfl)) rfl rfl ?_
       refine DM rfl rfl rfl ?_
       refine DM rfl rfl rfl ?_
       obtain ⟨e55,he55,hX⟩:=bind_some hX
       refine D0 rfl (p_iaL (xs:=r39.1) kd47 ty42 rfl rfl rfl (fun _=>he55)) rfl rfl ?_
       refine D0 rfl (p_ldE (xs:=r39.1) (a:=e55) (e55:(List UInt8)) ty42 rfl rfl (fun _=>he55) rfl rfl rfl) rfl rfl ?_
       refine DR0 (gc:=true) rfl (vok_lit (C:=cx) ([e55]:List (List UInt8)) kd47 ty42 rfl ⟨⟨rfl,rfl⟩,trivial⟩ rfl rfl) rfl rfl ?_
       obtain ⟨u56,hu56,hX⟩:=bind_some hX
       refine DR2e rfl rfl ?_
       refine TLc.appG (F:=[(b45,RV 47 cs45)]) (T:=T45) (k:=(j47:Int).toNat) nd kd47 bo47 ty42 rfl rfl hT54 rfl (Src_L _) Dc (need_t hu56) rfl fun nd=>?_
       refine TL.nil ⟨_,rfl,?_⟩
       obtain ⟨e57,he57,hX⟩:=bind_some hX
       refine DR1e (gc:=true) rfl (vok_p (C:=cx) (p_iaG hG45 kd54 ty47 rfl rfl rfl nd (j:=0) rfl (fun _=>he57))) rfl rfl ?_
       refine DR2en rfl ?_
       refine TLc.stG (F:=[(b45,RV 47 cs45)]) (T:=(T45.set (j47:Int).toNat (nm54,RL (α:=(List UInt8)) 42 (e53++([e55]:List (List UInt8)))))) (i:=j47) nd ty47 rfl (j:=0) rfl hc54 rfl (setAt hT54) rfl fun nd=>?_
       refine TL.nil ⟨rfl,?_⟩
       refine DRende ?_
       refine hKD _ _ ?_
       refine TL.cv 6 (OL (α:=(List (List UInt8))) b45 (out46.set j47.toNat (e53++([e55]:List (List UInt8))))) rfl (Wk_eq (OL_len (by simp))) ?_
       refine TL.nil (hK52 _ _ ?_)
       refine TK.reg ?_
       refine M rfl rfl (P1 (p_add rfl rfl) rfl rfl (M rfl rfl (TL.nil ?_)))
       exact ⟨_,(some_in hX).symm,b45,(T45.set (j47:Int).toNat (nm54,RL (α:=(List UInt8)) 42 (e53++([e55]:List (List UInt8))))),(cs45.set (j47:Int).toNat (OL (α:=(List UInt8)) nm54 (e53++([e55]:List (List UInt8))))),rfl,(Nd.pickT nd 1 (is:=[0]) Dc Dc (len_geF [_] _)),(HSub.pickT nd 1 (is:=[0]) Dc Dc (len_geF [_] _)),(Grid.set hG45 hT54)⟩
      ·have hX:=ite_f hc hX
       refine TK.exit ?_
       obtain rfl:=hR44 _ (some_in hX).symm
       exact E44 out46 _ _ ⟨b45,T45,cs45,rfl,(Nd.pickT nd 1 (is:=[0]) Dc Dc (len_geF [_] _)),(HSub.pickT nd 1 (is:=[0]) Dc Dc (len_geF [_] _)),hG45⟩ hA44
    refine TK.iter [0,1,6,8,9,10] (fun s env h=>match s with|i36=>∃b35 T35 cs35,env=[(0,true,Enc.v l1),(1,true,Enc.v parity2),(6,true,OL b35 out21),(8,true,Enc.v n22),(9,true,Enc.v r31),(10,true,Enc.v i36)]∧Nd ((b35,RV 47 cs35)::T35)∧HSub ((b35,RV 47 cs35)::T35) h∧Grid (α:=(List UInt8)) 42 T35 cs35 out21) hO34 ⟨b20,T20,cs20,rfl,(Nd.pickT nd 1 (is:=[0]) Dc Dc (len_geF [_] _)),(HSub.pickT nd 1 (is:=[0]) Dc Dc (len_geF [_] _)),hG20⟩ ?_
    rintro i36 env h x34x ⟨b35,T35,cs35,rfl,nd,hs,hG35⟩ hX hR34
    refine TK.subH hs ?_
    unfold X.cartridgeref10_Parity_s34 at hX
    try dsimp only at hX
    refine TK.seq_k fun K58 hK58=>?_
    refine SR fun K59 hK59=>M rfl rfl (M rfl rfl (P1 (p_lenL (xs:=r31) kd47 rfl) rfl rfl (P1 (p_lss rfl rfl) rfl rfl (TL.nil (hK59 _ _ ?_)))))
    refine TK.cond (b:=(decide (i36<(r31.length:Int)))) rfl (fun hc=>?_) (fun hc=>?_)
    ·have hX:=ite_t hc hX
     refine TK.skip ?_
     refine hK58 _ _ ?_
     refine TK.seq_k fun K60 hK60=>?_
     refine TK.block ?_
     refine SR fun K61 hK61=>M rfl rfl (M rfl rfl ?_)
     obtain ⟨e62,he62,hX⟩:=bind_some hX
     refine P1 (p_iaL (xs:=r31) kd47 ty42 rfl rfl rfl (fun _=>he62)) rfl rfl (P1 (p_ldE (xs:=r31) (a:=e62) (e62:(List UInt8)) ty42 rfl rfl (fun _=>he62) rfl rfl rfl) rfl rfl (P1 (p_lenL (xs:=e62) kd42 rfl) rfl rfl (P1 (p_eql rfl rfl) rfl rfl (TL.nil (hK61 _ _ ?_)))))
     refine TK.cond (b:=((e62.length:Int)==(0:Int))) rfl (fun hc=>?_) (fun hc=>?_)
     ·have hX:=ite_t hc hX
      refine SR fun K63 hK63=>M rfl rfl (M rfl rfl (TL.nil (hK63 _ _ ?_)))
      refine TK.wk 4 (L ([]:(List (List (List UInt8))))) rfl Wk_nil ?_
      refine TK.ret ?_
      obtain rfl:=hR34 _ (some_in hX).symm
      replace hX:=hA34
      obtain rfl:=hR19 _ (some_in hX).symm
      replace hX:=hA19
      try dsimp only[thenQ]
      exact retN (vs:=[Enc.v (([]:(List (List (List UInt8)))):(List (List (List UInt8)))),Enc.v ((1:Int):Int)]) ⟨rfl,rfl,trivial⟩ (by obtain rfl:=some_in hX;rfl) (allVal.mem ⟨v_val _,v_val _,trivial⟩)
     ·have hX:=ite_f hc hX
      refine TK.skip ?_
      refine hK60 _ _ ?_
      refine TK.reg ?_
      refine M rfl rfl (P1 (p_add rfl rfl) rfl rfl (M rfl rfl (TL.nil ?_)))
      exact ⟨_,(some_in hX).symm,b35,T35,cs35,rfl,(Nd.pickT nd 1 (is:=[0]) Dc Dc (len_geF [_] _)),(HSub.pickT nd 1 (is:=[0]) Dc Dc (len_geF [_] _)),hG35⟩
    ·have hX:=ite_f hc hX
     refine TK.exit ?_
     obtain rfl:=hR34 _ (some_in hX).symm
     exact E34 _ _ ⟨b35,T35,cs35,rfl,(Nd.pickT nd 1 (is:=[0]) Dc Dc (len_geF [_] _)),(HSub.pickT nd 1 (is:=[0]) Dc Dc (len_geF [_] _)),hG35⟩ hA34
   ·have hX:=ite_f hc hX
    refine TK.exit ?_
    obtain rfl:=hR19 _ (some_in hX).symm
    exact E19 out21 _ _ ⟨b20,T20,cs20,rfl,(Nd.pickT nd 1 (is:=[0]) Dc Dc (len_geF [_] _)),(HSub.pickT nd 1 (is:=[0]) Dc Dc (len_geF [_] _)),hG20⟩ hA19
  refine TK.iter [0,1,6,7] (fun s env h=>match s with|(out13,j14)=>∃b12 T12 cs12,env=[(0,true,Enc.v l1),(1,true,Enc.v parity2),(6,true,OL b12 out13),(7,true,Enc.v j14)]∧Nd ((b12,RV 47 cs12)::T12)∧HSub ((b12,RV 47 cs12)::T12) h∧Grid (α:=(List UInt8)) 42 T12 cs12 out13) hO11 ⟨b8,[],[],rfl,(Nd.pickT nd 1 (is:=[0]) Dc Dc (len_geF [_] _)),(HSub.pickT nd 1 (is:=[0]) Dc Dc (len_geF [_] _)),trivial⟩ ?_
  rintro ⟨out13,j14⟩ env h x11x ⟨b12,T12,cs12,rfl,nd,hs,hG12⟩ hX hR11
  refine TK.subH hs ?_
  unfold X.cartridgeref10_Parity_s11 at hX
  try dsimp only at hX
  refine TK.seq_k fun K64 hK64=>?_
  refine SR fun K65 hK65=>M rfl rfl (M rfl rfl (P1 (p_lss rfl rfl) rfl rfl (TL.nil (hK65 _ _ ?_))))
  refine TK.cond (b:=(decide (j14<parity2))) rfl (fun hc=>?_) (fun hc=>?_)
  ·have hX:=ite_t hc hX
   refine TK.skip ?_
   refine hK64 _ _ ?_
   refine TK.seq_k fun K66 hK66=>?_
   refine TK.block ?_
   refine TK.reg ?_
   refine M rfl rfl ?_
   refine TLc.lit1 kd54 ty47 rfl rfl rfl ?_
   obtain ⟨u67,hu67,hX⟩:=bind_some hX
   refine TLc.appGN (F:=[(b12,RV 47 cs12)]) (T:=T12) nd kd54 bo54 ty47 rfl rfl (j:=0) rfl hG12 rfl Dc (need_t hu67) rfl fun b68 nd=>?_
   refine M rfl rfl (TL.nil (hK66 _ _ ?_))
   refine TK.reg ?_
   refine M rfl rfl (P1 (p_add rfl rfl) rfl rfl (M rfl rfl (TL.nil ?_)))
   exact ⟨_,(some_in hX).symm,b12,(T12++[(b68,RL (α:=(List UInt8)) 42 [])]),(cs12++[OL (α:=(List UInt8)) b68 []]),rfl,(Nd.pickT nd 1 (is:=[0]) Dc Dc (len_geF [_] _)),(HSub.pickT nd 1 (is:=[0]) Dc Dc (len_geF [_] _)),(Grid.push hG12)⟩
  ·have hX:=ite_f hc hX
   refine TK.exit ?_
   obtain rfl:=hR11 _ (some_in hX).symm
   exact E11 out13 _ _ ⟨b12,T12,cs12,rfl,(Nd.pickT nd 1 (is:=[0]) Dc Dc (len_geF [_] _)),(HSub.pickT nd 1 (is:=[0]) Dc Dc (len_geF [_] _)),hG12⟩ hA11
theorem ok_cartridgeref10_frame (kind1:Int) (label2:Int) (number3:Int) (b4:(List UInt8)) (r:(List UInt8)) (hX:X.cartridgeref10_frame kind1 label2 number3 b4=some r):Fun Tryz.prog 27 [Enc.v (kind1:Int),Enc.v (label2:Int),Enc.v (number3:Int),Enc.v (b4:(List UInt8))] (·=Enc.v (r:(List UInt8))):=by
 refine Fun.of b27 (Nat.le_of_ble_eq_true rfl) (allVal.mem ⟨(by exact (v_val _)),(by exact (v_val _)),(by exact (v_val _)),(by exact (v_val _)),trivial⟩) ?_
 unfold k27
 have nd:Nd []:=Nd_nil
 unfold X.cartridgeref10_frame at hX
 refine SR fun K5 hK5=>M rfl rfl (TL.nil (hK5 _ _ (SR fun K6 hK6=>M rfl rfl (M rfl rfl (M rfl rfl (M rfl rfl (P1 (p_bld (l:=Enc.cl ((Unit_api.mk kind1 label2 number3 b4):Unit_api)) ty46 rfl all46 rfl (fun _=>⟨⟨rfl,trivial,rfl⟩,⟨rfl,trivial,rfl⟩,⟨rfl,trivial,rfl⟩,⟨rfl,trivial,rfl⟩,trivial⟩)) rfl rfl ?_)))))))
 obtain ⟨r7,hr7,hX⟩:=bind_some hX
 refine TL.cvX rfl rfl rfl (fun _=>⟨rfl,⟨rfl,trivial⟩⟩) (fun e=>ok_cartridgeref1_PutFrame (Unit_api.mk kind1 label2 number3 b4) _ hr7) ?_
 refine M rfl rfl (P1 (p_ex rfl rfl Dc) rfl rfl (P1 (p_ex rfl rfl Dc) rfl rfl (M rfl rfl (M rfl rfl (TL.nil (hK6 _ _ (SR fun K8 hK8=>M rfl rfl (M rfl rfl (TL.nil (hK8 _ _ ?_))))))))))
 refine TK.ret ?_
 try dsimp only[thenQ]
 exact R1 rfl hX
theorem ok_cartridgeref10_SealBytes (s1:Seal_api) (r:(List UInt8)) (hX:X.cartridgeref10_SealBytes s1=some r):Fun Tryz.prog 28 [Enc.v (s1:Seal_api)] (·=Enc.v (r:(List UInt8))):=by
 refine Fun.of b28 (Nat.le_of_ble_eq_true rfl) (allVal.mem ⟨(by exact (v_val _)),trivial⟩) ?_
 unfold k28
 have nd:Nd []:=Nd_nil
 unfold X.cartridgeref10_SealBytes at hX
 refine SR fun K2 hK2=>?_
 refine TLc.boxV (lu:=[Enc.v s1.Number,Enc.v s1.Index,Enc.v s1.Data,Enc.v s1.Parity,Enc.v s1.Labels]) nd rfl (Cells_v (s1:Seal_api)) rfl ?_
 refine M rfl rfl (TL.nil (hK2 _ _ ?_))
 refine TK.seq_k fun K3 hK3=>?_
 refine SR fun K4 hK4=>P1 (p_ldRa (l':=Enc.cl (s1:Seal_api)) ty38 rfl rfl rfl rfl rfl (Nat.le_of_ble_eq_true rfl)) rfl rfl ?_
 obtain ⟨r5,hr5,hX⟩:=bind_some hX
 refine TL.cvX rfl rfl rfl (fun _=>⟨rfl,⟨rfl,trivial⟩⟩) (fun e=>ok_cartridgeref10_RightSeal s1 _ hr5) ?_
 refine P1 (p_not rfl) rfl rfl (TL.nil (hK4 _ _ ?_))
 refine TK.cond (b:=(!r5)) rfl (fun hc=>?_) (fun hc=>?_)
 ·have hX:=ite_t hc hX
  refine SR fun K6 hK6=>M rfl rfl (TL.nil (hK6 _ _ ?_))
  refine TK.wk 2 (L ([]:(List UInt8))) rfl Wk_nil ?_
  refine TK.ret ?_
  try dsimp only[thenQ]
  exact R1 rfl hX
 ·have hX:=ite_f hc hX
  refine TK.skip ?_
  refine hK3 _ _ (SR fun K7 hK7=>P1 (p_bld (l:=[.nils]) ty77 rfl all77 rfl (fun _=>trivial)) rfl rfl ?_)
  refine TLc.boxO (lu:=[.nils]) nd rfl (Cells_agg rfl (allA.mem ⟨trivial,trivial⟩)) rfl fun b8 nd=>?_
  refine M rfl rfl (TL.nil (hK7 _ _ ?_))
  refine TK.ownC (α:=UInt8) nd (j:=0) rfl 0 5 (.inl rfl) fun b9 nd=>?_
  refine SR fun K10 hK10=>M rfl rfl (P1 (p_faR fs38_0 Dc rfl) rfl rfl (P1 (p_ldR (v:=Enc.v s1.Number) ty3 rfl rfl rfl rfl rfl rfl) rfl rfl ?_))
  obtain ⟨r11,hr11,hX⟩:=bind_some hX
  refine TL.pick [1,0] nd Dc fun nd=>?_
  refine TL.tcX [(b8,RV 77 [OL (α:=UInt8) b9 ([]:List UInt8)]),(b9,RL (α:=UInt8) 5 ([]:List UInt8))] [] rfl nd (dlt rfl) rfl ⟨rfl,⟨rfl,⟨rfl,trivial⟩⟩⟩ (ok_cartridgeref1_Writer_Int s1.Number ([]:List UInt8) b8 b9 (Nd.take nd 2 rfl) _ hr11) ?_
  rintro _ _ hQ nd
  obtain ⟨b13,rfl,rfl⟩:=hQ
  refine TL.nil (hK10 _ _ (SR fun K14 hK14=>M rfl rfl (P1 (p_faR fs38_1 Dc rfl) rfl rfl (P1 (p_ldR (v:=Enc.v s1.Index) ty3 rfl rfl rfl rfl rfl rfl) rfl rfl (P1 (p_cvt src3 kd5 rfl (cv_u8 _)) rfl rfl ?_)))))
  obtain ⟨r15,hr15,hX⟩:=bind_some hX
  refine TL.tcX [(b8,RV 77 [OL b13 r11]),(b13,RL (α:=UInt8) 5 r11)] [] rfl nd (dlt rfl) rfl ⟨rfl,⟨rfl,⟨rfl,trivial⟩⟩⟩ (ok_cartridgeref1_Writer_Byte (u8 s1.Index) r11 b8 b13 (Nd.take nd 2 rfl) _ hr15) ?_
  rintro _ _ hQ nd
  obtain ⟨b17,rfl,rfl⟩:=hQ
  refine TL.nil (hK14 _ _ (SR fun K18 hK18=>M rfl rfl (P1 (p_faR fs38_2 Dc rfl) rfl rfl (P1 (p_ldR (v:=Enc.v s1.Data) ty3 rfl rfl rfl rfl rfl rfl) rfl rfl (P1 (p_cvt src3 kd5 rfl (cv_u8 _)) rfl rfl ?_)))))
  obtain ⟨r19,hr19,hX⟩:=bind_some hX
  refine TL.tcX [(b8,RV 77 [OL b17 r15]),(b17,RL (α:=UInt8) 5 r15)] [] rfl nd (dlt rfl) rfl ⟨rfl,⟨rfl,⟨rfl,trivial⟩⟩⟩ (ok_cartridgeref1_Writer_Byte (u8 s1.Data) r15 b8 b17 (Nd.take nd 2 rfl) _ hr19) ?_
  rintro _ _ hQ nd
  obtain ⟨b21,rfl,rfl⟩:=hQ
  refine TL.nil (hK18 _ _ (SR fun K22 hK22=>M rfl rfl (P1 (p_faR fs38_3 Dc rfl) rfl rfl (P1 (p_ldR (v:=Enc.v s1.Parity) ty3 rfl rfl rfl rfl rfl rfl) rfl rfl (P1 (p_cvt src3 kd5 rfl (cv_u8 _)) rfl rfl ?_)))))
  obtain ⟨r23,hr23,hX⟩:=bind_some hX
  refine TL.tcX [(b8,RV 77 [OL b21 r19]),(b21,RL (α:=UInt8) 5 r19)] [] rfl nd (dlt rfl) rfl ⟨rfl,⟨rfl,⟨rfl,trivial⟩⟩⟩ (ok_cartridgeref1_Writer_Byte (u8 s1.Parity) r19 b8 b21 (Nd.take nd 2 rfl) _ hr23) ?_
  rintro _ _ hQ nd
  obtain ⟨b25,rfl,rfl⟩:=hQ
  refine TL.nil (hK22 _ _ ?_)
  refine TK.seq_k fun K26 hK26=>?_
  refine SR fun K27 hK27=>M rfl rfl (TL.nil (hK27 _ _ ?_))
  refine TK.block ?_
  obtain ⟨o28,hO28,hA28⟩:=bind_some hX
  have E28:∀(l35:List UInt8) (env:Env) (h:Hp),(∃b34 b33,keepE [3] env=[(3,true,.ref b33 0 1)]∧Nd [(b34,RL (α:=UInt8) 5 l35),(b33,RV 77 [OL b34 l35])]∧HSub [(b34,RL (α:=UInt8) 5 l35),(b33,RV 77 [OL b34 l35])] h)→X.cartridgeref10_SealBytes_e28 l35=some r→K26 env h:=by
   intro l35 env h hE hX
   obtain ⟨b34,b33,henv,nd,hs⟩:=hE
   unfold X.cartridgeref10_SealBytes_e28 at hX
   refine hK26 _ _ (TK.keep [3] ?_)
   rw[henv]
   refine TK.subH hs ?_
   refine SR fun K36 hK36=>M rfl rfl (P1 (p_ncR rfl (fun _=>refOK_of nd (j:=1) rfl rfl)) rfl rfl (P1 (p_faV fs77_0 Dc rfl nd (j:=1) rfl rfl) rfl rfl (P1 (p_ldV (v:=OL b34 l35) ty42 rfl rfl nd (j:=1) rfl rfl rfl rfl rfl) rfl rfl (M rfl rfl (TL.nil (hK36 _ _ ?_))))))
   refine TK.layR (l2':=[Enc.v l35]) [(2,L l35)] nd (j:=0) rfl 1 rfl rfl ⟨fix_OL nd (j:=0) rfl,trivial⟩ ⟨⟨_,rfl,fix_OL nd (j:=0) rfl,rfl⟩,trivial⟩ fun nd=>?_
   refine TK.ret ?_
   try dsimp only[thenQ]
   exact R1 rfl hX
  refine TK.iter [1,3,4] (fun s env h=>match s with|(l31,i32)=>∃b30 b29,env=[(1,true,.vref (ofL [Enc.v s1.Number,Enc.v s1.Index,Enc.v s1.Data,Enc.v s1.Parity,Enc.v s1.Labels]) 5 0),(3,true,.ref b29 0 1),(4,true,Enc.v i32)]∧Nd [(b30,RL (α:=UInt8) 5 l31),(b29,RV 77 [OL b30 l31])]∧HSub [(b30,RL (α:=UInt8) 5 l31),(b29,RV 77 [OL b30 l31])] h) hO28 ⟨b25,b8,rfl,(Nd.pick nd (is:=[1,0]) Dc),(HSub.pick nd (is:=[1,0]) Dc)⟩ ?_
  rintro ⟨l31,i32⟩ env h x28x ⟨b30,b29,rfl,nd,hs⟩ hX hR28
  refine TK.subH hs ?_
  unfold X.cartridgeref10_SealBytes_s28 at hX
  try dsimp only at hX
  refine TK.seq_k fun K37 hK37=>?_
  refine SR fun K38 hK38=>M rfl rfl (P1 (p_faR fs38_4 Dc rfl) rfl rfl (P1 (p_ldR (v:=Enc.v s1.Labels) ty36 rfl rfl rfl rfl rfl rfl) rfl rfl (P1 (p_lenL (xs:=s1.Labels) kd36 rfl) rfl rfl (P1 (p_lss rfl rfl) rfl rfl (TL.nil (hK38 _ _ ?_))))))
  refine TK.cond (b:=(decide (i32<(s1.Labels.length:Int)))) rfl (fun hc=>?_) (fun hc=>?_)
  ·have hX:=ite_t hc hX
   refine TK.skip ?_
   refine hK37 _ _ ?_
   refine TK.seq_k fun K39 hK39=>?_
   refine TK.block ?_
   refine TK.reg ?_
   refine M rfl rfl (P1 (p_faR fs38_4 Dc rfl) rfl rfl (P1 (p_ldR (v:=Enc.v s1.Labels) ty36 rfl rfl rfl rfl rfl rfl) rfl rfl (M rfl rfl ?_)))
   obtain ⟨e40,he40,hX⟩:=bind_some hX
   refine P1 (p_iaL (xs:=s1.Labels) kd36 ty3 rfl rfl rfl (fun _=>he40)) rfl rfl (P1 (p_ldE (xs:=s1.Labels) (a:=e40) (e40:Int) ty3 rfl rfl (fun _=>he40) rfl rfl rfl) rfl rfl ?_)
   obtain ⟨r41,hr41,hX⟩:=bind_some hX
   refine TL.pick [1,0] nd Dc fun nd=>?_
   refine TL.tcX [(b29,RV 77 [OL b30 l31]),(b30,RL (α:=UInt8) 5 l31)] [] rfl nd (dlt rfl) rfl ⟨rfl,⟨rfl,⟨rfl,trivial⟩⟩⟩ (ok_cartridgeref1_Writer_Int e40 l31 b29 b30 (Nd.take nd 2 rfl) _ hr41) ?_
   rintro _ _ hQ nd
   obtain ⟨b43,rfl,rfl⟩:=hQ
   refine TL.nil (hK39 _ _ ?_)
   refine TK.reg ?_
   refine M rfl rfl (P1 (p_add rfl rfl) rfl rfl (M rfl rfl (TL.nil ?_)))
   exact ⟨_,(some_in hX).symm,b43,b29,rfl,(Nd.pick nd (is:=[1,0]) Dc),(HSub.pick nd (is:=[1,0]) Dc)⟩
  ·have hX:=ite_f hc hX
   refine TK.exit ?_
   obtain rfl:=hR28 _ (some_in hX).symm
   exact E28 l31 _ _ ⟨b30,b29,rfl,(Nd.pick nd (is:=[0,1]) Dc),(HSub.pick nd (is:=[0,1]) Dc)⟩ hA28
end Go.Proofs.YtfpldlnbhjmckaaGreat
