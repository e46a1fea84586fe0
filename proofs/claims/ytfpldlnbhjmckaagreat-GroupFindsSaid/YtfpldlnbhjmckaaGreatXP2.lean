import Derived.Test.YtfpldlnbhjmckaaGreatXFn
import Derived.Test.YtfpldlnbhjmckaaGreatXS
import Derived.Test.YtfpldlnbhjmckaaGreatAmK0
import Derived.Test.YtfpldlnbhjmckaaGreatAmK1
import Derived.Test.YtfpldlnbhjmckaaGreatXP1
namespace Go.Proofs.YtfpldlnbhjmckaaGreat
open Go.AM Go.AX
set_option linter.unusedVariables false
set_option maxRecDepth 20000
theorem bc_cartridgeref1_GetFrame:BodyC cx 57 57 [.c 2 46,.t 3] k57:=⟨Enters.of Tryz.func57 (by kernel_rfl) (by kernel_rfl),_,_,Tryz.func57,rfl,by kernel_rfl,rfl,rfl⟩
theorem ok_cartridgeref1_GetFrame (b1:(List UInt8)) (r:(Unit_api×Int)) (hX:X.cartridgeref1_GetFrame b1=some r):Fun Tryz.prog 57 [Enc.v (b1:(List UInt8))] (·= .tup 2 (ofL [Enc.v r.1,Enc.v r.2])):=by
 refine Fun.ofC (C:=cx) bc_cartridgeref1_GetFrame (Nat.le_of_ble_eq_true rfl) (allVal.mem ⟨(by exact (v_val _)),trivial⟩) ?_
 unfold k57
 have nd:Nd []:=Nd_nil
 unfold X.cartridgeref1_GetFrame at hX
 refine SR fun K2 hK2=>?_
 refine TLc.alO (l:=[Enc.v ((0:Int):Int),Enc.v ((0:Int):Int),Enc.v ((0:Int):Int),.nils]) nd ty46 ti46_z rfl rfl fun b3 nd=>?_
 refine M rfl rfl (TL.nil (hK2 _ _ ?_))
 refine TK.ownC (α:=UInt8) nd (j:=0) rfl 3 5 (.inl rfl) fun b4 nd=>?_
 refine SR fun K5 hK5=>M rfl rfl ?_
 obtain ⟨r6,hr6,hX⟩:=bind_some hX
 refine TL.tcX [] [(b4,RL (α:=UInt8) 5 ([]:List UInt8)),(b3,RV 46 [Enc.v ((0:Int):Int),Enc.v ((0:Int):Int),Enc.v ((0:Int):Int),OL (α:=UInt8) b4 ([]:List UInt8)])] rfl nd (dlt rfl) rfl ⟨rfl,⟨rfl,trivial⟩⟩ (ok_cartridgeref1_NewReader b1 (Nd.take nd 0 rfl) _ hr6) ?_
 rintro _ _ hQ nd
 obtain ⟨b7,rfl,rfl⟩:=hQ
 refine M rfl rfl (TL.nil (hK5 _ _ (SR fun K8 hK8=>M rfl rfl ?_)))
 obtain ⟨r9,hr9,hX⟩:=bind_some hX
 refine TL.tcX [(b7,RV 151 [Enc.v r6.1,Enc.v r6.2])] [(b4,RL (α:=UInt8) 5 ([]:List UInt8)),(b3,RV 46 [Enc.v ((0:Int):Int),Enc.v ((0:Int):Int),Enc.v ((0:Int):Int),OL (α:=UInt8) b4 ([]:List UInt8)])] rfl nd (dlt rfl) rfl ⟨rfl,⟨rfl,trivial⟩⟩ (ok_cartridgeref1_Reader_Byte r6.1 r6.2 b7 (Nd.take nd 1 rfl) _ hr9) ?_
 rintro _ _ hQ nd
 obtain ⟨rfl,rfl⟩:=hQ
 refine P1 (p_cvt src5 kd3 rfl (cv_8 r9.1)) rfl rfl (M rfl rfl ?_)
 obtain ⟨r11,hr11,hX⟩:=bind_some hX
 refine TL.tcX [(b7,RV 151 [Enc.v r9.2.1,Enc.v r9.2.2])] [(b4,RL (α:=UInt8) 5 ([]:List UInt8)),(b3,RV 46 [Enc.v ((0:Int):Int),Enc.v ((0:Int):Int),Enc.v ((0:Int):Int),OL (α:=UInt8) b4 ([]:List UInt8)])] rfl nd (dlt rfl) rfl ⟨rfl,⟨rfl,trivial⟩⟩ (ok_cartridgeref1_Reader_Int r9.2.1 r9.2.2 b7 (Nd.take nd 1 rfl) _ hr11) ?_
 rintro _ _ hQ nd
 obtain ⟨rfl,rfl⟩:=hQ
 refine M rfl rfl ?_
 obtain ⟨r13,hr13,hX⟩:=bind_some hX
 refine TL.tcX [(b7,RV 151 [Enc.v r11.2.1,Enc.v r11.2.2])] [(b4,RL (α:=UInt8) 5 ([]:List UInt8)),(b3,RV 46 [Enc.v ((0:Int):Int),Enc.v ((0:Int):Int),Enc.v ((0:Int):Int),OL (α:=UInt8) b4 ([]:List UInt8)])] rfl nd (dlt rfl) rfl ⟨rfl,⟨rfl,trivial⟩⟩ (ok_cartridgeref1_Reader_Int r11.2.1 r11.2.2 b7 (Nd.take nd 1 rfl) _ hr13) ?_
 rintro _ _ hQ nd
 obtain ⟨rfl,rfl⟩:=hQ
 refine P1 (p_bld (l:=[Enc.v ((r9.1.toNat:Int):Int),Enc.v r11.1,Enc.v r13.1,.nils]) ty46 rfl all46 rfl (fun _=>⟨⟨rfl,trivial,rfl⟩,⟨rfl,trivial,rfl⟩,⟨rfl,trivial,rfl⟩,trivial⟩)) rfl rfl ?_
 refine TLc.alO (l:=[Enc.v ((0:Int):Int),Enc.v ((0:Int):Int),Enc.v ((0:Int):Int),.nils]) nd ty46 ti46_z rfl rfl fun b15 nd=>?_
 refine TLc.stV (lu:=[Enc.v ((r9.1.toNat:Int):Int),Enc.v r11.1,Enc.v r13.1,.nils]) nd ty46 rfl (j:=0) rfl rfl rfl (Cells_agg rfl (allA.mem ⟨trivial,trivial,trivial,trivial,trivial⟩)) rfl rfl [Enc.v ((r9.1.toNat:Int):Int),Enc.v r11.1,Enc.v r13.1,.nils] rfl fun nd=>?_
 refine TL.nil (hK8 _ _ ?_)
 refine TK.ownC (α:=UInt8) nd (j:=0) rfl 3 5 (.inl rfl) fun b16 nd=>?_
 refine SR fun K17 hK17=>M rfl rfl ?_
 obtain ⟨r18,hr18,hX⟩:=bind_some hX
 refine TL.pick [2,0,1,3,4] nd Dc fun nd=>?_
 refine TL.tcX [(b7,RV 151 [Enc.v r13.2.1,Enc.v r13.2.2])] [(b16,RL (α:=UInt8) 5 ([]:List UInt8)),(b15,RV 46 [Enc.v ((r9.1.toNat:Int):Int),Enc.v r11.1,Enc.v r13.1,OL (α:=UInt8) b16 ([]:List UInt8)]),(b4,RL (α:=UInt8) 5 ([]:List UInt8)),(b3,RV 46 [Enc.v ((0:Int):Int),Enc.v ((0:Int):Int),Enc.v ((0:Int):Int),OL (α:=UInt8) b4 ([]:List UInt8)])] rfl nd (dlt rfl) rfl ⟨rfl,⟨rfl,trivial⟩⟩ (ok_cartridgeref1_Reader_Byte r13.2.1 r13.2.2 b7 (Nd.take nd 1 rfl) _ hr18) ?_
 rintro _ _ hQ nd
 obtain ⟨rfl,rfl⟩:=hQ
 refine P1 (p_cvt src5 kd3 rfl (cv_8 r18.1)) rfl rfl (P1 (p_mul rfl rfl) rfl rfl (M rfl rfl ?_))
 obtain ⟨r20,hr20,hX⟩:=bind_some hX
 refine TL.tcX [(b7,RV 151 [Enc.v r18.2.1,Enc.v r18.2.2])] [(b16,RL (α:=UInt8) 5 ([]:List UInt8)),(b15,RV 46 [Enc.v ((r9.1.toNat:Int):Int),Enc.v r11.1,Enc.v r13.1,OL (α:=UInt8) b16 ([]:List UInt8)]),(b4,RL (α:=UInt8) 5 ([]:List UInt8)),(b3,RV 46 [Enc.v ((0:Int):Int),Enc.v ((0:Int):Int),Enc.v ((0:Int):Int),OL (α:=UInt8) b4 ([]:List UInt8)])] rfl nd (dlt rfl) rfl ⟨rfl,⟨rfl,trivial⟩⟩ (ok_cartridgeref1_Reader_Byte r18.2.1 r18.2.2 b7 (Nd.take nd 1 rfl) _ hr20) ?_
 rintro _ _ hQ nd
 obtain ⟨rfl,rfl⟩:=hQ
 refine P1 (p_cvt src5 kd3 rfl (cv_8 r20.1)) rfl rfl (P1 (p_add rfl rfl) rfl rfl (M rfl rfl (TL.nil (hK17 _ _ ?_))))
 refine TK.seq_k fun K22 hK22=>?_
 refine SR fun K23 hK23=>M rfl rfl ?_
 obtain ⟨r24,hr24,hX⟩:=bind_some hX
 refine TL.lookX [.vref (ofL [Enc.v r20.2.1,Enc.v r20.2.2]) 2 0] rfl rfl rfl (fun _=>⟨rfl,⟨rfl,trivial⟩⟩) ⟨look_ref (l:=[Enc.v r20.2.1,Enc.v r20.2.2]) nd (j:=0) rfl ⟨look_v (v:=Enc.v r20.2.1) (v_val _),look_v (v:=Enc.v r20.2.2) (v_val _),trivial⟩,trivial⟩ (fun e=>ok_cartridgeref1_Reader_Bad r20.2.1 r20.2.2 _ hr24) (trivial) ?_
 refine M rfl rfl ?_
 refine TLc.p (gc:=(!r24)) (p_mv rfl (hg:=fun e=>rfl)) (gcF1 rfl) rfl ?_
 refine TLc.p (gc:=(!r24)) (p_mv rfl (hg:=fun e=>rfl)) (gcF1 rfl) rfl ?_
 obtain ⟨r25,hr25,hX⟩:=bind_some hX
 refine TL.lookX [.vref (ofL [Enc.v r20.2.1,Enc.v r20.2.2]) 2 0] (gcF1 rfl) rfl rfl (fun e=>⟨rfl,⟨e,trivial⟩⟩) ⟨look_ref (l:=[Enc.v r20.2.1,Enc.v r20.2.2]) nd (j:=0) rfl ⟨look_v (v:=Enc.v r20.2.1) (v_val _),look_v (v:=Enc.v r20.2.2) (v_val _),trivial⟩,trivial⟩ (fun e=>ok_cartridgeref1_Reader_Left r20.2.1 r20.2.2 _ (optG_t hr25 e)) (trivial) ?_
 refine TLc.p (gc:=(!r24)) (p_gtr rfl rfl (hg:=fun e=>⟨e,e⟩)) (gcF1 rfl) rfl ?_
 refine P1 (p_or rfl rfl (fun e=>⟨rfl,fun h=>(not_t h)⟩)) rfl rfl (TL.nil (hK23 _ _ ?_))
 refine TK.cond (b:=(r24||(decide ((wr ((wr ((256:Int)*(r18.1.toNat:Int)))+(r20.1.toNat:Int)))>r25)))) rfl (fun hc=>?_) (fun hc=>?_)
 ·have hX:=ite_t hc hX
  refine SR fun K26 hK26=>P1 (p_bld (l:=[Enc.v ((0:Int):Int),Enc.v ((0:Int):Int),Enc.v ((0:Int):Int),.nils]) ty46 rfl all46 rfl (fun _=>trivial)) rfl rfl ?_
  refine TLc.stV (lu:=[Enc.v ((0:Int):Int),Enc.v ((0:Int):Int),Enc.v ((0:Int):Int),.nils]) nd ty46 rfl (j:=4) rfl rfl rfl (Cells_agg rfl (allA.mem ⟨trivial,trivial,trivial,trivial,trivial⟩)) rfl rfl [Enc.v ((0:Int):Int),Enc.v ((0:Int):Int),Enc.v ((0:Int):Int),.nils] rfl fun nd=>?_
  refine M rfl rfl (TL.nil (hK26 _ _ ?_))
  refine TK.ownC (α:=UInt8) nd (j:=4) rfl 3 5 (.inl rfl) fun b27 nd=>?_
  refine TK.layR (l2':=[Enc.v ((0:Int):Int),Enc.v ((0:Int):Int),Enc.v ((0:Int):Int),Enc.v (([]:List UInt8):(List UInt8))]) [] nd (j:=0) rfl 5 rfl rfl ⟨fix_id _,fix_id _,fix_id _,fix_OL nd (j:=0) rfl,trivial⟩ trivial fun nd=>?_
  refine TK.ret ?_
  try dsimp only[thenQ]
  exact retC [Enc.v ((Unit_api.mk (0:Int) (0:Int) (0:Int) ([]:List UInt8)):Unit_api),Enc.v ((2:Int):Int)] ⟨p_ldVa (l':=Enc.cl ((Unit_api.mk (0:Int) (0:Int) (0:Int) ([]:List UInt8)):Unit_api)) ty46 rfl rfl nd (j:=4) rfl rfl rfl rfl (Nat.le_of_ble_eq_true rfl),p_mv rfl,trivial⟩ (by obtain rfl:=some_in hX;rfl) (tup_val (allVal.mem ⟨v_val _,v_val _,trivial⟩))
 ·have hX:=ite_f hc hX
  refine TK.skip ?_
  refine hK22 _ _ (SR fun K28 hK28=>M rfl rfl (M rfl rfl ?_))
  obtain ⟨r29,hr29,hX⟩:=bind_some hX
  refine TL.tcX [(b7,RV 151 [Enc.v r20.2.1,Enc.v r20.2.2])] [(b16,RL (α:=UInt8) 5 ([]:List UInt8)),(b15,RV 46 [Enc.v ((r9.1.toNat:Int):Int),Enc.v r11.1,Enc.v r13.1,OL (α:=UInt8) b16 ([]:List UInt8)]),(b4,RL (α:=UInt8) 5 ([]:List UInt8)),(b3,RV 46 [Enc.v ((0:Int):Int),Enc.v ((0:Int):Int),Enc.v ((0:Int):Int),OL (α:=UInt8) b4 ([]:List UInt8)])] rfl nd (dlt rfl) rfl ⟨rfl,⟨rfl,⟨rfl,trivial⟩⟩⟩ (ok_cartridgeref1_Reader_take (wr ((wr ((256:Int)*(r18.1.toNat:Int)))+(r20.1.toNat:Int))) r20.2.1 r20.2.2 b7 (Nd.take nd 1 rfl) _ hr29) ?_
  rintro _ _ hQ nd
  obtain ⟨rfl,rfl⟩:=hQ
  obtain ⟨u31,hu31,hX⟩:=bind_some hX
  refine TLc.appN nd kd42 bo42 ty5 rfl rfl (.inl rfl) rfl (Src_L _) Dc (need_t hu31) rfl fun b32 nd=>?_
  refine P1 (p_faV fs46_3 Dc rfl nd (j:=3) rfl rfl) rfl rfl ?_
  refine TLc.stV (lu:=[OL (α:=UInt8) b32 r29.1]) nd ty42 rfl (j:=3) rfl rfl rfl (Cells_rs (refOK_of nd (j:=0) rfl rfl)) rfl rfl [Enc.v ((r9.1.toNat:Int):Int),Enc.v r11.1,Enc.v r13.1,OL (α:=UInt8) b32 r29.1] rfl fun nd=>?_
  refine TL.nil (hK28 _ _ (SR fun K33 hK33=>?_))
  refine TL.layR (l2':=[Enc.v ((r9.1.toNat:Int):Int),Enc.v r11.1,Enc.v r13.1,Enc.v r29.1]) [] nd (j:=0) rfl 3 rfl rfl ⟨fix_id _,fix_id _,fix_id _,fix_OL nd (j:=0) rfl,trivial⟩ trivial fun nd=>?_
  refine P1 (p_ldVa (l':=Enc.cl ((Unit_api.mk (r9.1.toNat:Int) r11.1 r13.1 r29.1):Unit_api)) ty46 rfl rfl nd (j:=2) rfl rfl rfl rfl (Nat.le_of_ble_eq_true rfl)) rfl rfl ?_
  obtain ⟨r34,hr34,hX⟩:=bind_some hX
  refine TL.cvX rfl rfl rfl (fun _=>⟨rfl,⟨rfl,trivial⟩⟩) (fun e=>ok_cartridgeref1_PutFrame (Unit_api.mk (r9.1.toNat:Int) r11.1 r13.1 r29.1) _ hr34) ?_
  refine M rfl rfl (P1 (p_ex rfl rfl Dc) rfl rfl (P1 (p_ex rfl rfl Dc) rfl rfl (M rfl rfl (M rfl rfl (TL.nil (hK33 _ _ ?_))))))
  refine TK.seq_k fun K35 hK35=>?_
  refine SR fun K36 hK36=>M rfl rfl (P1 (p_neq rfl rfl) rfl rfl (M rfl rfl ?_))
  refine TLc.p (gc:=(!((r34.2 !=(0:Int))))) (p_mv rfl (hg:=fun e=>rfl)) (gcF1 rfl) rfl ?_
  refine TL.ofV (gc:=(!((r34.2 !=(0:Int))))) (vok_cvtBS (C:=cx) (gc:=(!((r34.2 !=(0:Int))))) (xs:=r34.1) kd42 kd5 kd9 rfl (look_v (v:=Enc.v r34.1) (v_val _)) (hg:=fun e=>e)) (gcF1 rfl) rfl ?_
  refine TLc.p (gc:=(!((r34.2 !=(0:Int))))) (p_mv rfl (hg:=fun e=>rfl)) (gcF1 rfl) rfl ?_
  refine TL.ofV (gc:=(!((r34.2 !=(0:Int))))) (vok_cvtBS (C:=cx) (gc:=(!((r34.2 !=(0:Int))))) (xs:=b1) kd42 kd5 kd9 rfl (look_v (v:=Enc.v b1) (v_val _)) (hg:=fun e=>e)) (gcF1 rfl) rfl ?_
  refine TLc.p (gc:=(!((r34.2 !=(0:Int))))) (ps_neq (s:=(Str.mk r34.1)) (r:=(Str.mk b1)) rfl rfl (hg:=fun e=>⟨e,e⟩)) (gcF1 rfl) rfl ?_
  refine P1 (p_or rfl rfl (fun e=>⟨rfl,fun h=>(not_t h)⟩)) rfl rfl (TL.nil (hK36 _ _ ?_))
  refine TK.cond (b:=((r34.2 !=(0:Int))||(!((Str.mk r34.1).l==(Str.mk b1).l)))) rfl (fun hc=>?_) (fun hc=>?_)
  ·have hX:=ite_t hc hX
   refine SR fun K37 hK37=>P1 (p_bld (l:=[Enc.v ((0:Int):Int),Enc.v ((0:Int):Int),Enc.v ((0:Int):Int),.nils]) ty46 rfl all46 rfl (fun _=>trivial)) rfl rfl ?_
   refine TLc.stV (lu:=[Enc.v ((0:Int):Int),Enc.v ((0:Int):Int),Enc.v ((0:Int):Int),.nils]) nd ty46 rfl (j:=4) rfl rfl rfl (Cells_agg rfl (allA.mem ⟨trivial,trivial,trivial,trivial,trivial⟩)) rfl rfl [Enc.v ((0:Int):Int),Enc.v ((0:Int):Int),Enc.v ((0:Int):Int),.nils] rfl fun nd=>?_
   refine M rfl rfl (TL.nil (hK37 _ _ ?_))
   refine TK.ownC (α:=UInt8) nd (j:=4) rfl 3 5 (.inl rfl) fun b38 nd=>?_
   refine TK.layR (l2':=[Enc.v ((0:Int):Int),Enc.v ((0:Int):Int),Enc.v ((0:Int):Int),Enc.v (([]:List UInt8):(List UInt8))]) [] nd (j:=0) rfl 5 rfl rfl ⟨fix_id _,fix_id _,fix_id _,fix_OL nd (j:=0) rfl,trivial⟩ trivial fun nd=>?_
   refine TK.ret ?_
   try dsimp only[thenQ]
   exact retC [Enc.v ((Unit_api.mk (0:Int) (0:Int) (0:Int) ([]:List UInt8)):Unit_api),Enc.v ((2:Int):Int)] ⟨p_ldVa (l':=Enc.cl ((Unit_api.mk (0:Int) (0:Int) (0:Int) ([]:List UInt8)):Unit_api)) ty46 rfl rfl nd (j:=4) rfl rfl rfl rfl (Nat.le_of_ble_eq_true rfl),p_mv rfl,trivial⟩ (by obtain rfl:=some_in hX;rfl) (tup_val (allVal.mem ⟨v_val _,v_val _,trivial⟩))
  ·have hX:=ite_f hc hX
   refine TK.skip ?_
   refine hK35 _ _ (SR fun K39 hK39=>P1 (p_ldVa (l':=Enc.cl ((Unit_api.mk (r9.1.toNat:Int) r11.1 r13.1 r29.1):Unit_api)) ty46 rfl rfl nd (j:=2) rfl rfl rfl rfl (Nat.le_of_ble_eq_true rfl)) rfl rfl ?_)
   refine TLc.stV (lu:=Enc.cl ((Unit_api.mk (r9.1.toNat:Int) r11.1 r13.1 r29.1):Unit_api)) nd ty46 rfl (j:=4) rfl rfl rfl (Cells_v ((Unit_api.mk (r9.1.toNat:Int) r11.1 r13.1 r29.1):Unit_api)) rfl rfl [Enc.v ((Unit_api.mk (r9.1.toNat:Int) r11.1 r13.1 r29.1).Kind:Int),Enc.v ((Unit_api.mk (r9.1.toNat:Int) r11.1 r13.1 r29.1).Label:Int),Enc.v ((Unit_api.mk (r9.1.toNat:Int) r11.1 r13.1 r29.1).Number:Int),Enc.v ((Unit_api.mk (r9.1.toNat:Int) r11.1 r13.1 r29.1).Load:(List UInt8))] rfl fun nd=>?_
   refine M rfl rfl (TL.nil (hK39 _ _ ?_))
   refine TK.ret ?_
   try dsimp only[thenQ]
   exact retC [Enc.v ((Unit_api.mk (r9.1.toNat:Int) r11.1 r13.1 r29.1):Unit_api),Enc.v ((0:Int):Int)] ⟨p_ldVa (l':=Enc.cl ((Unit_api.mk (r9.1.toNat:Int) r11.1 r13.1 r29.1):Unit_api)) ty46 rfl rfl nd (j:=4) rfl rfl rfl rfl (Nat.le_of_ble_eq_true rfl),p_mv rfl,trivial⟩ (by obtain rfl:=some_in hX;rfl) (tup_val (allVal.mem ⟨v_val _,v_val _,trivial⟩))
theorem bc_cartridgeref10_Good:BodyC cx 24 48 [.c 4 46,.t 5] k24:=⟨Enters.of Tryz.func24 (by kernel_rfl) (by kernel_rfl),_,_,Tryz.func24,rfl,by kernel_rfl,rfl,rfl⟩
theorem ok_cartridgeref10_Good (t1:Tape_api) (n2:Int) (r:(Unit_api×Bool)) (hX:X.cartridgeref10_Good t1 n2=some r):Fun Tryz.prog 24 [Enc.v (t1:Tape_api),Enc.v (n2:Int)] (·= .tup 2 (ofL [Enc.v r.1,Enc.v r.2])):=by
 refine Fun.ofC (C:=cx) bc_cartridgeref10_Good (Nat.le_of_ble_eq_true rfl) (allVal.mem ⟨(by exact (v_val _)),(by exact (v_val _)),trivial⟩) ?_
 unfold k24
 have nd:Nd []:=Nd_nil
 unfold X.cartridgeref10_Good at hX
 refine SR fun K3 hK3=>?_
 refine TLc.boxV (lu:=[Enc.v t1.Label,Enc.v t1.Cap,Enc.v t1.Blocks,Enc.v t1.Lost]) nd rfl (Cells_v (t1:Tape_api)) rfl ?_
 refine TLc.alO (l:=[Enc.v ((0:Int):Int),Enc.v ((0:Int):Int),Enc.v ((0:Int):Int),.nils]) nd ty46 ti46_z rfl rfl fun b4 nd=>?_
 refine M rfl rfl (TL.nil (hK3 _ _ ?_))
 refine TK.cvR nd (j:=0) rfl (l':=[Enc.v ((0:Int):Int),Enc.v ((0:Int):Int),Enc.v ((0:Int):Int),Enc.v (([]:(List UInt8)):(List UInt8))]) ⟨Wk.refl _,Wk.refl _,Wk.refl _,Wk_nil,trivial⟩ fun nd=>?_
 refine TK.seq_k fun K5 hK5=>?_
 refine SR fun K6 hK6=>P1 (p_faR fs49_3 Dc rfl) rfl rfl (P1 (p_ldR (v:=Enc.v t1.Lost) ty4 rfl rfl rfl rfl rfl rfl) rfl rfl (M rfl rfl ?_))
 refine TLc.p (gc:=(!(t1.Lost))) (p_mv rfl (hg:=fun e=>rfl)) (gcF1 rfl) rfl ?_
 refine TLc.p (gc:=(!(t1.Lost))) (p_lss rfl rfl (hg:=fun e=>⟨e,rfl⟩)) (gcF1 rfl) rfl ?_
 refine P1 (p_or rfl rfl (fun e=>⟨rfl,fun h=>(not_t h)⟩)) rfl rfl (M rfl rfl ?_)
 refine TLc.p (gc:=(!((t1.Lost||(decide (n2<(0:Int))))))) (p_mv rfl (hg:=fun e=>rfl)) (gcF1 rfl) rfl ?_
 refine TLc.p (gc:=(!((t1.Lost||(decide (n2<(0:Int))))))) (p_faR fs49_2 Dc rfl (hg:=fun e=>rfl)) (gcF1 rfl) rfl ?_
 refine TLc.p (gc:=(!((t1.Lost||(decide (n2<(0:Int))))))) (p_ldR (v:=Enc.v t1.Blocks) ty47 rfl rfl rfl rfl rfl rfl (hg:=fun e=>e)) (gcF1 rfl) rfl ?_
 refine TLc.p (gc:=(!((t1.Lost||(decide (n2<(0:Int))))))) (p_lenL (xs:=t1.Blocks) kd47 rfl (hg:=fun e=>e)) (gcF1 rfl) rfl ?_
 refine TLc.p (gc:=(!((t1.Lost||(decide (n2<(0:Int))))))) (p_geq rfl rfl (hg:=fun e=>⟨e,e⟩)) (gcF1 rfl) rfl ?_
 refine P1 (p_or rfl rfl (fun e=>⟨rfl,fun h=>(not_t h)⟩)) rfl rfl (TL.nil (hK6 _ _ ?_))
 refine TK.cond (b:=((t1.Lost||(decide (n2<(0:Int))))||(decide (n2≥(t1.Blocks.length:Int))))) rfl (fun hc=>?_) (fun hc=>?_)
 ·have hX:=ite_t hc hX
  refine SR fun K7 hK7=>?_
  refine TLc.p (gc:=true) (p_bld (l:=[Enc.v ((0:Int):Int),Enc.v ((0:Int):Int),Enc.v ((0:Int):Int),.nils]) ty46 rfl all46 rfl (fun _=>trivial)) rfl rfl (TL.wk (v':=Enc.v ((Unit_api.mk (0:Int) (0:Int) (0:Int) ([]:(List UInt8))):Unit_api)) (Wk_agg ⟨Wk.refl _,Wk.refl _,Wk.refl _,Wk_nil,trivial⟩) ?_)
  refine TLc.stV (lu:=Enc.cl ((Unit_api.mk (0:Int) (0:Int) (0:Int) ([]:(List UInt8))):Unit_api)) nd ty46 rfl (j:=0) rfl rfl rfl (Cells_v ((Unit_api.mk (0:Int) (0:Int) (0:Int) ([]:(List UInt8))):Unit_api)) rfl rfl [Enc.v ((Unit_api.mk (0:Int) (0:Int) (0:Int) ([]:(List UInt8))).Kind:Int),Enc.v ((Unit_api.mk (0:Int) (0:Int) (0:Int) ([]:(List UInt8))).Label:Int),Enc.v ((Unit_api.mk (0:Int) (0:Int) (0:Int) ([]:(List UInt8))).Number:Int),Enc.v ((Unit_api.mk (0:Int) (0:Int) (0:Int) ([]:(List UInt8))).Load:(List UInt8))] rfl fun nd=>?_
  refine M rfl rfl (TL.nil (hK7 _ _ ?_))
  refine TK.ret ?_
  try dsimp only[thenQ]
  exact retC [Enc.v ((Unit_api.mk (0:Int) (0:Int) (0:Int) ([]:(List UInt8))):Unit_api),Enc.v false] ⟨p_ldVa (l':=Enc.cl ((Unit_api.mk (0:Int) (0:Int) (0:Int) ([]:(List UInt8))):Unit_api)) ty46 rfl rfl nd (j:=0) rfl rfl rfl rfl (Nat.le_of_ble_eq_true rfl),p_mv rfl,trivial⟩ (by obtain rfl:=some_in hX;rfl) (tup_val (allVal.mem ⟨v_val _,v_val _,trivial⟩))
 ·have hX:=ite_f hc hX
  refine TK.skip ?_
  refine hK5 _ _ (SR fun K8 hK8=>P1 (p_faR fs49_2 Dc rfl) rfl rfl (P1 (p_ldR (v:=Enc.v t1.Blocks) ty47 rfl rfl rfl rfl rfl rfl) rfl rfl (M rfl rfl ?_)))
  obtain ⟨e9,he9,hX⟩:=bind_some hX
  refine P1 (p_iaL (xs:=t1.Blocks) kd47 ty42 rfl rfl rfl (fun _=>he9)) rfl rfl (P1 (p_ldE (xs:=t1.Blocks) (a:=e9) (e9:(List UInt8)) ty42 rfl rfl (fun _=>he9) rfl rfl rfl) rfl rfl ?_)
  obtain ⟨r10,hr10,hX⟩:=bind_some hX
  refine TL.cvX rfl rfl rfl (fun _=>⟨rfl,⟨rfl,trivial⟩⟩) (fun e=>ok_cartridgeref1_GetFrame e9 _ hr10) ?_
  refine M rfl rfl (P1 (p_ex rfl rfl Dc) rfl rfl (P1 (p_ex rfl rfl Dc) rfl rfl ?_))
  refine TLc.alO (l:=[Enc.v ((0:Int):Int),Enc.v ((0:Int):Int),Enc.v ((0:Int):Int),.nils]) nd ty46 ti46_z rfl rfl fun b11 nd=>?_
  refine TLc.stV (lu:=Enc.cl (r10.1:Unit_api)) nd ty46 rfl (j:=0) rfl rfl rfl (Cells_v (r10.1:Unit_api)) rfl rfl [Enc.v r10.1.Kind,Enc.v r10.1.Label,Enc.v r10.1.Number,Enc.v r10.1.Load] rfl fun nd=>?_
  refine M rfl rfl (TL.nil (hK8 _ _ ?_))
  refine TK.seq_k fun K12 hK12=>?_
  refine SR fun K13 hK13=>M rfl rfl (P1 (p_neq rfl rfl) rfl rfl (M rfl rfl ?_))
  refine TLc.p (gc:=(!((r10.2 !=(0:Int))))) (p_faV fs46_1 Dc rfl nd (j:=0) rfl rfl (hg:=fun e=>rfl)) (gcF1 rfl) rfl ?_
  refine TLc.p (gc:=(!((r10.2 !=(0:Int))))) (p_ldV (v:=Enc.v r10.1.Label) ty3 rfl rfl nd (j:=0) rfl rfl rfl rfl rfl (hg:=fun e=>e)) (gcF1 rfl) rfl ?_
  refine TLc.p (gc:=(!((r10.2 !=(0:Int))))) (p_faR fs49_0 Dc rfl (hg:=fun e=>rfl)) (gcF1 rfl) rfl ?_
  refine TLc.p (gc:=(!((r10.2 !=(0:Int))))) (p_ldR (v:=Enc.v t1.Label) ty3 rfl rfl rfl rfl rfl rfl (hg:=fun e=>e)) (gcF1 rfl) rfl ?_
  refine TLc.p (gc:=(!((r10.2 !=(0:Int))))) (p_neq rfl rfl (hg:=fun e=>⟨e,e⟩)) (gcF1 rfl) rfl ?_
  refine P1 (p_or rfl rfl (fun e=>⟨rfl,fun h=>(not_t h)⟩)) rfl rfl (M rfl rfl ?_)
  refine TLc.p (gc:=(!(((r10.2 !=(0:Int))||(r10.1.Label !=t1.Label))))) (p_faV fs46_2 Dc rfl nd (j:=0) rfl rfl (hg:=fun e=>rfl)) (gcF1 rfl) rfl ?_
  refine TLc.p (gc:=(!(((r10.2 !=(0:Int))||(r10.1.Label !=t1.Label))))) (p_ldV (v:=Enc.v r10.1.Number) ty3 rfl rfl nd (j:=0) rfl rfl rfl rfl rfl (hg:=fun e=>e)) (gcF1 rfl) rfl ?_
  refine TLc.p (gc:=(!(((r10.2 !=(0:Int))||(r10.1.Label !=t1.Label))))) (p_mv rfl (hg:=fun e=>rfl)) (gcF1 rfl) rfl ?_
  refine TLc.p (gc:=(!(((r10.2 !=(0:Int))||(r10.1.Label !=t1.Label))))) (p_neq rfl rfl (hg:=fun e=>⟨e,e⟩)) (gcF1 rfl) rfl ?_
  refine P1 (p_or rfl rfl (fun e=>⟨rfl,fun h=>(not_t h)⟩)) rfl rfl (TL.nil (hK13 _ _ ?_))
  refine TK.cond (b:=(((r10.2 !=(0:Int))||(r10.1.Label !=t1.Label))||(r10.1.Number !=n2))) rfl (fun hc=>?_) (fun hc=>?_)
  ·have hX:=ite_t hc hX
   refine SR fun K14 hK14=>?_
   refine TLc.p (gc:=true) (p_bld (l:=[Enc.v ((0:Int):Int),Enc.v ((0:Int):Int),Enc.v ((0:Int):Int),.nils]) ty46 rfl all46 rfl (fun _=>trivial)) rfl rfl (TL.wk (v':=Enc.v ((Unit_api.mk (0:Int) (0:Int) (0:Int) ([]:(List UInt8))):Unit_api)) (Wk_agg ⟨Wk.refl _,Wk.refl _,Wk.refl _,Wk_nil,trivial⟩) ?_)
   refine TLc.stV (lu:=Enc.cl ((Unit_api.mk (0:Int) (0:Int) (0:Int) ([]:(List UInt8))):Unit_api)) nd ty46 rfl (j:=1) rfl rfl rfl (Cells_v ((Unit_api.mk (0:Int) (0:Int) (0:Int) ([]:(List UInt8))):Unit_api)) rfl rfl [Enc.v ((Unit_api.mk (0:Int) (0:Int) (0:Int) ([]:(List UInt8))).Kind:Int),Enc.v ((Unit_api.mk (0:Int) (0:Int) (0:Int) ([]:(List UInt8))).Label:Int),Enc.v ((Unit_api.mk (0:Int) (0:Int) (0:Int) ([]:(List UInt8))).Number:Int),Enc.v ((Unit_api.mk (0:Int) (0:Int) (0:Int) ([]:(List UInt8))).Load:(List UInt8))] rfl fun nd=>?_
   refine M rfl rfl (TL.nil (hK14 _ _ ?_))
   refine TK.ret ?_
   try dsimp only[thenQ]
   exact retC [Enc.v ((Unit_api.mk (0:Int) (0:Int) (0:Int) ([]:(List UInt8))):Unit_api),Enc.v false] ⟨p_ldVa (l':=Enc.cl ((Unit_api.mk (0:Int) (0:Int) (0:Int) ([]:(List UInt8))):Unit_api)) ty46 rfl rfl nd (j:=1) rfl rfl rfl rfl (Nat.le_of_ble_eq_true rfl),p_mv rfl,trivial⟩ (by obtain rfl:=some_in hX;rfl) (tup_val (allVal.mem ⟨v_val _,v_val _,trivial⟩))
  ·have hX:=ite_f hc hX
   refine TK.skip ?_
   refine hK12 _ _ (SR fun K15 hK15=>P1 (p_ldVa (l':=Enc.cl (r10.1:Unit_api)) ty46 rfl rfl nd (j:=0) rfl rfl rfl rfl (Nat.le_of_ble_eq_true rfl)) rfl rfl ?_)
   refine TLc.stV (lu:=Enc.cl (r10.1:Unit_api)) nd ty46 rfl (j:=1) rfl rfl rfl (Cells_v (r10.1:Unit_api)) rfl rfl [Enc.v r10.1.Kind,Enc.v r10.1.Label,Enc.v r10.1.Number,Enc.v r10.1.Load] rfl fun nd=>?_
   refine M rfl rfl (TL.nil (hK15 _ _ ?_))
   refine TK.ret ?_
   try dsimp only[thenQ]
   exact retC [Enc.v r10.1,Enc.v true] ⟨p_ldVa (l':=Enc.cl (r10.1:Unit_api)) ty46 rfl rfl nd (j:=1) rfl rfl rfl rfl (Nat.le_of_ble_eq_true rfl),p_mv rfl,trivial⟩ (by obtain rfl:=some_in hX;rfl) (tup_val (allVal.mem ⟨v_val _,v_val _,trivial⟩))
theorem ok_cartridgeref10_RightSeal (s1:Seal_api) (r:Bool) (hX:X.cartridgeref10_RightSeal s1=some r):Fun Tryz.prog 25 [Enc.v (s1:Seal_api)] (·=Enc.v (r:Bool)):=by
 refine Fun.of b25 (Nat.le_of_ble_eq_true rfl) (allVal.mem ⟨(by exact (v_val _)),trivial⟩) ?_
 unfold k25
 have nd:Nd []:=Nd_nil
 unfold X.cartridgeref10_RightSeal at hX
 refine SR fun K2 hK2=>?_
 refine TLc.boxV (lu:=[Enc.v s1.Number,Enc.v s1.Index,Enc.v s1.Data,Enc.v s1.Parity,Enc.v s1.Labels]) nd rfl (Cells_v (s1:Seal_api)) rfl ?_
 refine M rfl rfl (TL.nil (hK2 _ _ ?_))
 refine TK.seq_k fun K3 hK3=>?_
 refine SR fun K4 hK4=>P1 (p_faR fs38_0 Dc rfl) rfl rfl (P1 (p_ldR (v:=Enc.v s1.Number) ty3 rfl rfl rfl rfl rfl rfl) rfl rfl (P1 (p_lss rfl rfl) rfl rfl (M rfl rfl ?_)))
 refine TLc.p (gc:=(!((decide (s1.Number<(1:Int)))))) (p_faR fs38_0 Dc rfl (hg:=fun e=>rfl)) (gcF1 rfl) rfl ?_
 refine TLc.p (gc:=(!((decide (s1.Number<(1:Int)))))) (p_ldR (v:=Enc.v s1.Number) ty3 rfl rfl rfl rfl rfl rfl (hg:=fun e=>e)) (gcF1 rfl) rfl ?_
 refine TLc.p (gc:=(!((decide (s1.Number<(1:Int)))))) (p_gtr rfl rfl (hg:=fun e=>⟨e,rfl⟩)) (gcF1 rfl) rfl ?_
 refine P1 (p_or rfl rfl (fun e=>⟨rfl,fun h=>(not_t h)⟩)) rfl rfl (M rfl rfl ?_)
 refine TLc.p (gc:=(!(((decide (s1.Number<(1:Int)))||(decide (s1.Number>(1073741824:Int))))))) (p_faR fs38_2 Dc rfl (hg:=fun e=>rfl)) (gcF1 rfl) rfl ?_
 refine TLc.p (gc:=(!(((decide (s1.Number<(1:Int)))||(decide (s1.Number>(1073741824:Int))))))) (p_ldR (v:=Enc.v s1.Data) ty3 rfl rfl rfl rfl rfl rfl (hg:=fun e=>e)) (gcF1 rfl) rfl ?_
 refine TLc.p (gc:=(!(((decide (s1.Number<(1:Int)))||(decide (s1.Number>(1073741824:Int))))))) (p_lss rfl rfl (hg:=fun e=>⟨e,rfl⟩)) (gcF1 rfl) rfl ?_
 refine P1 (p_or rfl rfl (fun e=>⟨rfl,fun h=>(not_t h)⟩)) rfl rfl (M rfl rfl ?_)
 refine TLc.p (gc:=(!((((decide (s1.Number<(1:Int)))||(decide (s1.Number>(1073741824:Int))))||(decide (s1.Data<(1:Int))))))) (p_faR fs38_3 Dc rfl (hg:=fun e=>rfl)) (gcF1 rfl) rfl ?_
 refine TLc.p (gc:=(!((((decide (s1.Number<(1:Int)))||(decide (s1.Number>(1073741824:Int))))||(decide (s1.Data<(1:Int))))))) (p_ldR (v:=Enc.v s1.Parity) ty3 rfl rfl rfl rfl rfl rfl (hg:=fun e=>e)) (gcF1 rfl) rfl ?_
 refine TLc.p (gc:=(!((((decide (s1.Number<(1:Int)))||(decide (s1.Number>(1073741824:Int))))||(decide (s1.Data<(1:Int))))))) (p_lss rfl rfl (hg:=fun e=>⟨e,rfl⟩)) (gcF1 rfl) rfl ?_
 refine P1 (p_or rfl rfl (fun e=>⟨rfl,fun h=>(not_t h)⟩)) rfl rfl (M rfl rfl ?_)
 refine TLc.p (gc:=(!(((((decide (s1.Number<(1:Int)))||(decide (s1.Number>(1073741824:Int))))||(decide (s1.Data<(1:Int))))||(decide (s1.Parity<(1:Int))))))) (p_faR fs38_2 Dc rfl (hg:=fun e=>rfl)) (gcF1 rfl) rfl ?_
 refine TLc.p (gc:=(!(((((decide (s1.Number<(1:Int)))||(decide (s1.Number>(1073741824:Int))))||(decide (s1.Data<(1:Int))))||(decide (s1.Parity<(1:Int))))))) (p_ldR (v:=Enc.v s1.Data) ty3 rfl rfl rfl rfl rfl rfl (hg:=fun e=>e)) (gcF1 rfl) rfl ?_
 refine TLc.p (gc:=(!(((((decide (s1.Number<(1:Int)))||(decide (s1.Number>(1073741824:Int))))||(decide (s1.Data<(1:Int))))||(decide (s1.Parity<(1:Int))))))) (p_gtr rfl rfl (hg:=fun e=>⟨e,rfl⟩)) (gcF1 rfl) rfl ?_
 refine P1 (p_or rfl rfl (fun e=>⟨rfl,fun h=>(not_t h)⟩)) rfl rfl (M rfl rfl ?_)
 refine TLc.p (gc:=(!((((((decide (s1.Number<(1:Int)))||(decide (s1.Number>(1073741824:Int))))||(decide (s1.Data<(1:Int))))||(decide (s1.Parity<(1:Int))))||(decide (s1.Data>(14:Int))))))) (p_faR fs38_3 Dc rfl (hg:=fun e=>rfl)) (gcF1 rfl) rfl ?_
 refine TLc.p (gc:=(!((((((decide (s1.Number<(1:Int)))||(decide (s1.Number>(1073741824:Int))))||(decide (s1.Data<(1:Int))))||(decide (s1.Parity<(1:Int))))||(decide (s1.Data>(14:Int))))))) (p_ldR (v:=Enc.v s1.Parity) ty3 rfl rfl rfl rfl rfl rfl (hg:=fun e=>e)) (gcF1 rfl) rfl ?_
 refine TLc.p (gc:=(!((((((decide (s1.Number<(1:Int)))||(decide (s1.Number>(1073741824:Int))))||(decide (s1.Data<(1:Int))))||(decide (s1.Parity<(1:Int))))||(decide (s1.Data>(14:Int))))))) (p_gtr rfl rfl (hg:=fun e=>⟨e,rfl⟩)) (gcF1 rfl) rfl ?_
 refine P1 (p_or rfl rfl (fun e=>⟨rfl,fun h=>(not_t h)⟩)) rfl rfl (M rfl rfl ?_)
 refine TLc.p (gc:=(!(((((((decide (s1.Number<(1:Int)))||(decide (s1.Number>(1073741824:Int))))||(decide (s1.Data<(1:Int))))||(decide (s1.Parity<(1:Int))))||(decide (s1.Data>(14:Int))))||(decide (s1.Parity>(14:Int))))))) (p_faR fs38_2 Dc rfl (hg:=fun e=>rfl)) (gcF1 rfl) rfl ?_
 refine TLc.p (gc:=(!(((((((decide (s1.Number<(1:Int)))||(decide (s1.Number>(1073741824:Int))))||(decide (s1.Data<(1:Int))))||(decide (s1.Parity<(1:Int))))||(decide (s1.Data>(14:Int))))||(decide (s1.Parity>(14:Int))))))) (p_ldR (v:=Enc.v s1.Data) ty3 rfl rfl rfl rfl rfl rfl (hg:=fun e=>e)) (gcF1 rfl) rfl ?_
 refine TLc.p (gc:=(!(((((((decide (s1.Number<(1:Int)))||(decide (s1.Number>(1073741824:Int))))||(decide (s1.Data<(1:Int))))||(decide (s1.Parity<(1:Int))))||(decide (s1.Data>(14:Int))))||(decide (s1.Parity>(14:Int))))))) (p_faR fs38_3 Dc rfl (hg:=fun e=>rfl)) (gcF1 rfl) rfl ?_
 refine TLc.p (gc:=(!(((((((decide (s1.Number<(1:Int)))||(decide (s1.Number>(1073741824:Int))))||(decide (s1.Data<(1:Int))))||(decide (s1.Parity<(1:Int))))||(decide (s1.Data>(14:Int))))||(decide (s1.Parity>(14:Int))))))) (p_ldR (v:=Enc.v s1.Parity) ty3 rfl rfl rfl rfl rfl rfl (hg:=fun e=>e)) (gcF1 rfl) rfl ?_
 refine TLc.p (gc:=(!(((((((decide (s1.Number<(1:Int)))||(decide (s1.Number>(1073741824:Int))))||(decide (s1.Data<(1:Int))))||(decide (s1.Parity<(1:Int))))||(decide (s1.Data>(14:Int))))||(decide (s1.Parity>(14:Int))))))) (p_add rfl rfl (hg:=fun e=>⟨e,e⟩)) (gcF1 rfl) rfl ?_
 refine TLc.p (gc:=(!(((((((decide (s1.Number<(1:Int)))||(decide (s1.Number>(1073741824:Int))))||(decide (s1.Data<(1:Int))))||(decide (s1.Parity<(1:Int))))||(decide (s1.Data>(14:Int))))||(decide (s1.Parity>(14:Int))))))) (p_gtr rfl rfl (hg:=fun e=>⟨e,rfl⟩)) (gcF1 rfl) rfl ?_
 refine P1 (p_or rfl rfl (fun e=>⟨rfl,fun h=>(not_t h)⟩)) rfl rfl (M rfl rfl ?_)
 refine TLc.p (gc:=(!((((((((decide (s1.Number<(1:Int)))||(decide (s1.Number>(1073741824:Int))))||(decide (s1.Data<(1:Int))))||(decide (s1.Parity<(1:Int))))||(decide (s1.Data>(14:Int))))||(decide (s1.Parity>(14:Int))))||(decide ((wr (s1.Data+s1.Parity))>(14:Int))))))) (p_faR fs38_4 Dc rfl (hg:=fun e=>rfl)) (gcF1 rfl) rfl ?_
 refine TLc.p (gc:=(!((((((((decide (s1.Number<(1:Int)))||(decide (s1.Number>(1073741824:Int))))||(decide (s1.Data<(1:Int))))||(decide (s1.Parity<(1:Int))))||(decide (s1.Data>(14:Int))))||(decide (s1.Parity>(14:Int))))||(decide ((wr (s1.Data+s1.Parity))>(14:Int))))))) (p_ldR (v:=Enc.v s1.Labels) ty36 rfl rfl rfl rfl rfl rfl (hg:=fun e=>e)) (gcF1 rfl) rfl ?_
 refine TLc.p (gc:=(!((((((((decide (s1.Number<(1:Int)))||(decide (s1.Number>(1073741824:Int))))||(decide (s1.Data<(1:Int))))||(decide (s1.Parity<(1:Int))))||(decide (s1.Data>(14:Int))))||(decide (s1.Parity>(14:Int))))||(decide ((wr (s1.Data+s1.Parity))>(14:Int))))))) (p_lenL (xs:=s1.Labels) kd36 rfl (hg:=fun e=>e)) (gcF1 rfl) rfl ?_
 refine TLc.p (gc:=(!((((((((decide (s1.Number<(1:Int)))||(decide (s1.Number>(1073741824:Int))))||(decide (s1.Data<(1:Int))))||(decide (s1.Parity<(1:Int))))||(decide (s1.Data>(14:Int))))||(decide (s1.Parity>(14:Int))))||(decide ((wr (s1.Data+s1.Parity))>(14:Int))))))) (p_faR fs38_2 Dc rfl (hg:=fun e=>rfl)) (gcF1 rfl) rfl ?_
 refine TLc.p (gc:=(!((((((((decide (s1.Number<(1:Int)))||(decide (s1.Number>(1073741824:Int))))||(decide (s1.Data<(1:Int))))||(decide (s1.Parity<(1:Int))))||(decide (s1.Data>(14:Int))))||(decide (s1.Parity>(14:Int))))||(decide ((wr (s1.Data+s1.Parity))>(14:Int))))))) (p_ldR (v:=Enc.v s1.Data) ty3 rfl rfl rfl rfl rfl rfl (hg:=fun e=>e)) (gcF1 rfl) rfl ?_
 refine TLc.p (gc:=(!((((((((decide (s1.Number<(1:Int)))||(decide (s1.Number>(1073741824:Int))))||(decide (s1.Data<(1:Int))))||(decide (s1.Parity<(1:Int))))||(decide (s1.Data>(14:Int))))||(decide (s1.Parity>(14:Int))))||(decide ((wr (s1.Data+s1.Parity))>(14:Int))))))) (p_faR fs38_3 Dc rfl (hg:=fun e=>rfl)) (gcF1 rfl) rfl ?_
 refine TLc.p (gc:=(!((((((((decide (s1.Number<(1:Int)))||(decide (s1.Number>(1073741824:Int))))||(decide (s1.Data<(1:Int))))||(decide (s1.Parity<(1:Int))))||(decide (s1.Data>(14:Int))))||(decide (s1.Parity>(14:Int))))||(decide ((wr (s1.Data+s1.Parity))>(14:Int))))))) (p_ldR (v:=Enc.v s1.Parity) ty3 rfl rfl rfl rfl rfl rfl (hg:=fun e=>e)) (gcF1 rfl) rfl ?_
 refine TLc.p (gc:=(!((((((((decide (s1.Number<(1:Int)))||(decide (s1.Number>(1073741824:Int))))||(decide (s1.Data<(1:Int))))||(decide (s1.Parity<(1:Int))))||(decide (s1.Data>(14:Int))))||(decide (s1.Parity>(14:Int))))||(decide ((wr (s1.Data+s1.Parity))>(14:Int))))))) (p_add rfl rfl (hg:=fun e=>⟨e,e⟩)) (gcF1 rfl) rfl ?_
 refine TLc.p (gc:=(!((((((((decide (s1.Number<(1:Int)))||(decide (s1.Number>(1073741824:Int))))||(decide (s1.Data<(1:Int))))||(decide (s1.Parity<(1:Int))))||(decide (s1.Data>(14:Int))))||(decide (s1.Parity>(14:Int))))||(decide ((wr (s1.Data+s1.Parity))>(14:Int))))))) (p_neq rfl rfl (hg:=fun e=>⟨e,e⟩)) (gcF1 rfl) rfl ?_
 refine P1 (p_or rfl rfl (fun e=>⟨rfl,fun h=>(not_t h)⟩)) rfl rfl (M rfl rfl ?_)
 refine TLc.p (gc:=(!(((((((((decide (s1.Number<(1:Int)))||(decide (s1.Number>(1073741824:Int))))||(decide (s1.Data<(1:Int))))||(decide (s1.Parity<(1:Int))))||(decide (s1.Data>(14:Int))))||(decide (s1.Parity>(14:Int))))||(decide ((wr (s1.Data+s1.Parity))>(14:Int))))||((s1.Labels.length:Int) !=(wr (s1.Data+s1.Parity))))))) (p_faR fs38_1 Dc rfl (hg:=fun e=>rfl)) (gcF1 rfl) rfl ?_
 refine TLc.p (gc:=(!(((((((((decide (s1.Number<(1:Int)))||(decide (s1.Number>(1073741824:Int))))||(decide (s1.Data<(1:Int))))||(decide (s1.Parity<(1:Int))))||(decide (s1.Data>(14:Int))))||(decide (s1.Parity>(14:Int))))||(decide ((wr (s1.Data+s1.Parity))>(14:Int))))||((s1.Labels.length:Int) !=(wr (s1.Data+s1.Parity))))))) (p_ldR (v:=Enc.v s1.Index) ty3 rfl rfl rfl rfl rfl rfl (hg:=fun e=>e)) (gcF1 rfl) rfl ?_
 refine TLc.p (gc:=(!(((((((((decide (s1.Number<(1:Int)))||(decide (s1.Number>(1073741824:Int))))||(decide (s1.Data<(1:Int))))||(decide (s1.Parity<(1:Int))))||(decide (s1.Data>(14:Int))))||(decide (s1.Parity>(14:Int))))||(decide ((wr (s1.Data+s1.Parity))>(14:Int))))||((s1.Labels.length:Int) !=(wr (s1.Data+s1.Parity))))))) (p_lss rfl rfl (hg:=fun e=>⟨e,rfl⟩)) (gcF1 rfl) rfl ?_
 refine P1 (p_or rfl rfl (fun e=>⟨rfl,fun h=>(not_t h)⟩)) rfl rfl (M rfl rfl ?_)
 refine TLc.p (gc:=(!((((((((((decide (s1.Number<(1:Int)))||(decide (s1.Number>(1073741824:Int))))||(decide (s1.Data<(1:Int))))||(decide (s1.Parity<(1:Int))))||(decide (s1.Data>(14:Int))))||(decide (s1.Parity>(14:Int))))||(decide ((wr (s1.Data+s1.Parity))>(14:Int))))||((s1.Labels.length:Int) !=(wr (s1.Data+s1.Parity))))||(decide (s1.Index<(0:Int))))))) (p_faR fs38_1 Dc rfl (hg:=fun e=>rfl)) (gcF1 rfl) rfl ?_
 refine TLc.p (gc:=(!((((((((((decide (s1.Number<(1:Int)))||(decide (s1.Number>(1073741824:Int))))||(decide (s1.Data<(1:Int))))||(decide (s1.Parity<(1:Int))))||(decide (s1.Data>(14:Int))))||(decide (s1.Parity>(14:Int))))||(decide ((wr (s1.Data+s1.Parity))>(14:Int))))||((s1.Labels.length:Int) !=(wr (s1.Data+s1.Parity))))||(decide (s1.Index<(0:Int))))))) (p_ldR (v:=Enc.v s1.Index) ty3 rfl rfl rfl rfl rfl rfl (hg:=fun e=>e)) (gcF1 rfl) rfl ?_
 refine TLc.p (gc:=(!((((((((((decide (s1.Number<(1:Int)))||(decide (s1.Number>(1073741824:Int))))||(decide (s1.Data<(1:Int))))||(decide (s1.Parity<(1:Int))))||(decide (s1.Data>(14:Int))))||(decide (s1.Parity>(14:Int))))||(decide ((wr (s1.Data+s1.Parity))>(14:Int))))||((s1.Labels.length:Int) !=(wr (s1.Data+s1.Parity))))||(decide (s1.Index<(0:Int))))))) (p_faR fs38_4 Dc rfl (hg:=fun e=>rfl)) (gcF1 rfl) rfl ?_
 refine TLc.p (gc:=(!((((((((((decide (s1.Number<(1:Int)))||(decide (s1.Number>(1073741824:Int))))||(decide (s1.Data<(1:Int))))||(decide (s1.Parity<(1:Int))))||(decide (s1.Data>(14:Int))))||(decide (s1.Parity>(14:Int))))||(decide ((wr (s1.Data+s1.Parity))>(14:Int))))||((s1.Labels.length:Int) !=(wr (s1.Data+s1.Parity))))||(decide (s1.Index<(0:Int))))))) (p_ldR (v:=Enc.v s1.Labels) ty36 rfl rfl rfl rfl rfl rfl (hg:=fun e=>e)) (gcF1 rfl) rfl ?_
 refine TLc.p (gc:=(!((((((((((decide (s1.Number<(1:Int)))||(decide (s1.Number>(1073741824:Int))))||(decide (s1.Data<(1:Int))))||(decide (s1.Parity<(1:Int))))||(decide (s1.Data>(14:Int))))||(decide (s1.Parity>(14:Int))))||(decide ((wr (s1.Data+s1.Parity))>(14:Int))))||((s1.Labels.length:Int) !=(wr (s1.Data+s1.Parity))))||(decide (s1.Index<(0:Int))))))) (p_lenL (xs:=s1.Labels) kd36 rfl (hg:=fun e=>e)) (gcF1 rfl) rfl ?_
 refine TLc.p (gc:=(!((((((((((decide (s1.Number<(1:Int)))||(decide (s1.Number>(1073741824:Int))))||(decide (s1.Data<(1:Int))))||(decide (s1.Parity<(1:Int))))||(decide (s1.Data>(14:Int))))||(decide (s1.Parity>(14:Int))))||(decide ((wr (s1.Data+s1.Parity))>(14:Int))))||((s1.Labels.length:Int) !=(wr (s1.Data+s1.Parity))))||(decide (s1.Index<(0:Int))))))) (p_geq rfl rfl (hg:=fun e=>⟨e,e⟩)) (gcF1 rfl) rfl ?_
 refine P1 (p_or rfl rfl (fun e=>⟨rfl,fun h=>(not_t h)⟩)) rfl rfl (TL.nil (hK4 _ _ ?_))
 refine TK.cond (b:=((((((((((decide (s1.Number<(1:Int)))||(decide (s1.Number>(1073741824:Int))))||(decide (s1.Data<(1:Int))))||(decide (s1.Parity<(1:Int))))||(decide (s1.Data>(14:Int))))||(decide (s1.Parity>(14:Int))))||(decide ((wr (s1.Data+s1.Parity))>(14:Int))))||((s1.Labels.length:Int) !=(wr (s1.Data+s1.Parity))))||(decide (s1.Index<(0:Int))))||(decide (s1.Index≥(s1.Labels.length:Int))))) rfl (fun hc=>?_) (fun hc=>?_)
 ·have hX:=ite_t hc hX
  refine SR fun K5 hK5=>M rfl rfl (TL.nil (hK5 _ _ ?_))
  refine TK.ret ?_
  try dsimp only[thenQ]
  exact R1 rfl hX
 ·have hX:=ite_f hc hX
  refine TK.skip ?_
  refine hK3 _ _ ?_
  refine TK.seq_k fun K6 hK6=>?_
  refine SR fun K7 hK7=>M rfl rfl (TL.nil (hK7 _ _ ?_))
  refine TK.block ?_
  obtain ⟨o8,hO8,hA8⟩:=bind_some hX
  have E8:∀(env:Env) (h:Hp),(∃_u:Unit,keepE [] env=[]∧Nd []∧HSub [] h)→X.cartridgeref10_RightSeal_e8=some r→K6 env h:=by
   intro env h hE hX
   obtain ⟨_u,henv,nd,hs⟩:=hE
   unfold X.cartridgeref10_RightSeal_e8 at hX
   refine hK6 _ _ (TK.keep [] ?_)
   rw[henv]
   refine TK.subH hs ?_
   refine SR fun K10 hK10=>M rfl rfl (TL.nil (hK10 _ _ ?_))
   refine TK.ret ?_
   try dsimp only[thenQ]
   exact R1 rfl hX
  refine TK.iter [1,3] (fun s env h=>match s with|i9=>∃_u:Unit,env=[(1,true,.vref (ofL [Enc.v s1.Number,Enc.v s1.Index,Enc.v s1.Data,Enc.v s1.Parity,Enc.v s1.Labels]) 5 0),(3,true,Enc.v i9)]∧Nd []∧HSub [] h) hO8 ⟨(),rfl,Nd_nil,HSub.refl _⟩ ?_
  rintro i9 env h x8x ⟨_u,rfl,nd,hs⟩ hX hR8
  refine TK.subH hs ?_
  unfold X.cartridgeref10_RightSeal_s8 at hX
  try dsimp only at hX
  refine TK.seq_k fun K11 hK11=>?_
  refine SR fun K12 hK12=>M rfl rfl (P1 (p_faR fs38_4 Dc rfl) rfl rfl (P1 (p_ldR (v:=Enc.v s1.Labels) ty36 rfl rfl rfl rfl rfl rfl) rfl rfl (P1 (p_lenL (xs:=s1.Labels) kd36 rfl) rfl rfl (P1 (p_lss rfl rfl) rfl rfl (TL.nil (hK12 _ _ ?_))))))
  refine TK.cond (b:=(decide (i9<(s1.Labels.length:Int)))) rfl (fun hc=>?_) (fun hc=>?_)
  ·have hX:=ite_t hc hX
   refine TK.skip ?_
   refine hK11 _ _ ?_
   refine TK.seq_k fun K13 hK13=>?_
   refine TK.block ?_
   refine TK.seq_k fun K14 hK14=>?_
   refine SR fun K15 hK15=>P1 (p_faR fs38_4 Dc rfl) rfl rfl (P1 (p_ldR (v:=Enc.v s1.Labels) ty36 rfl rfl rfl rfl rfl rfl) rfl rfl (M rfl rfl ?_))
   obtain ⟨e16,he16,hX⟩:=bind_some hX
   refine P1 (p_iaL (xs:=s1.Labels) kd36 ty3 rfl rfl rfl (fun _=>he16)) rfl rfl (P1 (p_ldE (xs:=s1.Labels) (a:=e16) (e16:Int) ty3 rfl rfl (fun _=>he16) rfl rfl rfl) rfl rfl (P1 (p_lss rfl rfl) rfl rfl (M rfl rfl ?_)))
   refine TLc.p (gc:=(!((decide (e16<(1:Int)))))) (p_faR fs38_4 Dc rfl (hg:=fun e=>rfl)) (gcF1 rfl) rfl ?_
   refine TLc.p (gc:=(!((decide (e16<(1:Int)))))) (p_ldR (v:=Enc.v s1.Labels) ty36 rfl rfl rfl rfl rfl rfl (hg:=fun e=>e)) (gcF1 rfl) rfl ?_
   refine TLc.p (gc:=(!((decide (e16<(1:Int)))))) (p_mv rfl (hg:=fun e=>rfl)) (gcF1 rfl) rfl ?_
   obtain ⟨e17,he17,hX⟩:=bind_some hX
   refine TLc.p (gc:=(!((decide (e16<(1:Int)))))) (p_iaL (xs:=s1.Labels) kd36 ty3 rfl rfl rfl (fun e=>optG_t he17 e) (hg:=fun e=>⟨e,e⟩)) (gcF1 rfl) rfl ?_
   refine TLc.p (gc:=(!((decide (e16<(1:Int)))))) (p_ldE (xs:=s1.Labels) (a:=e17) (e17:Int) ty3 rfl rfl (fun e=>optG_t he17 e) rfl rfl rfl (hg:=fun e=>e)) (gcF1 rfl) rfl ?_
   refine TLc.p (gc:=(!((decide (e16<(1:Int)))))) (p_gtr rfl rfl (hg:=fun e=>⟨e,rfl⟩)) (gcF1 rfl) rfl ?_
   refine P1 (p_or rfl rfl (fun e=>⟨rfl,fun h=>(not_t h)⟩)) rfl rfl (TL.nil (hK15 _ _ ?_))
   refine TK.cond (b:=((decide (e16<(1:Int)))||(decide (e17>(2147483647:Int))))) rfl (fun hc=>?_) (fun hc=>?_)
   ·have hX:=ite_t hc hX
    refine SR fun K18 hK18=>M rfl rfl (TL.nil (hK18 _ _ ?_))
    refine TK.ret ?_
    obtain rfl:=hR8 _ (some_in hX).symm
    replace hX:=hA8
    try dsimp only[thenQ]
    exact R1 rfl hX
   ·have hX:=ite_f hc hX
    refine TK.skip ?_
    refine hK14 _ _ (SR fun K19 hK19=>M rfl rfl (TL.nil (hK19 _ _ ?_)))
    refine TK.block ?_
    obtain ⟨o20,hO20,hA20⟩:=bind_some hX
    have E20:∀(env:Env) (h:Hp),(∃_u:Unit,keepE [1,3] env=[(1,true,.vref (ofL [Enc.v s1.Number,Enc.v s1.Index,Enc.v s1.Data,Enc.v s1.Parity,Enc.v s1.Labels]) 5 0),(3,true,Enc.v i9)]∧Nd []∧HSub [] h)→X.cartridgeref10_RightSeal_e20 i9=some x8x→K13 env h:=by
     intro env h hE hX
     obtain ⟨_u,henv,nd,hs⟩:=hE
     unfold X.cartridgeref10_RightSeal_e20 at hX
     refine hK13 _ _ (TK.keep [1,3] ?_)
     rw[henv]
     refine TK.subH hs ?_
     refine TK.reg ?_
     refine M rfl rfl (P1 (p_add rfl rfl) rfl rfl (M rfl rfl (TL.nil ?_)))
     exact ⟨_,(some_in hX).symm,(),rfl,Nd_nil,HSub.refl _⟩
    refine TK.iter [1,3,4] (fun s env h=>match s with|k21=>∃_u:Unit,env=[(1,true,.vref (ofL [Enc.v s1.Number,Enc.v s1.Index,Enc.v s1.Data,Enc.v s1.Parity,Enc.v s1.Labels]) 5 0),(3,true,Enc.v i9),(4,true,Enc.v k21)]∧Nd []∧HSub [] h) hO20 ⟨(),rfl,Nd_nil,HSub.refl _⟩ ?_
    rintro k21 env h x20x ⟨_u,rfl,nd,hs⟩ hX hR20
    refine TK.subH hs ?_
    unfold X.cartridgeref10_RightSeal_s20 at hX
    try dsimp only at hX
    refine TK.seq_k fun K22 hK22=>?_
    refine SR fun K23 hK23=>M rfl rfl (M rfl rfl (P1 (p_lss rfl rfl) rfl rfl (TL.nil (hK23 _ _ ?_))))
    refine TK.cond (b:=(decide (k21<i9))) rfl (fun hc=>?_) (fun hc=>?_)
    ·have hX:=ite_t hc hX
     refine TK.skip ?_
     refine hK22 _ _ ?_
     refine TK.seq_k fun K24 hK24=>?_
     refine TK.block ?_
     refine TK.seq_k fun K25 hK25=>?_
     have ndS:Nd []:=Nd.pick nd (is:=[]) Dc
     refine TK.drwX (h:=[]) (hS:=[]) [(0,0),(0,1),(0,2),(0,3),(0,4),(0,5),(0,6),(0,7),(0,8),(0,9),(0,10)] mixed (by kernel_rfl) (HSub_app nd) ?_
     refine D0 rfl (p_faR fs38_4 Dc rfl) rfl rfl ?_
     refine D0 rfl (p_ldR (v:=Enc.v s1.Labels) ty36 rfl rfl rfl rfl rfl rfl) rfl rfl ?_
     refine DM rfl rfl rfl ?_
     obtain ⟨e26,he26,hX⟩:=bind_some hX
     refine D0 rfl (p_iaL (xs:=s1.Labels) kd36 ty3 rfl rfl rfl (fun _=>he26)) rfl rfl ?_
     refine D0 rfl (p_ldE (xs:=s1.Labels) (a:=e26) (e26:Int) ty3 rfl rfl (fun _=>he26) rfl rfl rfl) rfl rfl ?_
     refine D0 rfl (p_faR fs38_4 Dc rfl) rfl rfl ?_
     refine D0 rfl (p_ldR (v:=Enc.v s1.Labels) ty36 rfl rfl rfl rfl rfl rfl) rfl rfl ?_
     refine DM rfl rfl rfl ?_
     obtain ⟨e27,he27,hX⟩:=bind_some hX
     refine D0 rfl (p_iaL (xs:=s1.Labels) kd36 ty3 rfl rfl rfl (fun _=>he27)) rfl rfl ?_
     refine D0 rfl (p_ldE (xs:=s1.Labels) (a:=e27) (e27:Int) ty3 rfl rfl (fun _=>he27) rfl rfl rfl) rfl rfl ?_
     refine D0 rfl (p_eql rfl rfl) rfl rfl ?_
     refine DRend ?_
     refine hK25 _ _ ?_
     refine TK.cond (b:=(e26==e27)) rfl (fun hc=>?_) (fun hc=>?_)
     ·have hX:=ite_t hc hX
      refine SR fun K28 hK28=>M rfl rfl (TL.nil (hK28 _ _ ?_))
      refine TK.ret ?_
      obtain rfl:=hR20 _ (some_in hX).symm
      replace hX:=hA20
      obtain rfl:=hR8 _ (some_in hX).symm
      replace hX:=hA8
      try dsimp only[thenQ]
      exact R1 rfl hX
     ·have hX:=ite_f hc hX
      refine TK.skip ?_
      refine hK24 _ _ ?_
      refine TK.reg ?_
      refine M rfl rfl (P1 (p_add rfl rfl) rfl rfl (M rfl rfl (TL.nil ?_)))
      exact ⟨_,(some_in hX).symm,(),rfl,Nd_nil,HSub.refl _⟩
    ·have hX:=ite_f hc hX
     refine TK.exit ?_
     obtain rfl:=hR20 _ (some_in hX).symm
     exact E20 _ _ ⟨(),rfl,Nd_nil,HSub.refl _⟩ hA20
  ·have hX:=ite_f hc hX
   refine TK.exit ?_
   obtain rfl:=hR8 _ (some_in hX).symm
   exact E8 _ _ ⟨(),rfl,Nd_nil,HSub.refl _⟩ hA8
theorem ok_cartridgeref10_SealBytes (s1:Seal_api) (r:(List UInt8)) (hX:X.cartridgeref10_SealBytes s1=some r):Fun Tryz.prog 28 [Enc.v (s1:Seal_api)] (·=Enc.v (r:(List UInt8))):=by
 refine Fun.of b28 (Nat.le_of_ble_eq_true rfl) (allVal.mem ⟨(by exact (v_val _)),trivial⟩) ?_
 unfold k28
 have nd:Nd []:=Nd_nil
 unfold X.cartridgeref10_SealBytes at hX
 refine SR fun K2 hK2=>?_
 refine TLc.boxV (lu:=[Enc.v s1.Number,Enc.v s1.Index,Enc.v s1.Data,Enc.v s1.Parity,Enc.v s1.Labels]) nd rfl (Cells_v (s1:Seal_api)) rfl ?_
 refine M rfl rfl (TL.nil (hK2 _ _ ?_))
 refine TK.seq_k fun K3 hK3=>?_
 refine SR fun K4 hK4=>P1 (p_ldRa (l':=Enc.cl (s1:Seal_api)) ty38 rfl rfl rfl rfl rfl (Nat.le_of_ble_eq_true rfl)) rfl rfl ?_
 obtain ⟨r5,hr5,hX⟩:=bind_some hX
 refine TL.cvX rfl rfl rfl (fun _=>⟨rfl,⟨rfl,trivial⟩⟩) (fun e=>ok_cartridgeref10_RightSeal s1 _ hr5) ?_
 refine P1 (p_not rfl) rfl rfl (TL.nil (hK4 _ _ ?_))
 refine TK.cond (b:=(!r5)) rfl (fun hc=>?_) (fun hc=>?_)
 ·have hX:=ite_t hc hX
  refine SR fun K6 hK6=>M rfl rfl (TL.nil (hK6 _ _ ?_))
  refine TK.wk 2 (L ([]:(List UInt8))) rfl Wk_nil ?_
  refine TK.ret ?_
  try dsimp only[thenQ]
  exact R1 rfl hX
 ·have hX:=ite_f hc hX
  refine TK.skip ?_
  refine hK3 _ _ (SR fun K7 hK7=>P1 (p_bld (l:=[.nils]) ty77 rfl all77 rfl (fun _=>trivial)) rfl rfl ?_)
  refine TLc.boxO (lu:=[.nils]) nd rfl (Cells_agg rfl (allA.mem ⟨trivial,trivial⟩)) rfl fun b8 nd=>?_
  refine M rfl rfl (TL.nil (hK7 _ _ ?_))
  refine TK.ownC (α:=UInt8) nd (j:=0) rfl 0 5 (.inl rfl) fun b9 nd=>?_
  refine SR fun K10 hK10=>M rfl rfl (P1 (p_faR fs38_0 Dc rfl) rfl rfl (P1 (p_ldR (v:=Enc.v s1.Number) ty3 rfl rfl rfl rfl rfl rfl) rfl rfl ?_))
  obtain ⟨r11,hr11,hX⟩:=bind_some hX
  refine TL.pick [1,0] nd Dc fun nd=>?_
  refine TL.tcX [(b8,RV 77 [OL (α:=UInt8) b9 ([]:List UInt8)]),(b9,RL (α:=UInt8) 5 ([]:List UInt8))] [] rfl nd (dlt rfl) rfl ⟨rfl,⟨rfl,⟨rfl,trivial⟩⟩⟩ (ok_cartridgeref1_Writer_Int s1.Number ([]:List UInt8) b8 b9 (Nd.take nd 2 rfl) _ hr11) ?_
  rintro _ _ hQ nd
  obtain ⟨b13,rfl,rfl⟩:=hQ
  refine TL.nil (hK10 _ _ (SR fun K14 hK14=>M rfl rfl (P1 (p_faR fs38_1 Dc rfl) rfl rfl (P1 (p_ldR (v:=Enc.v s1.Index) ty3 rfl rfl rfl rfl rfl rfl) rfl rfl (P1 (p_cvt src3 kd5 rfl (cv_u8 _)) rfl rfl ?_)))))
  obtain ⟨r15,hr15,hX⟩:=bind_some hX
  refine TL.tcX [(b8,RV 77 [OL b13 r11]),(b13,RL (α:=UInt8) 5 r11)] [] rfl nd (dlt rfl) rfl ⟨rfl,⟨rfl,⟨rfl,trivial⟩⟩⟩ (ok_cartridgeref1_Writer_Byte (u8 s1.Index) r11 b8 b13 (Nd.take nd 2 rfl) _ hr15) ?_
  rintro _ _ hQ nd
  obtain ⟨b17,rfl,rfl⟩:=hQ
  refine TL.nil (hK14 _ _ (SR fun K18 hK18=>M rfl rfl (P1 (p_faR fs38_2 Dc rfl) rfl rfl (P1 (p_ldR (v:=Enc.v s1.Data) ty3 rfl rfl rfl rfl rfl rfl) rfl rfl (P1 (p_cvt src3 kd5 rfl (cv_u8 _)) rfl rfl ?_)))))
  obtain ⟨r19,hr19,hX⟩:=bind_some hX
  refine TL.tcX [(b8,RV 77 [OL b17 r15]),(b17,RL (α:=UInt8) 5 r15)] [] rfl nd (dlt rfl) rfl ⟨rfl,⟨rfl,⟨rfl,trivial⟩⟩⟩ (ok_cartridgeref1_Writer_Byte (u8 s1.Data) r15 b8 b17 (Nd.take nd 2 rfl) _ hr19) ?_
  rintro _ _ hQ nd
  obtain ⟨b21,rfl,rfl⟩:=hQ
  refine TL.nil (hK18 _ _ (SR fun K22 hK22=>M rfl rfl (P1 (p_faR fs38_3 Dc rfl) rfl rfl (P1 (p_ldR (v:=Enc.v s1.Parity) ty3 rfl rfl rfl rfl rfl rfl) rfl rfl (P1 (p_cvt src3 kd5 rfl (cv_u8 _)) rfl rfl ?_)))))
  obtain ⟨r23,hr23,hX⟩:=bind_some hX
  refine TL.tcX [(b8,RV 77 [OL b21 r19]),(b21,RL (α:=UInt8) 5 r19)] [] rfl nd (dlt rfl) rfl ⟨rfl,⟨rfl,⟨rfl,trivial⟩⟩⟩ (ok_cartridgeref1_Writer_Byte (u8 s1.Parity) r19 b8 b21 (Nd.take nd 2 rfl) _ hr23) ?_
  rintro _ _ hQ nd
  obtain ⟨b25,rfl,rfl⟩:=hQ
  refine TL.nil (hK22 _ _ ?_)
  refine TK.seq_k fun K26 hK26=>?_
  refine SR fun K27 hK27=>M rfl rfl (TL.nil (hK27 _ _ ?_))
  refine TK.block ?_
  obtain ⟨o28,hO28,hA28⟩:=bind_some hX
  have E28:∀(l35:List UInt8) (env:Env) (h:Hp),(∃b34 b33,keepE [3] env=[(3,true,.ref b33 0 1)]∧Nd [(b34,RL (α:=UInt8) 5 l35),(b33,RV 77 [OL b34 l35])]∧HSub [(b34,RL (α:=UInt8) 5 l35),(b33,RV 77 [OL b34 l35])] h)→X.cartridgeref10_SealBytes_e28 l35=some r→K26 env h:=by
   intro l35 env h hE hX
   obtain ⟨b34,b33,henv,nd,hs⟩:=hE
   unfold X.cartridgeref10_SealBytes_e28 at hX
   refine hK26 _ _ (TK.keep [3] ?_)
   rw[henv]
   refine TK.subH hs ?_
   refine SR fun K36 hK36=>M rfl rfl (P1 (p_ncR rfl (fun _=>refOK_of nd (j:=1) rfl rfl)) rfl rfl (P1 (p_faV fs77_0 Dc rfl nd (j:=1) rfl rfl) rfl rfl (P1 (p_ldV (v:=OL b34 l35) ty42 rfl rfl nd (j:=1) rfl rfl rfl rfl rfl) rfl rfl (M rfl rfl (TL.nil (hK36 _ _ ?_))))))
   refine TK.layR (l2':=[Enc.v l35]) [(2,L l35)] nd (j:=0) rfl 1 rfl rfl ⟨fix_OL nd (j:=0) rfl,trivial⟩ ⟨⟨_,rfl,fix_OL nd (j:=0) rfl,rfl⟩,trivial⟩ fun nd=>?_
   refine TK.ret ?_
   try dsimp only[thenQ]
   exact R1 rfl hX
  refine TK.iter [1,3,4] (fun s env h=>match s with|(l31,i32)=>∃b30 b29,env=[(1,true,.vref (ofL [Enc.v s1.Number,Enc.v s1.Index,Enc.v s1.Data,Enc.v s1.Parity,Enc.v s1.Labels]) 5 0),(3,true,.ref b29 0 1),(4,true,Enc.v i32)]∧Nd [(b30,RL (α:=UInt8) 5 l31),(b29,RV 77 [OL b30 l31])]∧HSub [(b30,RL (α:=UInt8) 5 l31),(b29,RV 77 [OL b30 l31])] h) hO28 ⟨b25,b8,rfl,(Nd.pick nd (is:=[1,0]) Dc),(HSub.pick nd (is:=[1,0]) Dc)⟩ ?_
  rintro ⟨l31,i32⟩ env h x28x ⟨b30,b29,rfl,nd,hs⟩ hX hR28
  refine TK.subH hs ?_
  unfold X.cartridgeref10_SealBytes_s28 at hX
  try dsimp only at hX
  refine TK.seq_k fun K37 hK37=>?_
  refine SR fun K38 hK38=>M rfl rfl (P1 (p_faR fs38_4 Dc rfl) rfl rfl (P1 (p_ldR (v:=Enc.v s1.Labels) ty36 rfl rfl rfl rfl rfl rfl) rfl rfl (P1 (p_lenL (xs:=s1.Labels) kd36 rfl) rfl rfl (P1 (p_lss rfl rfl) rfl rfl (TL.nil (hK38 _ _ ?_))))))
  refine TK.cond (b:=(decide (i32<(s1.Labels.length:Int)))) rfl (fun hc=>?_) (fun hc=>?_)
  ·have hX:=ite_t hc hX
   refine TK.skip ?_
   refine hK37 _ _ ?_
   refine TK.seq_k fun K39 hK39=>?_
   refine TK.block ?_
   refine TK.reg ?_
   refine M rfl rfl (P1 (p_faR fs38_4 Dc rfl) rfl rfl (P1 (p_ldR (v:=Enc.v s1.Labels) ty36 rfl rfl rfl rfl rfl rfl) rfl rfl (M rfl rfl ?_)))
   obtain ⟨e40,he40,hX⟩:=bind_some hX
   refine P1 (p_iaL (xs:=s1.Labels) kd36 ty3 rfl rfl rfl (fun _=>he40)) rfl rfl (P1 (p_ldE (xs:=s1.Labels) (a:=e40) (e40:Int) ty3 rfl rfl (fun _=>he40) rfl rfl rfl) rfl rfl ?_)
   obtain ⟨r41,hr41,hX⟩:=bind_some hX
   refine TL.pick [1,0] nd Dc fun nd=>?_
   refine TL.tcX [(b29,RV 77 [OL b30 l31]),(b30,RL (α:=UInt8) 5 l31)] [] rfl nd (dlt rfl) rfl ⟨rfl,⟨rfl,⟨rfl,trivial⟩⟩⟩ (ok_cartridgeref1_Writer_Int e40 l31 b29 b30 (Nd.take nd 2 rfl) _ hr41) ?_
   rintro _ _ hQ nd
   obtain ⟨b43,rfl,rfl⟩:=hQ
   refine TL.nil (hK39 _ _ ?_)
   refine TK.reg ?_
   refine M rfl rfl (P1 (p_add rfl rfl) rfl rfl (M rfl rfl (TL.nil ?_)))
   exact ⟨_,(some_in hX).symm,b43,b29,rfl,(Nd.pick nd (is:=[1,0]) Dc),(HSub.pick nd (is:=[1,0]) Dc)⟩
  ·have hX:=ite_f hc hX
   refine TK.exit ?_
   obtain rfl:=hR28 _ (some_in hX).symm
   exact E28 l31 _ _ ⟨b30,b29,rfl,(Nd.pick nd (is:=[0,1]) Dc),(HSub.pick nd (is:=[0,1]) Dc)⟩ hA28
theorem bc_cartridgeref10_ReadSeal:BodyC cx 67 51 [.c 2 38,.t 3] k67:=⟨Enters.of Tryz.func67 (by kernel_rfl) (by kernel_rfl),_,_,Tryz.func67,rfl,by kernel_rfl,rfl,rfl⟩
theorem ok_cartridgeref10_ReadSeal (b1:(List UInt8)) (r:(Seal_api×Int)) (hX:X.cartridgeref10_ReadSeal b1=some r):Fun Tryz.prog 67 [Enc.v (b1:(List UInt8))] (·= .tup 2 (ofL [Enc.v r.1,Enc.v r.2])):=by
 refine Fun.ofC (C:=cx) bc_cartridgeref10_ReadSeal (Nat.le_of_ble_eq_true rfl) (allVal.mem ⟨(by exact (v_val _)),trivial⟩) ?_
 unfold k67
 have nd:Nd []:=Nd_nil
 unfold X.cartridgeref10_ReadSeal at hX
 refine SR fun K2 hK2=>?_
 refine TLc.alO (l:=[Enc.v ((0:Int):Int),Enc.v ((0:Int):Int),Enc.v ((0:Int):Int),Enc.v ((0:Int):Int),.nils]) nd ty38 ti38_z rfl rfl fun b3 nd=>?_
 refine M rfl rfl (TL.nil (hK2 _ _ ?_))
 refine TK.ownC (α:=Int) nd (j:=0) rfl 4 3 (.inl rfl) fun b4 nd=>?_
 refine SR fun K5 hK5=>M rfl rfl ?_
 obtain ⟨r6,hr6,hX⟩:=bind_some hX
 refine TL.tcX [] [(b4,RL (α:=Int) 3 ([]:List Int)),(b3,RV 38 [Enc.v ((0:Int):Int),Enc.v ((0:Int):Int),Enc.v ((0:Int):Int),Enc.v ((0:Int):Int),OL (α:=Int) b4 ([]:List Int)])] rfl nd (dlt rfl) rfl ⟨rfl,⟨rfl,trivial⟩⟩ (ok_cartridgeref1_NewReader b1 (Nd.take nd 0 rfl) _ hr6) ?_
 rintro _ _ hQ nd
 obtain ⟨b7,rfl,rfl⟩:=hQ
 refine M rfl rfl (TL.nil (hK5 _ _ (SR fun K8 hK8=>M rfl rfl ?_)))
 obtain ⟨r9,hr9,hX⟩:=bind_some hX
 refine TL.tcX [(b7,RV 151 [Enc.v r6.1,Enc.v r6.2])] [(b4,RL (α:=Int) 3 ([]:List Int)),(b3,RV 38 [Enc.v ((0:Int):Int),Enc.v ((0:Int):Int),Enc.v ((0:Int):Int),Enc.v ((0:Int):Int),OL (α:=Int) b4 ([]:List Int)])] rfl nd (dlt rfl) rfl ⟨rfl,⟨rfl,trivial⟩⟩ (ok_cartridgeref1_Reader_Int r6.1 r6.2 b7 (Nd.take nd 1 rfl) _ hr9) ?_
 rintro _ _ hQ nd
 obtain ⟨rfl,rfl⟩:=hQ
 refine M rfl rfl ?_
 obtain ⟨r11,hr11,hX⟩:=bind_some hX
 refine TL.tcX [(b7,RV 151 [Enc.v r9.2.1,Enc.v r9.2.2])] [(b4,RL (α:=Int) 3 ([]:List Int)),(b3,RV 38 [Enc.v ((0:Int):Int),Enc.v ((0:Int):Int),Enc.v ((0:Int):Int),Enc.v ((0:Int):Int),OL (α:=Int) b4 ([]:List Int)])] rfl nd (dlt rfl) rfl ⟨rfl,⟨rfl,trivial⟩⟩ (ok_cartridgeref1_Reader_Byte r9.2.1 r9.2.2 b7 (Nd.take nd 1 rfl) _ hr11) ?_
 rintro _ _ hQ nd
 obtain ⟨rfl,rfl⟩:=hQ
 refine P1 (p_cvt src5 kd3 rfl (cv_8 r11.1)) rfl rfl (M rfl rfl ?_)
 obtain ⟨r13,hr13,hX⟩:=bind_some hX
 refine TL.tcX [(b7,RV 151 [Enc.v r11.2.1,Enc.v r11.2.2])] [(b4,RL (α:=Int) 3 ([]:List Int)),(b3,RV 38 [Enc.v ((0:Int):Int),Enc.v ((0:Int):Int),Enc.v ((0:Int):Int),Enc.v ((0:Int):Int),OL (α:=Int) b4 ([]:List Int)])] rfl nd (dlt rfl) rfl ⟨rfl,⟨rfl,trivial⟩⟩ (ok_cartridgeref1_Reader_Byte r11.2.1 r11.2.2 b7 (Nd.take nd 1 rfl) _ hr13) ?_
 rintro _ _ hQ nd
 obtain ⟨rfl,rfl⟩:=hQ
 refine P1 (p_cvt src5 kd3 rfl (cv_8 r13.1)) rfl rfl (M rfl rfl ?_)
 obtain ⟨r15,hr15,hX⟩:=bind_some hX
 refine TL.tcX [(b7,RV 151 [Enc.v r13.2.1,Enc.v r13.2.2])] [(b4,RL (α:=Int) 3 ([]:List Int)),(b3,RV 38 [Enc.v ((0:Int):Int),Enc.v ((0:Int):Int),Enc.v ((0:Int):Int),Enc.v ((0:Int):Int),OL (α:=Int) b4 ([]:List Int)])] rfl nd (dlt rfl) rfl ⟨rfl,⟨rfl,trivial⟩⟩ (ok_cartridgeref1_Reader_Byte r13.2.1 r13.2.2 b7 (Nd.take nd 1 rfl) _ hr15) ?_
 rintro _ _ hQ nd
 obtain ⟨rfl,rfl⟩:=hQ
 refine P1 (p_cvt src5 kd3 rfl (cv_8 r15.1)) rfl rfl (P1 (p_bld (l:=[Enc.v r9.1,Enc.v ((r11.1.toNat:Int):Int),Enc.v ((r13.1.toNat:Int):Int),Enc.v ((r15.1.toNat:Int):Int),.nils]) ty38 rfl all38 rfl (fun _=>⟨⟨rfl,trivial,rfl⟩,⟨rfl,trivial,rfl⟩,⟨rfl,trivial,rfl⟩,⟨rfl,trivial,rfl⟩,trivial⟩)) rfl rfl ?_)
 refine TLc.alO (l:=[Enc.v ((0:Int):Int),Enc.v ((0:Int):Int),Enc.v ((0:Int):Int),Enc.v ((0:Int):Int),.nils]) nd ty38 ti38_z rfl rfl fun b17 nd=>?_
 refine TLc.stV (lu:=[Enc.v r9.1,Enc.v ((r11.1.toNat:Int):Int),Enc.v ((r13.1.toNat:Int):Int),Enc.v ((r15.1.toNat:Int):Int),.nils]) nd ty38 rfl (j:=0) rfl rfl rfl (Cells_agg rfl (allA.mem ⟨trivial,trivial,trivial,trivial,trivial,trivial⟩)) rfl rfl [Enc.v r9.1,Enc.v ((r11.1.toNat:Int):Int),Enc.v ((r13.1.toNat:Int):Int),Enc.v ((r15.1.toNat:Int):Int),.nils] rfl fun nd=>?_
 refine TL.nil (hK8 _ _ ?_)
 refine TK.ownC (α:=Int) nd (j:=0) rfl 4 3 (.inl rfl) fun b18 nd=>?_
 refine TK.seq_k fun K19 hK19=>?_
 refine TK.block ?_
 obtain ⟨o20,hO20,hA20⟩:=bind_some hX
 have E20:∀(c36:Int) (c37:Int) (c38:Int) (c39:Int) (l41:List Int) (env:Env) (h:Hp),(∃b34 b33 b40 b35,keepE [0,2,5] env=[(0,true,Enc.v b1),(2,true,.ref b33 0 5),(5,true,.ref b35 0 5)]∧Nd [(b34,RL (α:=Int) 3 ([]:List Int)),(b33,RV 38 [Enc.v ((0:Int):Int),Enc.v ((0:Int):Int),Enc.v ((0:Int):Int),Enc.v ((0:Int):Int),OL (α:=Int) b34 ([]:List Int)]),(b40,RL (α:=Int) 3 l41),(b35,RV 38 [Enc.v c36,Enc.v c37,Enc.v c38,Enc.v c39,OL b40 l41])]∧HSub [(b34,RL (α:=Int) 3 ([]:List Int)),(b33,RV 38 [Enc.v ((0:Int):Int),Enc.v ((0:Int):Int),Enc.v ((0:Int):Int),Enc.v ((0:Int):Int),OL (α:=Int) b34 ([]:List Int)]),(b40,RL (α:=Int) 3 l41),(b35,RV 38 [Enc.v c36,Enc.v c37,Enc.v c38,Enc.v c39,OL b40 l41])] h)→X.cartridgeref10_ReadSeal_e20 b1 c36 c37 c38 c39 l41=some r→K19 env h:=by
  intro c36 c37 c38 c39 l41 env h hE hX
  obtain ⟨b34,b33,b40,b35,henv,nd,hs⟩:=hE
  unfold X.cartridgeref10_ReadSeal_e20 at hX
  refine hK19 _ _ (TK.keep [0,2,5] ?_)
  rw[henv]
  refine TK.subH hs ?_
  refine SR fun K42 hK42=>?_
  refine TL.layR (l2':=[Enc.v c36,Enc.v c37,Enc.v c38,Enc.v c39,Enc.v l41]) [] nd (j:=2) rfl 3 rfl rfl ⟨fix_id _,fix_id _,fix_id _,fix_id _,fix_OL nd (j:=2) rfl,trivial⟩ trivial fun nd=>?_
  refine P1 (p_ldVa (l':=Enc.cl ((Seal_api.mk c36 c37 c38 c39 l41):Seal_api)) ty38 rfl rfl nd (j:=2) rfl rfl rfl rfl (Nat.le_of_ble_eq_true rfl)) rfl rfl ?_
  obtain ⟨r43,hr43,hX⟩:=bind_some hX
  refine TL.cvX rfl rfl rfl (fun _=>⟨rfl,⟨rfl,trivial⟩⟩) (fun e=>ok_cartridgeref10_SealBytes (Seal_api.mk c36 c37 c38 c39 l41) _ hr43) ?_
  refine M rfl rfl (TL.nil (hK42 _ _ ?_))
  refine TK.seq_k fun K44 hK44=>?_
  refine SR fun K45 hK45=>M rfl rfl (P1 (p_lenL (xs:=r43) kd42 rfl) rfl rfl (P1 (p_eql rfl rfl) rfl rfl (M rfl rfl ?_)))
  refine TLc.p (gc:=(!(((r43.length:Int)==(0:Int))))) (p_mv rfl (hg:=fun e=>rfl)) (gcF1 rfl) rfl ?_
  refine TL.ofV (gc:=(!(((r43.length:Int)==(0:Int))))) (vok_cvtBS (C:=cx) (gc:=(!(((r43.length:Int)==(0:Int))))) (xs:=r43) kd42 kd5 kd9 rfl (look_v (v:=Enc.v r43) (v_val _)) (hg:=fun e=>e)) (gcF1 rfl) rfl ?_
  refine TLc.p (gc:=(!(((r43.length:Int)==(0:Int))))) (p_mv rfl (hg:=fun e=>rfl)) (gcF1 rfl) rfl ?_
  refine TL.ofV (gc:=(!(((r43.length:Int)==(0:Int))))) (vok_cvtBS (C:=cx) (gc:=(!(((r43.length:Int)==(0:Int))))) (xs:=b1) kd42 kd5 kd9 rfl (look_v (v:=Enc.v b1) (v_val _)) (hg:=fun e=>e)) (gcF1 rfl) rfl ?_
  refine TLc.p (gc:=(!(((r43.length:Int)==(0:Int))))) (ps_neq (s:=(Str.mk r43)) (r:=(Str.mk b1)) rfl rfl (hg:=fun e=>⟨e,e⟩)) (gcF1 rfl) rfl ?_
  refine P1 (p_or rfl rfl (fun e=>⟨rfl,fun h=>(not_t h)⟩)) rfl rfl (TL.nil (hK45 _ _ ?_))
  refine TK.cond (b:=(((r43.length:Int)==(0:Int))||(!((Str.mk r43).l==(Str.mk b1).l)))) rfl (fun hc=>?_) (fun hc=>?_)
  ·have hX:=ite_t hc hX
   refine SR fun K46 hK46=>P1 (p_bld (l:=[Enc.v ((0:Int):Int),Enc.v ((0:Int):Int),Enc.v ((0:Int):Int),Enc.v ((0:Int):Int),.nils]) ty38 rfl all38 rfl (fun _=>trivial)) rfl rfl ?_
   refine TLc.stV (lu:=[Enc.v ((0:Int):Int),Enc.v ((0:Int):Int),Enc.v ((0:Int):Int),Enc.v ((0:Int):Int),.nils]) nd ty38 rfl (j:=1) rfl rfl rfl (Cells_agg rfl (allA.mem ⟨trivial,trivial,trivial,trivial,trivial,trivial⟩)) rfl rfl [Enc.v ((0:Int):Int),Enc.v ((0:Int):Int),Enc.v ((0:Int):Int),Enc.v ((0:Int):Int),.nils] rfl fun nd=>?_
   refine M rfl rfl (TL.nil (hK46 _ _ ?_))
   refine TK.ownC (α:=Int) nd (j:=1) rfl 4 3 (.inl rfl) fun b47 nd=>?_
   refine TK.layR (l2':=[Enc.v ((0:Int):Int),Enc.v ((0:Int):Int),Enc.v ((0:Int):Int),Enc.v ((0:Int):Int),Enc.v (([]:List Int):(List Int))]) [] nd (j:=0) rfl 2 rfl rfl ⟨fix_id _,fix_id _,fix_id _,fix_id _,fix_OL nd (j:=0) rfl,trivial⟩ trivial fun nd=>?_
   refine TK.ret ?_
   try dsimp only[thenQ]
   exact retC [Enc.v ((Seal_api.mk (0:Int) (0:Int) (0:Int) (0:Int) ([]:List Int)):Seal_api),Enc.v ((2:Int):Int)] ⟨p_ldVa (l':=Enc.cl ((Seal_api.mk (0:Int) (0:Int) (0:Int) (0:Int) ([]:List Int)):Seal_api)) ty38 rfl rfl nd (j:=1) rfl rfl rfl rfl (Nat.le_of_ble_eq_true rfl),p_mv rfl,trivial⟩ (by obtain rfl:=some_in hX;rfl) (tup_val (allVal.mem ⟨v_val _,v_val _,trivial⟩))
  ·have hX:=ite_f hc hX
   refine TK.skip ?_
   refine hK44 _ _ (SR fun K48 hK48=>P1 (p_ldVa (l':=Enc.cl ((Seal_api.mk c36 c37 c38 c39 l41):Seal_api)) ty38 rfl rfl nd (j:=2) rfl rfl rfl rfl (Nat.le_of_ble_eq_true rfl)) rfl rfl ?_)
   refine TLc.stV (lu:=Enc.cl ((Seal_api.mk c36 c37 c38 c39 l41):Seal_api)) nd ty38 rfl (j:=1) rfl rfl rfl (Cells_v ((Seal_api.mk c36 c37 c38 c39 l41):Seal_api)) rfl rfl [Enc.v ((Seal_api.mk c36 c37 c38 c39 l41).Number:Int),Enc.v ((Seal_api.mk c36 c37 c38 c39 l41).Index:Int),Enc.v ((Seal_api.mk c36 c37 c38 c39 l41).Data:Int),Enc.v ((Seal_api.mk c36 c37 c38 c39 l41).Parity:Int),Enc.v ((Seal_api.mk c36 c37 c38 c39 l41).Labels:(List Int))] rfl fun nd=>?_
   refine M rfl rfl (TL.nil (hK48 _ _ ?_))
   refine TK.ret ?_
   try dsimp only[thenQ]
   exact retC [Enc.v ((Seal_api.mk c36 c37 c38 c39 l41):Seal_api),Enc.v ((0:Int):Int)] ⟨p_ldVa (l':=Enc.cl ((Seal_api.mk c36 c37 c38 c39 l41):Seal_api)) ty38 rfl rfl nd (j:=1) rfl rfl rfl rfl (Nat.le_of_ble_eq_true rfl),p_mv rfl,trivial⟩ (by obtain rfl:=some_in hX;rfl) (tup_val (allVal.mem ⟨v_val _,v_val _,trivial⟩))
 refine TK.iter [0,2,4,5] (fun s env h=>match s with|(c24,c25,c27,c28,c29,c30,l32)=>∃b22 b21 b23 b31 b26,env=[(0,true,Enc.v b1),(2,true,.ref b21 0 5),(4,true,.ref b23 0 2),(5,true,.ref b26 0 5)]∧Nd [(b22,RL (α:=Int) 3 ([]:List Int)),(b21,RV 38 [Enc.v ((0:Int):Int),Enc.v ((0:Int):Int),Enc.v ((0:Int):Int),Enc.v ((0:Int):Int),OL (α:=Int) b22 ([]:List Int)]),(b23,RV 151 [Enc.v c24,Enc.v c25]),(b31,RL (α:=Int) 3 l32),(b26,RV 38 [Enc.v c27,Enc.v c28,Enc.v c29,Enc.v c30,OL b31 l32])]∧HSub [(b22,RL (α:=Int) 3 ([]:List Int)),(b21,RV 38 [Enc.v ((0:Int):Int),Enc.v ((0:Int):Int),Enc.v ((0:Int):Int),Enc.v ((0:Int):Int),OL (α:=Int) b22 ([]:List Int)]),(b23,RV 151 [Enc.v c24,Enc.v c25]),(b31,RL (α:=Int) 3 l32),(b26,RV 38 [Enc.v c27,Enc.v c28,Enc.v c29,Enc.v c30,OL b31 l32])] h) hO20 ⟨b4,b3,b7,b18,b17,rfl,(Nd.pick nd (is:=[3,4,2,0,1]) Dc),(HSub.pick nd (is:=[3,4,2,0,1]) Dc)⟩ ?_
 rintro ⟨c24,c25,c27,c28,c29,c30,l32⟩ env h x20x ⟨b22,b21,b23,b31,b26,rfl,nd,hs⟩ hX hR20
 refine TK.subH hs ?_
 unfold X.cartridgeref10_ReadSeal_s20 at hX
 try dsimp only at hX
 refine TK.seq_k fun K49 hK49=>?_
 refine SR fun K50 hK50=>M rfl rfl ?_
 obtain ⟨r51,hr51,hX⟩:=bind_some hX
 refine TL.lookX [.vref (ofL [Enc.v c24,Enc.v c25]) 2 0] rfl rfl rfl (fun _=>⟨rfl,⟨rfl,trivial⟩⟩) ⟨look_ref (l:=[Enc.v c24,Enc.v c25]) nd (j:=2) rfl ⟨look_v (v:=Enc.v c24) (v_val _),look_v (v:=Enc.v c25) (v_val _),trivial⟩,trivial⟩ (fun e=>ok_cartridgeref1_Reader_Left c24 c25 _ hr51) (trivial) ?_
 refine P1 (p_geq rfl rfl) rfl rfl (M rfl rfl ?_)
 refine TLc.p (gc:=((decide (r51≥(4:Int))))) (p_faV fs38_4 Dc rfl nd (j:=4) rfl rfl (hg:=fun e=>rfl)) (gcT1 rfl) rfl ?_
 refine TLc.p (gc:=((decide (r51≥(4:Int))))) (p_ldV (v:=OL b31 l32) ty36 rfl rfl nd (j:=4) rfl rfl rfl rfl rfl (hg:=fun e=>e)) (gcT1 rfl) rfl ?_
 refine TLc.p (gc:=((decide (r51≥(4:Int))))) (p_lenR kd36 rfl (fun _=>refOK_of nd (j:=3) rfl rfl) (hg:=fun e=>e)) (gcT1 rfl) rfl ?_
 refine TLc.p (gc:=((decide (r51≥(4:Int))))) (p_lss rfl rfl (hg:=fun e=>⟨e,rfl⟩)) (gcT1 rfl) rfl ?_
 refine P1 (p_and rfl rfl (fun e=>⟨rfl,fun h=>h⟩)) rfl rfl (TL.nil (hK50 _ _ ?_))
 refine TK.cond (b:=((decide (r51≥(4:Int)))&&(decide ((l32.length:Int)<(14:Int))))) rfl (fun hc=>?_) (fun hc=>?_)
 ·have hX:=ite_t hc hX
  refine TK.skip ?_
  refine hK49 _ _ ?_
  refine TK.block ?_
  refine TK.pick [2,3,0,1,4] nd Dc fun nd=>?_
  have ndS:Nd [(b22,RL (α:=Int) 3 ([]:List Int)),(b21,RV 38 [Enc.v ((0:Int):Int),Enc.v ((0:Int):Int),Enc.v ((0:Int):Int),Enc.v ((0:Int):Int),OL (α:=Int) b22 ([]:List Int)]),(b26,RV 38 [Enc.v c27,Enc.v c28,Enc.v c29,Enc.v c30,OL b31 l32])]:=Nd.pick nd (is:=[2,3,4]) Dc
  refine TK.drwX (h:=[(b23,RV 151 [Enc.v c24,Enc.v c25]),(b31,RL (α:=Int) 3 l32)]) (hS:=[(b22,RL (α:=Int) 3 ([]:List Int)),(b21,RV 38 [Enc.v ((0:Int):Int),Enc.v ((0:Int):Int),Enc.v ((0:Int):Int),Enc.v ((0:Int):Int),OL (α:=Int) b22 ([]:List Int)]),(b26,RV 38 [Enc.v c27,Enc.v c28,Enc.v c29,Enc.v c30,OL b31 l32])]) [(0,0),(0,1),(0,2),(2,3),(0,4),(2,5),(0,6),(3,7)] mixed (by kernel_rfl) (HSub_app nd) ?_
  refine D0 rfl (p_faV fs38_4 Dc rfl ndS (j:=2) rfl rfl) rfl rfl ?_
  refine D0 rfl (p_ldV (v:=OL b31 l32) ty36 rfl rfl ndS (j:=2) rfl rfl rfl rfl rfl) rfl rfl ?_
  refine DM rfl rfl rfl ?_
  obtain ⟨r52,hr52,hX⟩:=bind_some hX
  refine DR2 rfl rfl ?_
  refine TL.tcX [(b23,RV 151 [Enc.v c24,Enc.v c25])] [(b31,RL (α:=Int) 3 l32),(b22,RL (α:=Int) 3 ([]:List Int)),(b21,RV 38 [Enc.v ((0:Int):Int),Enc.v ((0:Int):Int),Enc.v ((0:Int):Int),Enc.v ((0:Int):Int),OL (α:=Int) b22 ([]:List Int)]),(b26,RV 38 [Enc.v c27,Enc.v c28,Enc.v c29,Enc.v c30,OL b31 l32])] rfl nd (dlt rfl) rfl ⟨rfl,⟨rfl,trivial⟩⟩ (ok_cartridgeref1_Reader_Int c24 c25 b23 (Nd.take nd 1 rfl) _ hr52) ?_
  rintro _ _ hQ nd
  obtain ⟨rfl,rfl⟩:=hQ
  refine TL.nil ⟨_,[(b23,RV 151 [Enc.v r52.2.1,Enc.v r52.2.2]),(b31,RL (α:=Int) 3 l32)],rfl,rfl,HSub_app nd,?_⟩
  refine DR0 (gc:=true) rfl (vok_lit (C:=cx) ([r52.1]:List Int) kd36 ty3 rfl ⟨⟨rfl,rfl⟩,trivial⟩ rfl rfl) rfl rfl ?_
  obtain ⟨u54,hu54,hX⟩:=bind_some hX
  refine DR2 rfl rfl ?_
  refine TLc.appO nd kd36 bo36 ty3 rfl rfl (j:=1) rfl rfl (Src_L _) Dc (need_t hu54) rfl fun nd=>?_
  refine TL.nil ⟨_,[(b23,RV 151 [Enc.v r52.2.1,Enc.v r52.2.2]),(b31,RL (α:=Int) 3 (l32++([r52.1]:List Int)))],rfl,rfl,HSub_app nd,?_⟩
  refine D0 rfl (p_faV fs38_4 Dc rfl ndS (j:=2) rfl rfl) rfl rfl ?_
  refine DR3n rfl ?_
  refine TLc.stV (lu:=[OL (α:=Int) b31 (l32++([r52.1]:List Int))]) nd ty36 rfl (j:=4) rfl rfl rfl (Cells_rs (refOK_of nd (j:=1) rfl rfl)) rfl rfl [Enc.v c27,Enc.v c28,Enc.v c29,Enc.v c30,OL (α:=Int) b31 (l32++([r52.1]:List Int))] rfl fun nd=>?_
  refine TL.nil ⟨rfl,?_⟩
  refine DRende ?_
  exact ⟨_,(some_in hX).symm,b22,b21,b23,b31,b26,rfl,(Nd.pick nd (is:=[2,3,0,1,4]) Dc),(HSub.pick nd (is:=[2,3,0,1,4]) Dc)⟩
 ·have hX:=ite_f hc hX
  refine TK.exit ?_
  obtain rfl:=hR20 _ (some_in hX).symm
  exact E20 c27 c28 c29 c30 l32 _ _ ⟨b22,b21,b31,b26,rfl,(Nd.pick nd (is:=[0,1,3,4]) Dc),(HSub.pick nd (is:=[0,1,3,4]) Dc)⟩ hA20
theorem bc_cartridgeref10_Sealed:BodyC cx 36 34 [.c 2 38,.t 3] k36:=⟨Enters.of Tryz.func36 (by kernel_rfl) (by kernel_rfl),_,_,Tryz.func36,rfl,by kernel_rfl,rfl,rfl⟩
theorem ok_cartridgeref10_Sealed (t1:Tape_api) (r:(Seal_api×Bool)) (hX:X.cartridgeref10_Sealed t1=some r):Fun Tryz.prog 36 [Enc.v (t1:Tape_api)] (·= .tup 2 (ofL [Enc.v r.1,Enc.v r.2])):=by
 refine Fun.ofC (C:=cx) bc_cartridgeref10_Sealed (Nat.le_of_ble_eq_true rfl) (allVal.mem ⟨(by exact (v_val _)),trivial⟩) ?_
 unfold k36
 have nd:Nd []:=Nd_nil
 unfold X.cartridgeref10_Sealed at hX
 refine SR fun K2 hK2=>?_
 refine TLc.boxV (lu:=[Enc.v t1.Label,Enc.v t1.Cap,Enc.v t1.Blocks,Enc.v t1.Lost]) nd rfl (Cells_v (t1:Tape_api)) rfl ?_
 refine TLc.alO (l:=[Enc.v ((0:Int):Int),Enc.v ((0:Int):Int),Enc.v ((0:Int):Int),Enc.v ((0:Int):Int),.nils]) nd ty38 ti38_z rfl rfl fun b3 nd=>?_
 refine M rfl rfl (TL.nil (hK2 _ _ ?_))
 refine TK.cvR nd (j:=0) rfl (l':=[Enc.v ((0:Int):Int),Enc.v ((0:Int):Int),Enc.v ((0:Int):Int),Enc.v ((0:Int):Int),Enc.v (([]:(List Int)):(List Int))]) ⟨Wk.refl _,Wk.refl _,Wk.refl _,Wk.refl _,Wk_nil,trivial⟩ fun nd=>?_
 refine SR fun K4 hK4=>P1 (p_ldRa (l':=Enc.cl (t1:Tape_api)) ty49 rfl rfl rfl rfl rfl (Nat.le_of_ble_eq_true rfl)) rfl rfl (P1 (p_faR fs49_2 Dc rfl) rfl rfl (P1 (p_ldR (v:=Enc.v t1.Blocks) ty47 rfl rfl rfl rfl rfl rfl) rfl rfl (P1 (p_lenL (xs:=t1.Blocks) kd47 rfl) rfl rfl (P1 (p_sub rfl rfl) rfl rfl ?_))))
 obtain ⟨r5,hr5,hX⟩:=bind_some hX
 refine TL.cvX rfl rfl rfl (fun _=>⟨rfl,⟨rfl,⟨rfl,trivial⟩⟩⟩) (fun e=>ok_cartridgeref10_Good t1 (wr ((t1.Blocks.length:Int)-(1:Int))) _ hr5) ?_
 refine M rfl rfl (P1 (p_ex rfl rfl Dc) rfl rfl (P1 (p_ex rfl rfl Dc) rfl rfl ?_))
 refine TLc.alO (l:=[Enc.v ((0:Int):Int),Enc.v ((0:Int):Int),Enc.v ((0:Int):Int),.nils]) nd ty46 ti46_z rfl rfl fun b6 nd=>?_
 refine TLc.stV (lu:=Enc.cl (r5.1:Unit_api)) nd ty46 rfl (j:=0) rfl rfl rfl (Cells_v (r5.1:Unit_api)) rfl rfl [Enc.v r5.1.Kind,Enc.v r5.1.Label,Enc.v r5.1.Number,Enc.v r5.1.Load] rfl fun nd=>?_
 refine M rfl rfl (TL.nil (hK4 _ _ ?_))
 refine TK.seq_k fun K7 hK7=>?_
 refine SR fun K8 hK8=>M rfl rfl (P1 (p_not rfl) rfl rfl (M rfl rfl ?_))
 refine TLc.p (gc:=(!((!r5.2)))) (p_faV fs46_0 Dc rfl nd (j:=0) rfl rfl (hg:=fun e=>rfl)) (gcF1 rfl) rfl ?_
 refine TLc.p (gc:=(!((!r5.2)))) (p_ldV (v:=Enc.v r5.1.Kind) ty3 rfl rfl nd (j:=0) rfl rfl rfl rfl rfl (hg:=fun e=>e)) (gcF1 rfl) rfl ?_
 refine TLc.p (gc:=(!((!r5.2)))) (p_neq rfl rfl (hg:=fun e=>⟨e,rfl⟩)) (gcF1 rfl) rfl ?_
 refine P1 (p_or rfl rfl (fun e=>⟨rfl,fun h=>(not_t h)⟩)) rfl rfl (TL.nil (hK8 _ _ ?_))
 refine TK.cond (b:=((!r5.2)||(r5.1.Kind !=(5:Int)))) rfl (fun hc=>?_) (fun hc=>?_)
 ·have hX:=ite_t hc hX
  refine SR fun K9 hK9=>?_
  refine TLc.p (gc:=true) (p_bld (l:=[Enc.v ((0:Int):Int),Enc.v ((0:Int):Int),Enc.v ((0:Int):Int),Enc.v ((0:Int):Int),.nils]) ty38 rfl all38 rfl (fun _=>trivial)) rfl rfl (TL.wk (v':=Enc.v ((Seal_api.mk (0:Int) (0:Int) (0:Int) (0:Int) ([]:(List Int))):Seal_api)) (Wk_agg ⟨Wk.refl _,Wk.refl _,Wk.refl _,Wk.refl _,Wk_nil,trivial⟩) ?_)
  refine TLc.stV (lu:=Enc.cl ((Seal_api.mk (0:Int) (0:Int) (0:Int) (0:Int) ([]:(List Int))):Seal_api)) nd ty38 rfl (j:=1) rfl rfl rfl (Cells_v ((Seal_api.mk (0:Int) (0:Int) (0:Int) (0:Int) ([]:(List Int))):Seal_api)) rfl rfl [Enc.v ((Seal_api.mk (0:Int) (0:Int) (0:Int) (0:Int) ([]:(List Int))).Number:Int),Enc.v ((Seal_api.mk (0:Int) (0:Int) (0:Int) (0:Int) ([]:(List Int))).Index:Int),Enc.v ((Seal_api.mk (0:Int) (0:Int) (0:Int) (0:Int) ([]:(List Int))).Data:Int),Enc.v ((Seal_api.mk (0:Int) (0:Int) (0:Int) (0:Int) ([]:(List Int))).Parity:Int),Enc.v ((Seal_api.mk (0:Int) (0:Int) (0:Int) (0:Int) ([]:(List Int))).Labels:(List Int))] rfl fun nd=>?_
  refine M rfl rfl (TL.nil (hK9 _ _ ?_))
  refine TK.ret ?_
  try dsimp only[thenQ]
  exact retC [Enc.v ((Seal_api.mk (0:Int) (0:Int) (0:Int) (0:Int) ([]:(List Int))):Seal_api),Enc.v false] ⟨p_ldVa (l':=Enc.cl ((Seal_api.mk (0:Int) (0:Int) (0:Int) (0:Int) ([]:(List Int))):Seal_api)) ty38 rfl rfl nd (j:=1) rfl rfl rfl rfl (Nat.le_of_ble_eq_true rfl),p_mv rfl,trivial⟩ (by obtain rfl:=some_in hX;rfl) (tup_val (allVal.mem ⟨v_val _,v_val _,trivial⟩))
 ·have hX:=ite_f hc hX
  refine TK.skip ?_
  refine hK7 _ _ (SR fun K10 hK10=>P1 (p_faV fs46_3 Dc rfl nd (j:=0) rfl rfl) rfl rfl (P1 (p_ldV (v:=Enc.v r5.1.Load) ty42 rfl rfl nd (j:=0) rfl rfl rfl rfl rfl) rfl rfl ?_))
  obtain ⟨r11,hr11,hX⟩:=bind_some hX
  refine TL.cvX rfl rfl rfl (fun _=>⟨rfl,⟨rfl,trivial⟩⟩) (fun e=>ok_cartridgeref10_ReadSeal r5.1.Load _ hr11) ?_
  refine M rfl rfl (P1 (p_ex rfl rfl Dc) rfl rfl (P1 (p_ex rfl rfl Dc) rfl rfl ?_))
  refine TLc.alO (l:=[Enc.v ((0:Int):Int),Enc.v ((0:Int):Int),Enc.v ((0:Int):Int),Enc.v ((0:Int):Int),.nils]) nd ty38 ti38_z rfl rfl fun b12 nd=>?_
  refine TLc.stV (lu:=Enc.cl (r11.1:Seal_api)) nd ty38 rfl (j:=0) rfl rfl rfl (Cells_v (r11.1:Seal_api)) rfl rfl [Enc.v r11.1.Number,Enc.v r11.1.Index,Enc.v r11.1.Data,Enc.v r11.1.Parity,Enc.v r11.1.Labels] rfl fun nd=>?_
  refine M rfl rfl (TL.nil (hK10 _ _ (SR fun K13 hK13=>P1 (p_ldVa (l':=Enc.cl (r11.1:Seal_api)) ty38 rfl rfl nd (j:=0) rfl rfl rfl rfl (Nat.le_of_ble_eq_true rfl)) rfl rfl (M rfl rfl (P1 (p_eql rfl rfl) rfl rfl ?_)))))
  refine TLc.stV (lu:=Enc.cl (r11.1:Seal_api)) nd ty38 rfl (j:=2) rfl rfl rfl (Cells_v (r11.1:Seal_api)) rfl rfl [Enc.v r11.1.Number,Enc.v r11.1.Index,Enc.v r11.1.Data,Enc.v r11.1.Parity,Enc.v r11.1.Labels] rfl fun nd=>?_
  refine M rfl rfl (TL.nil (hK13 _ _ ?_))
  refine TK.ret ?_
  try dsimp only[thenQ]
  exact retC [Enc.v r11.1,Enc.v ((r11.2==(0:Int)):Bool)] ⟨p_ldVa (l':=Enc.cl (r11.1:Seal_api)) ty38 rfl rfl nd (j:=2) rfl rfl rfl rfl (Nat.le_of_ble_eq_true rfl),p_mv rfl,trivial⟩ (by obtain rfl:=some_in hX;rfl) (tup_val (allVal.mem ⟨v_val _,v_val _,trivial⟩))
theorem ok_cartridgeref10_Find (l1:(List Tape_api)) (r:(List Seal_api)) (hX:X.cartridgeref10_Find l1=some r):Fun Tryz.prog 12 [Enc.v (l1:(List Tape_api))] (·=Enc.v (r:(List Seal_api))):=by
 refine Fun.of b12 (Nat.le_of_ble_eq_true rfl) (allVal.mem ⟨(by exact (v_val _)),trivial⟩) ?_
 unfold k12
 have nd:Nd []:=Nd_nil
 unfold X.cartridgeref10_Find at hX
 refine SR fun K2 hK2=>M rfl rfl (TL.nil (hK2 _ _ (SR fun K3 hK3=>M rfl rfl (TL.nil (hK3 _ _ ?_)))))
 refine TK.seq_k fun K4 hK4=>?_
 refine SR fun K5 hK5=>M rfl rfl (TL.nil (hK5 _ _ ?_))
 refine TK.block ?_
 refine TK.wk 3 (L ([]:List Seal_api)) rfl Wk_nil ?_
 obtain ⟨o6,hO6,hA6⟩:=bind_some hX
 have E6:∀(out9:(List Seal_api)) (env:Env) (h:Hp),(∃_u:Unit,keepE [3] env=[(3,true,Enc.v out9)]∧Nd []∧HSub [] h)→X.cartridgeref10_Find_e6 out9=some r→K4 env h:=by
  intro out9 env h hE hX
  obtain ⟨_u,henv,nd,hs⟩:=hE
  unfold X.cartridgeref10_Find_e6 at hX
  refine hK4 _ _ (TK.keep [3] ?_)
  rw[henv]
  refine TK.subH hs ?_
  refine SR fun K10 hK10=>M rfl rfl (M rfl rfl (TL.nil (hK10 _ _ ?_)))
  refine TK.ret ?_
  try dsimp only[thenQ]
  exact R1 rfl hX
 refine TK.iter [0,3,4] (fun s env h=>match s with|(out7,i8)=>∃_u:Unit,env=[(0,true,Enc.v l1),(3,true,Enc.v out7),(4,true,Enc.v i8)]∧Nd []∧HSub [] h) hO6 ⟨(),rfl,Nd_nil,HSub.refl _⟩ ?_
 rintro ⟨out7,i8⟩ env h x6x ⟨_u,rfl,nd,hs⟩ hX hR6
 refine TK.subH hs ?_
 unfold X.cartridgeref10_Find_s6 at hX
 try dsimp only at hX
 refine TK.seq_k fun K11 hK11=>?_
 refine SR fun K12 hK12=>M rfl rfl (M rfl rfl (P1 (p_lenL (xs:=l1) kd22 rfl) rfl rfl (P1 (p_lss rfl rfl) rfl rfl (TL.nil (hK12 _ _ ?_)))))
 refine TK.cond (b:=(decide (i8<(l1.length:Int)))) rfl (fun hc=>?_) (fun hc=>?_)
 ·have hX:=ite_t hc hX
  refine TK.skip ?_
  refine hK11 _ _ ?_
  refine TK.seq_k fun K13 hK13=>?_
  have J13:∀(out14:(List Seal_api)) (env:Env) (h:Hp),(∃_u:Unit,keepE [0,3,4] env=[(0,true,Enc.v l1),(3,true,Enc.v out14),(4,true,Enc.v i8)]∧Nd []∧HSub [] h)→X.cartridgeref10_Find_j13 i8 out14=some x6x→K13 env h:=by
   intro out14 env h hE hX
   obtain ⟨_u,henv,nd,hs⟩:=hE
   unfold X.cartridgeref10_Find_j13 at hX
   refine hK13 _ _ (TK.keep [0,3,4] ?_)
   rw[henv]
   refine TK.subH hs ?_
   refine TK.reg ?_
   refine M rfl rfl (P1 (p_add rfl rfl) rfl rfl (M rfl rfl (TL.nil ?_)))
   exact ⟨_,(some_in hX).symm,(),rfl,Nd_nil,HSub.refl _⟩
  refine TK.block ?_
  refine SR fun K15 hK15=>M rfl rfl (M rfl rfl ?_)
  obtain ⟨e16,he16,hX⟩:=bind_some hX
  refine P1 (p_iaL (xs:=l1) kd22 ty49 rfl rfl rfl (fun _=>he16)) rfl rfl (P1 (p_ldE (xs:=l1) (a:=e16) (e16:Tape_api) ty49 rfl rfl (fun _=>he16) rfl rfl rfl) rfl rfl ?_)
  obtain ⟨r17,hr17,hX⟩:=bind_some hX
  refine TL.cvX rfl rfl rfl (fun _=>⟨rfl,⟨rfl,trivial⟩⟩) (fun e=>ok_cartridgeref10_Sealed e16 _ hr17) ?_
  refine M rfl rfl (P1 (p_ex rfl rfl Dc) rfl rfl (P1 (p_ex rfl rfl Dc) rfl rfl ?_))
  refine TLc.alO (l:=[Enc.v ((0:Int):Int),Enc.v ((0:Int):Int),Enc.v ((0:Int):Int),Enc.v ((0:Int):Int),.nils]) nd ty38 ti38_z rfl rfl fun b18 nd=>?_
  refine TLc.stV (lu:=Enc.cl (r17.1:Seal_api)) nd ty38 rfl (j:=0) rfl rfl rfl (Cells_v (r17.1:Seal_api)) rfl rfl [Enc.v r17.1.Number,Enc.v r17.1.Index,Enc.v r17.1.Data,Enc.v r17.1.Parity,Enc.v r17.1.Labels] rfl fun nd=>?_
  refine M rfl rfl (TL.nil (hK15 _ _ ?_))
  refine TK.seq_k fun K19 hK19=>?_
  refine TK.seq_k fun K20 hK20=>?_
  have ndS:Nd [(b18,RV 38 [Enc.v r17.1.Number,Enc.v r17.1.Index,Enc.v r17.1.Data,Enc.v r17.1.Parity,Enc.v r17.1.Labels])]:=Nd.pick nd (is:=[0]) Dc
  refine TK.drwX (h:=[]) (hS:=[(b18,RV 38 [Enc.v r17.1.Number,Enc.v r17.1.Index,Enc.v r17.1.Data,Enc.v r17.1.Parity,Enc.v r17.1.Labels])]) [(0,0),(0,1),(0,2),(0,3),(0,4),(0,5),(0,6),(0,7),(0,8),(0,9),(0,10),(0,11),(0,12),(0,13),(0,14),(0,15)] mixed (by kernel_rfl) (HSub_app nd) ?_
  refine DM rfl rfl rfl ?_
  refine D0 rfl (p_not rfl) rfl rfl ?_
  refine DM rfl rfl rfl ?_
  refine DR0 (gc:=(!((!r17.2)))) rfl (vok_p (C:=cx) (p_faV fs38_4 Dc rfl ndS (j:=0) rfl rfl (hg:=fun e=>rfl))) (gcF1 rfl) rfl ?_
  refine DR0 (gc:=(!((!r17.2)))) rfl (vok_p (C:=cx) (p_ldV (v:=Enc.v r17.1.Labels) ty36 rfl rfl ndS (j:=0) rfl rfl rfl rfl rfl (hg:=fun e=>e))) (gcF1 rfl) rfl ?_
  refine DR0 (gc:=(!((!r17.2)))) rfl (vok_p (C:=cx) (p_faV fs38_1 Dc rfl ndS (j:=0) rfl rfl (hg:=fun e=>rfl))) (gcF1 rfl) rfl ?_
  refine DR0 (gc:=(!((!r17.2)))) rfl (vok_p (C:=cx) (p_ldV (v:=Enc.v r17.1.Index) ty3 rfl rfl ndS (j:=0) rfl rfl rfl rfl rfl (hg:=fun e=>e))) (gcF1 rfl) rfl ?_
  obtain ⟨e21,he21,hX⟩:=bind_some hX
  refine DR0 (gc:=(!((!r17.2)))) rfl (vok_p (C:=cx) (p_iaL (xs:=r17.1.Labels) kd36 ty3 rfl rfl rfl (fun e=>optG_t he21 e) (hg:=fun e=>⟨e,e⟩))) (gcF1 rfl) rfl ?_
  refine DR0 (gc:=(!((!r17.2)))) rfl (vok_p (C:=cx) (p_ldE (xs:=r17.1.Labels) (a:=e21) (e21:Int) ty3 rfl rfl (fun e=>optG_t he21 e) rfl rfl rfl (hg:=fun e=>e))) (gcF1 rfl) rfl ?_
  refine DR0 (gc:=(!((!r17.2)))) rfl (vok_p (C:=cx) (p_mv rfl (hg:=fun e=>rfl))) (gcF1 rfl) rfl ?_
  refine DR0 (gc:=(!((!r17.2)))) rfl (vok_p (C:=cx) (p_mv rfl (hg:=fun e=>rfl))) (gcF1 rfl) rfl ?_
  obtain ⟨e22,he22,hX⟩:=bind_some hX
  refine DR0 (gc:=(!((!r17.2)))) rfl (vok_p (C:=cx) (p_iaL (xs:=l1) kd22 ty49 rfl rfl rfl (fun e=>optG_t he22 e) (hg:=fun e=>⟨e,e⟩))) (gcF1 rfl) rfl ?_
  refine DR0 (gc:=(!((!r17.2)))) rfl (vok_p (C:=cx) (p_faE fs49_0 Dc rfl (hg:=fun e=>e))) (gcF1 rfl) rfl ?_
  refine DR0 (gc:=(!((!r17.2)))) rfl (vok_p (C:=cx) (p_ldE (xs:=l1) (a:=e22) (e22.Label:Int) ty3 rfl rfl (fun e=>optG_t he22 e) rfl rfl rfl (hg:=fun e=>e))) (gcF1 rfl) rfl ?_
  refine DR0 (gc:=(!((!r17.2)))) rfl (vok_p (C:=cx) (p_neq rfl rfl (hg:=fun e=>⟨e,e⟩))) (gcF1 rfl) rfl ?_
  refine D0 rfl (p_or rfl rfl (fun e=>⟨rfl,fun h=>(not_t h)⟩)) rfl rfl ?_
  refine DRend ?_
  refine hK20 _ _ ?_
  refine TK.cond (b:=((!r17.2)||(e21 !=e22.Label))) rfl (fun hc=>?_) (fun hc=>?_)
  ·have hX:=ite_t hc hX
   refine TK.exit ?_
   exact J13 out7 _ _ ⟨(),rfl,(Nd.pick nd (is:=[]) Dc),(HSub.pick nd (is:=[]) Dc)⟩ hX
  ·have hX:=ite_f hc hX
   refine TK.skip ?_
   refine hK19 _ _ (SR fun K23 hK23=>M rfl rfl (TL.nil (hK23 _ _ ?_)))
   refine TK.seq_k fun K24 hK24=>?_
   refine TK.block ?_
   obtain ⟨o25,hO25,hA25⟩:=bind_some hX
   have E25:∀(k29:Int) (env:Env) (h:Hp),(∃b28,keepE [0,3,4,5,7] env=[(0,true,Enc.v l1),(3,true,Enc.v out7),(4,true,Enc.v i8),(5,true,.ref b28 0 5),(7,true,Enc.v k29)]∧Nd [(b28,RV 38 [Enc.v r17.1.Number,Enc.v r17.1.Index,Enc.v r17.1.Data,Enc.v r17.1.Parity,Enc.v r17.1.Labels])]∧HSub [(b28,RV 38 [Enc.v r17.1.Number,Enc.v r17.1.Index,Enc.v r17.1.Data,Enc.v r17.1.Parity,Enc.v r17.1.Labels])] h)→X.cartridgeref10_Find_e25 out7 r17 i8 k29=some x6x→K24 env h:=by
    intro k29 env h hE hX
    obtain ⟨b28,henv,nd,hs⟩:=hE
    unfold X.cartridgeref10_Find_e25 at hX
    refine hK24 _ _ (TK.keep [0,3,4,5,7] ?_)
    rw[henv]
    refine TK.subH hs ?_
    refine TK.seq_k fun K30 hK30=>?_
    refine TK.seq_k fun K31 hK31=>?_
    have ndS:Nd [(b28,RV 38 [Enc.v r17.1.Number,Enc.v r17.1.Index,Enc.v r17.1.Data,Enc.v r17.1.Parity,Enc.v r17.1.Labels])]:=Nd.pick nd (is:=[0]) Dc
    refine TK.drwX (h:=[]) (hS:=[(b28,RV 38 [Enc.v r17.1.Number,Enc.v r17.1.Index,Enc.v r17.1.Data,Enc.v r17.1.Parity,Enc.v r17.1.Labels])]) [(0,0),(0,1),(0,2),(0,3),(0,4),(0,5),(0,6),(0,7),(0,8),(0,9),(0,10),(0,11),(0,12),(0,13)] mixed (by kernel_rfl) (HSub_app nd) ?_
    refine DM rfl rfl rfl ?_
    refine DM rfl rfl rfl ?_
    refine D0 rfl (p_lenL (xs:=out7) kd33 rfl) rfl rfl ?_
    refine D0 rfl (p_lss rfl rfl) rfl rfl ?_
    refine DM rfl rfl rfl ?_
    refine DR0 (gc:=((decide (k29<(out7.length:Int))))) rfl (vok_p (C:=cx) (p_mv rfl (hg:=fun e=>rfl))) (gcT1 rfl) rfl ?_
    refine DR0 (gc:=((decide (k29<(out7.length:Int))))) rfl (vok_p (C:=cx) (p_mv rfl (hg:=fun e=>rfl))) (gcT1 rfl) rfl ?_
    obtain ⟨e32,he32,hX⟩:=bind_some hX
    refine DR0 (gc:=((decide (k29<(out7.length:Int))))) rfl (vok_p (C:=cx) (p_iaL (xs:=out7) kd33 ty38 rfl rfl rfl (fun e=>optG_t he32 e) (hg:=fun e=>⟨e,e⟩))) (gcT1 rfl) rfl ?_
    refine DR0 (gc:=((decide (k29<(out7.length:Int))))) rfl (vok_p (C:=cx) (p_faE fs38_0 Dc rfl (hg:=fun e=>e))) (gcT1 rfl) rfl ?_
    refine DR0 (gc:=((decide (k29<(out7.length:Int))))) rfl (vok_p (C:=cx) (p_ldE (xs:=out7) (a:=e32) (e32.Number:Int) ty3 rfl rfl (fun e=>optG_t he32 e) rfl rfl rfl (hg:=fun e=>e))) (gcT1 rfl) rfl ?_
    refine DR0 (gc:=((decide (k29<(out7.length:Int))))) rfl (vok_p (C:=cx) (p_faV fs38_0 Dc rfl ndS (j:=0) rfl rfl (hg:=fun e=>rfl))) (gcT1 rfl) rfl ?_
    refine DR0 (gc:=((decide (k29<(out7.length:Int))))) rfl (vok_p (C:=cx) (p_ldV (v:=Enc.v r17.1.Number) ty3 rfl rfl ndS (j:=0) rfl rfl rfl rfl rfl (hg:=fun e=>e))) (gcT1 rfl) rfl ?_
    refine DR0 (gc:=((decide (k29<(out7.length:Int))))) rfl (vok_p (C:=cx) (p_eql rfl rfl (hg:=fun e=>⟨e,e⟩))) (gcT1 rfl) rfl ?_
    refine D0 rfl (p_and rfl rfl (fun e=>⟨rfl,fun h=>h⟩)) rfl rfl ?_
    refine DRend ?_
    refine hK31 _ _ ?_
    refine TK.cond (b:=((decide (k29<(out7.length:Int)))&&(e32.Number==r17.1.Number))) rfl (fun hc=>?_) (fun hc=>?_)
    ·have hX:=ite_t hc hX
     refine TK.exit ?_
     exact J13 out7 _ _ ⟨(),rfl,(Nd.pick nd (is:=[]) Dc),(HSub.pick nd (is:=[]) Dc)⟩ hX
    ·have hX:=ite_f hc hX
     refine TK.skip ?_
     refine hK30 _ _ ?_
     have ndS:Nd [(b28,RV 38 [Enc.v r17.1.Number,Enc.v r17.1.Index,Enc.v r17.1.Data,Enc.v r17.1.Parity,Enc.v r17.1.Labels])]:=Nd.pick nd (is:=[0]) Dc
     refine TK.endK fun KD hKD=>?_
     refine TK.drwX (h:=[]) (hS:=[(b28,RV 38 [Enc.v r17.1.Number,Enc.v r17.1.Index,Enc.v r17.1.Data,Enc.v r17.1.Parity,Enc.v r17.1.Labels])]) [(0,0),(0,1),(0,2),(0,4),(0,5),(0,7),(0,8),(0,9),(2,3),(2,6),(2,10),(0,11)] mixed (by kernel_rfl) (HSub_app nd) ?_
     refine DM rfl rfl rfl ?_
     refine DM rfl rfl rfl ?_
     obtain ⟨u33,hu33,hX⟩:=bind_some hX
     refine D0 rfl (p_sliL (xs:=out7) (l:=(0:Int)) (k:=k29) kd33 ty38 rfl rfl rfl rfl (fun e=>need_t hu33)) rfl rfl ?_
     refine D0 rfl (p_ldVa (l':=Enc.cl (r17.1:Seal_api)) ty38 rfl rfl ndS (j:=0) rfl rfl rfl rfl (Nat.le_of_ble_eq_true rfl)) rfl rfl ?_
     refine DR0 (gc:=true) rfl (vok_lit (C:=cx) ([r17.1]:List Seal_api) kd33 ty38 rfl ⟨⟨rfl,rfl⟩,trivial⟩ rfl rfl) rfl rfl ?_
     refine DM rfl rfl rfl ?_
     refine DM rfl rfl rfl ?_
     obtain ⟨u34,hu34,hX⟩:=bind_some hX
     refine D0 rfl (p_sliL (xs:=out7) (l:=k29) (k:=(out7.length:Int)) kd33 ty38 rfl rfl rfl rfl (fun e=>need_t hu34)) rfl rfl ?_
     obtain ⟨u35,hu35,hX⟩:=bind_some hX
     refine DR2 rfl rfl ?_
     refine TLc.appN nd kd33 bo33 ty38 rfl rfl (.inl rfl) rfl (Src_L _) Dc (need_t hu35) rfl fun b36 nd=>?_
     refine TL.nil ⟨_,[(b36,RL (α:=Seal_api) 38 (slc out7 (0:Int) k29))],rfl,rfl,HSub_app nd,?_⟩
     obtain ⟨u37,hu37,hX⟩:=bind_some hX
     refine DR2 rfl rfl ?_
     refine TLc.appO nd kd33 bo33 ty38 rfl rfl (j:=0) rfl rfl (Src_L _) Dc (need_t hu37) rfl fun nd=>?_
     refine TL.nil ⟨_,[(b36,RL (α:=Seal_api) 38 ((slc out7 (0:Int) k29)++([r17.1]:List Seal_api)))],rfl,rfl,HSub_app nd,?_⟩
     obtain ⟨u38,hu38,hX⟩:=bind_some hX
     refine DR2 rfl rfl ?_
     refine TLc.appO nd kd33 bo33 ty38 rfl rfl (j:=0) rfl rfl (Src_L _) Dc (need_t hu38) rfl fun nd=>?_
     refine TL.nil ⟨_,[(b36,RL (α:=Seal_api) 38 (((slc out7 (0:Int) k29)++([r17.1]:List Seal_api))++(slc out7 k29 (out7.length:Int))))],rfl,rfl,HSub_app nd,?_⟩
     refine DM rfl rfl rfl ?_
     refine DRend ?_
     refine hKD _ _ ?_
     refine TL.lay [(3,L (((slc out7 (0:Int) k29)++([r17.1]:List Seal_api))++(slc out7 k29 (out7.length:Int)))),(78,L (((slc out7 (0:Int) k29)++([r17.1]:List Seal_api))++(slc out7 k29 (out7.length:Int))))] nd (j:=0) rfl ⟨⟨_,rfl,fix_OL nd (j:=0) rfl,rfl⟩,⟨⟨_,rfl,fix_OL nd (j:=0) rfl,rfl⟩,trivial⟩⟩ fun nd=>?_
     refine TL.nil ?_
     exact J13 (((slc out7 (0:Int) k29)++([r17.1]:List Seal_api))++(slc out7 k29 (out7.length:Int))) _ _ ⟨(),rfl,(Nd.pick nd (is:=[]) Dc),(HSub.pick nd (is:=[]) Dc)⟩ hX
   refine TK.iter [0,3,4,5,7] (fun s env h=>match s with|k27=>∃b26,env=[(0,true,Enc.v l1),(3,true,Enc.v out7),(4,true,Enc.v i8),(5,true,.ref b26 0 5),(7,true,Enc.v k27)]∧Nd [(b26,RV 38 [Enc.v r17.1.Number,Enc.v r17.1.Index,Enc.v r17.1.Data,Enc.v r17.1.Parity,Enc.v r17.1.Labels])]∧HSub [(b26,RV 38 [Enc.v r17.1.Number,Enc.v r17.1.Index,Enc.v r17.1.Data,Enc.v r17.1.Parity,Enc.v r17.1.Labels])] h) hO25 ⟨b18,rfl,(Nd.pick nd (is:=[0]) Dc),(HSub.pick nd (is:=[0]) Dc)⟩ ?_
   rintro k27 env h x25x ⟨b26,rfl,nd,hs⟩ hX hR25
   refine TK.subH hs ?_
   unfold X.cartridgeref10_Find_s25 at hX
   try dsimp only at hX
   refine TK.seq_k fun K39 hK39=>?_
   refine TK.seq_k fun K40 hK40=>?_
   have ndS:Nd [(b26,RV 38 [Enc.v r17.1.Number,Enc.v r17.1.Index,Enc.v r17.1.Data,Enc.v r17.1.Parity,Enc.v r17.1.Labels])]:=Nd.pick nd (is:=[0]) Dc
   refine TK.drwX (h:=[]) (hS:=[(b26,RV 38 [Enc.v r17.1.Number,Enc.v r17.1.Index,Enc.v r17.1.Data,Enc.v r17.1.Parity,Enc.v r17.1.Labels])]) [(0,0),(0,1),(0,2),(0,3),(0,4),(0,5),(0,6),(0,7),(0,8),(0,9),(0,10),(0,11),(0,12),(0,13)] mixed (by kernel_rfl) (HSub_app nd) ?_
   refine DM rfl rfl rfl ?_
   refine DM rfl rfl rfl ?_
   refine D0 rfl (p_lenL (xs:=out7) kd33 rfl) rfl rfl ?_
   refine D0 rfl (p_lss rfl rfl) rfl rfl ?_
   refine DM rfl rfl rfl ?_
   refine DR0 (gc:=((decide (k27<(out7.length:Int))))) rfl (vok_p (C:=cx) (p_mv rfl (hg:=fun e=>rfl))) (gcT1 rfl) rfl ?_
   refine DR0 (gc:=((decide (k27<(out7.length:Int))))) rfl (vok_p (C:=cx) (p_mv rfl (hg:=fun e=>rfl))) (gcT1 rfl) rfl ?_
   obtain ⟨e41,he41,hX⟩:=bind_some hX
   refine DR0 (gc:=((decide (k27<(out7.length:Int))))) rfl (vok_p (C:=cx) (p_iaL (xs:=out7) kd33 ty38 rfl rfl rfl (fun e=>optG_t he41 e) (hg:=fun e=>⟨e,e⟩))) (gcT1 rfl) rfl ?_
   refine DR0 (gc:=((decide (k27<(out7.length:Int))))) rfl (vok_p (C:=cx) (p_faE fs38_0 Dc rfl (hg:=fun e=>e))) (gcT1 rfl) rfl ?_
   refine DR0 (gc:=((decide (k27<(out7.length:Int))))) rfl (vok_p (C:=cx) (p_ldE (xs:=out7) (a:=e41) (e41.Number:Int) ty3 rfl rfl (fun e=>optG_t he41 e) rfl rfl rfl (hg:=fun e=>e))) (gcT1 rfl) rfl ?_
   refine DR0 (gc:=((decide (k27<(out7.length:Int))))) rfl (vok_p (C:=cx) (p_faV fs38_0 Dc rfl ndS (j:=0) rfl rfl (hg:=fun e=>rfl))) (gcT1 rfl) rfl ?_
   refine DR0 (gc:=((decide (k27<(out7.length:Int))))) rfl (vok_p (C:=cx) (p_ldV (v:=Enc.v r17.1.Number) ty3 rfl rfl ndS (j:=0) rfl rfl rfl rfl rfl (hg:=fun e=>e))) (gcT1 rfl) rfl ?_
   refine DR0 (gc:=((decide (k27<(out7.length:Int))))) rfl (vok_p (C:=cx) (p_lss rfl rfl (hg:=fun e=>⟨e,e⟩))) (gcT1 rfl) rfl ?_
   refine D0 rfl (p_and rfl rfl (fun e=>⟨rfl,fun h=>h⟩)) rfl rfl ?_
   refine DRend ?_
   refine hK40 _ _ ?_
   refine TK.cond (b:=((decide (k27<(out7.length:Int)))&&(decide (e41.Number<r17.1.Number)))) rfl (fun hc=>?_) (fun hc=>?_)
   ·have hX:=ite_t hc hX
    refine TK.skip ?_
    refine hK39 _ _ ?_
    refine TK.block ?_
    refine TK.reg ?_
    refine M rfl rfl (P1 (p_add rfl rfl) rfl rfl (M rfl rfl (TL.nil ?_)))
    exact ⟨_,(some_in hX).symm,b26,rfl,(Nd.pick nd (is:=[0]) Dc),(HSub.pick nd (is:=[0]) Dc)⟩
   ·have hX:=ite_f hc hX
    refine TK.exit ?_
    obtain rfl:=hR25 _ (some_in hX).symm
    exact E25 k27 _ _ ⟨b26,rfl,(Nd.pick nd (is:=[0]) Dc),(HSub.pick nd (is:=[0]) Dc)⟩ hA25
 ·have hX:=ite_f hc hX
  refine TK.exit ?_
  obtain rfl:=hR6 _ (some_in hX).symm
  exact E6 out7 _ _ ⟨(),rfl,Nd_nil,HSub.refl _⟩ hA6
theorem ok_cartridgeref10_SameSeal (a1:Seal_api) (b2:Seal_api) (r:Bool) (hX:X.cartridgeref10_SameSeal a1 b2=some r):Fun Tryz.prog 13 [Enc.v (a1:Seal_api),Enc.v (b2:Seal_api)] (·=Enc.v (r:Bool)):=by
 refine Fun.of b13 (Nat.le_of_ble_eq_true rfl) (allVal.mem ⟨(by exact (v_val _)),(by exact (v_val _)),trivial⟩) ?_
 unfold k13
 have nd:Nd []:=Nd_nil
 unfold X.cartridgeref10_SameSeal at hX
 refine SR fun K3 hK3=>?_
 refine TLc.boxV (lu:=[Enc.v a1.Number,Enc.v a1.Index,Enc.v a1.Data,Enc.v a1.Parity,Enc.v a1.Labels]) nd rfl (Cells_v (a1:Seal_api)) rfl ?_
 refine TLc.boxV (lu:=[Enc.v b2.Number,Enc.v b2.Index,Enc.v b2.Data,Enc.v b2.Parity,Enc.v b2.Labels]) nd rfl (Cells_v (b2:Seal_api)) rfl ?_
 refine M rfl rfl (TL.nil (hK3 _ _ ?_))
 refine TK.seq_k fun K4 hK4=>?_
 refine SR fun K5 hK5=>P1 (p_faR fs38_0 Dc rfl) rfl rfl (P1 (p_ldR (v:=Enc.v a1.Number) ty3 rfl rfl rfl rfl rfl rfl) rfl rfl (P1 (p_faR fs38_0 Dc rfl) rfl rfl (P1 (p_ldR (v:=Enc.v b2.Number) ty3 rfl rfl rfl rfl rfl rfl) rfl rfl (P1 (p_neq rfl rfl) rfl rfl (M rfl rfl ?_)))))
 refine TLc.p (gc:=(!((a1.Number !=b2.Number)))) (p_faR fs38_1 Dc rfl (hg:=fun e=>rfl)) (gcF1 rfl) rfl ?_
 refine TLc.p (gc:=(!((a1.Number !=b2.Number)))) (p_ldR (v:=Enc.v a1.Index) ty3 rfl rfl rfl rfl rfl rfl (hg:=fun e=>e)) (gcF1 rfl) rfl ?_
 refine TLc.p (gc:=(!((a1.Number !=b2.Number)))) (p_faR fs38_1 Dc rfl (hg:=fun e=>rfl)) (gcF1 rfl) rfl ?_
 refine TLc.p (gc:=(!((a1.Number !=b2.Number)))) (p_ldR (v:=Enc.v b2.Index) ty3 rfl rfl rfl rfl rfl rfl (hg:=fun e=>e)) (gcF1 rfl) rfl ?_
 refine TLc.p (gc:=(!((a1.Number !=b2.Number)))) (p_neq rfl rfl (hg:=fun e=>⟨e,e⟩)) (gcF1 rfl) rfl ?_
 refine P1 (p_or rfl rfl (fun e=>⟨rfl,fun h=>(not_t h)⟩)) rfl rfl (M rfl rfl ?_)
 refine TLc.p (gc:=(!(((a1.Number !=b2.Number)||(a1.Index !=b2.Index))))) (p_faR fs38_2 Dc rfl (hg:=fun e=>rfl)) (gcF1 rfl) rfl ?_
 refine TLc.p (gc:=(!(((a1.Number !=b2.Number)||(a1.Index !=b2.Index))))) (p_ldR (v:=Enc.v a1.Data) ty3 rfl rfl rfl rfl rfl rfl (hg:=fun e=>e)) (gcF1 rfl) rfl ?_
 refine TLc.p (gc:=(!(((a1.Number !=b2.Number)||(a1.Index !=b2.Index))))) (p_faR fs38_2 Dc rfl (hg:=fun e=>rfl)) (gcF1 rfl) rfl ?_
 refine TLc.p (gc:=(!(((a1.Number !=b2.Number)||(a1.Index !=b2.Index))))) (p_ldR (v:=Enc.v b2.Data) ty3 rfl rfl rfl rfl rfl rfl (hg:=fun e=>e)) (gcF1 rfl) rfl ?_
 refine TLc.p (gc:=(!(((a1.Number !=b2.Number)||(a1.Index !=b2.Index))))) (p_neq rfl rfl (hg:=fun e=>⟨e,e⟩)) (gcF1 rfl) rfl ?_
 refine P1 (p_or rfl rfl (fun e=>⟨rfl,fun h=>(not_t h)⟩)) rfl rfl (M rfl rfl ?_)
 refine TLc.p (gc:=(!((((a1.Number !=b2.Number)||(a1.Index !=b2.Index))||(a1.Data !=b2.Data))))) (p_faR fs38_3 Dc rfl (hg:=fun e=>rfl)) (gcF1 rfl) rfl ?_
 refine TLc.p (gc:=(!((((a1.Number !=b2.Number)||(a1.Index !=b2.Index))||(a1.Data !=b2.Data))))) (p_ldR (v:=Enc.v a1.Parity) ty3 rfl rfl rfl rfl rfl rfl (hg:=fun e=>e)) (gcF1 rfl) rfl ?_
 refine TLc.p (gc:=(!((((a1.Number !=b2.Number)||(a1.Index !=b2.Index))||(a1.Data !=b2.Data))))) (p_faR fs38_3 Dc rfl (hg:=fun e=>rfl)) (gcF1 rfl) rfl ?_
 refine TLc.p (gc:=(!((((a1.Number !=b2.Number)||(a1.Index !=b2.Index))||(a1.Data !=b2.Data))))) (p_ldR (v:=Enc.v b2.Parity) ty3 rfl rfl rfl rfl rfl rfl (hg:=fun e=>e)) (gcF1 rfl) rfl ?_
 refine TLc.p (gc:=(!((((a1.Number !=b2.Number)||(a1.Index !=b2.Index))||(a1.Data !=b2.Data))))) (p_neq rfl rfl (hg:=fun e=>⟨e,e⟩)) (gcF1 rfl) rfl ?_
 refine P1 (p_or rfl rfl (fun e=>⟨rfl,fun h=>(not_t h)⟩)) rfl rfl (M rfl rfl ?_)
 refine TLc.p (gc:=(!(((((a1.Number !=b2.Number)||(a1.Index !=b2.Index))||(a1.Data !=b2.Data))||(a1.Parity !=b2.Parity))))) (p_faR fs38_4 Dc rfl (hg:=fun e=>rfl)) (gcF1 rfl) rfl ?_
 refine TLc.p (gc:=(!(((((a1.Number !=b2.Number)||(a1.Index !=b2.Index))||(a1.Data !=b2.Data))||(a1.Parity !=b2.Parity))))) (p_ldR (v:=Enc.v a1.Labels) ty36 rfl rfl rfl rfl rfl rfl (hg:=fun e=>e)) (gcF1 rfl) rfl ?_
 refine TLc.p (gc:=(!(((((a1.Number !=b2.Number)||(a1.Index !=b2.Index))||(a1.Data !=b2.Data))||(a1.Parity !=b2.Parity))))) (p_lenL (xs:=a1.Labels) kd36 rfl (hg:=fun e=>e)) (gcF1 rfl) rfl ?_
 refine TLc.p (gc:=(!(((((a1.Number !=b2.Number)||(a1.Index !=b2.Index))||(a1.Data !=b2.Data))||(a1.Parity !=b2.Parity))))) (p_faR fs38_4 Dc rfl (hg:=fun e=>rfl)) (gcF1 rfl) rfl ?_
 refine TLc.p (gc:=(!(((((a1.Number !=b2.Number)||(a1.Index !=b2.Index))||(a1.Data !=b2.Data))||(a1.Parity !=b2.Parity))))) (p_ldR (v:=Enc.v b2.Labels) ty36 rfl rfl rfl rfl rfl rfl (hg:=fun e=>e)) (gcF1 rfl) rfl ?_
 refine TLc.p (gc:=(!(((((a1.Number !=b2.Number)||(a1.Index !=b2.Index))||(a1.Data !=b2.Data))||(a1.Parity !=b2.Parity))))) (p_lenL (xs:=b2.Labels) kd36 rfl (hg:=fun e=>e)) (gcF1 rfl) rfl ?_
 refine TLc.p (gc:=(!(((((a1.Number !=b2.Number)||(a1.Index !=b2.Index))||(a1.Data !=b2.Data))||(a1.Parity !=b2.Parity))))) (p_neq rfl rfl (hg:=fun e=>⟨e,e⟩)) (gcF1 rfl) rfl ?_
 refine P1 (p_or rfl rfl (fun e=>⟨rfl,fun h=>(not_t h)⟩)) rfl rfl (TL.nil (hK5 _ _ ?_))
 refine TK.cond (b:=(((((a1.Number !=b2.Number)||(a1.Index !=b2.Index))||(a1.Data !=b2.Data))||(a1.Parity !=b2.Parity))||((a1.Labels.length:Int) !=(b2.Labels.length:Int)))) rfl (fun hc=>?_) (fun hc=>?_)
 ·have hX:=ite_t hc hX
  refine SR fun K6 hK6=>M rfl rfl (TL.nil (hK6 _ _ ?_))
  refine TK.ret ?_
  try dsimp only[thenQ]
  exact R1 rfl hX
 ·have hX:=ite_f hc hX
  refine TK.skip ?_
  refine hK4 _ _ ?_
  refine TK.seq_k fun K7 hK7=>?_
  refine SR fun K8 hK8=>M rfl rfl (TL.nil (hK8 _ _ ?_))
  refine TK.block ?_
  obtain ⟨o9,hO9,hA9⟩:=bind_some hX
  have E9:∀(env:Env) (h:Hp),(∃_u:Unit,keepE [] env=[]∧Nd []∧HSub [] h)→X.cartridgeref10_SameSeal_e9=some r→K7 env h:=by
   intro env h hE hX
   obtain ⟨_u,henv,nd,hs⟩:=hE
   unfold X.cartridgeref10_SameSeal_e9 at hX
   refine hK7 _ _ (TK.keep [] ?_)
   rw[henv]
   refine TK.subH hs ?_
   refine SR fun K11 hK11=>M rfl rfl (TL.nil (hK11 _ _ ?_))
   refine TK.ret ?_
   try dsimp only[thenQ]
   exact R1 rfl hX
  refine TK.iter [2,3,5] (fun s env h=>match s with|i10=>∃_u:Unit,env=[(2,true,.vref (ofL [Enc.v a1.Number,Enc.v a1.Index,Enc.v a1.Data,Enc.v a1.Parity,Enc.v a1.Labels]) 5 0),(3,true,.vref (ofL [Enc.v b2.Number,Enc.v b2.Index,Enc.v b2.Data,Enc.v b2.Parity,Enc.v b2.Labels]) 5 0),(5,true,Enc.v i10)]∧Nd []∧HSub [] h) hO9 ⟨(),rfl,Nd_nil,HSub.refl _⟩ ?_
  rintro i10 env h x9x ⟨_u,rfl,nd,hs⟩ hX hR9
  refine TK.subH hs ?_
  unfold X.cartridgeref10_SameSeal_s9 at hX
  try dsimp only at hX
  refine TK.seq_k fun K12 hK12=>?_
  refine SR fun K13 hK13=>M rfl rfl (P1 (p_faR fs38_4 Dc rfl) rfl rfl (P1 (p_ldR (v:=Enc.v a1.Labels) ty36 rfl rfl rfl rfl rfl rfl) rfl rfl (P1 (p_lenL (xs:=a1.Labels) kd36 rfl) rfl rfl (P1 (p_lss rfl rfl) rfl rfl (TL.nil (hK13 _ _ ?_))))))
  refine TK.cond (b:=(decide (i10<(a1.Labels.length:Int)))) rfl (fun hc=>?_) (fun hc=>?_)
  ·have hX:=ite_t hc hX
   refine TK.skip ?_
   refine hK12 _ _ ?_
   refine TK.seq_k fun K14 hK14=>?_
   refine TK.block ?_
   refine TK.seq_k fun K15 hK15=>?_
   have ndS:Nd []:=Nd.pick nd (is:=[]) Dc
   refine TK.drwX (h:=[]) (hS:=[]) [(0,0),(0,1),(0,2),(0,3),(0,4),(0,5),(0,6),(0,7),(0,8),(0,9),(0,10)] mixed (by kernel_rfl) (HSub_app nd) ?_
   refine D0 rfl (p_faR fs38_4 Dc rfl) rfl rfl ?_
   refine D0 rfl (p_ldR (v:=Enc.v a1.Labels) ty36 rfl rfl rfl rfl rfl rfl) rfl rfl ?_
   refine DM rfl rfl rfl ?_
   obtain ⟨e16,he16,hX⟩:=bind_some hX
   refine D0 rfl (p_iaL (xs:=a1.Labels) kd36 ty3 rfl rfl rfl (fun _=>he16)) rfl rfl ?_
   refine D0 rfl (p_ldE (xs:=a1.Labels) (a:=e16) (e16:Int) ty3 rfl rfl (fun _=>he16) rfl rfl rfl) rfl rfl ?_
   refine D0 rfl (p_faR fs38_4 Dc rfl) rfl rfl ?_
   refine D0 rfl (p_ldR (v:=Enc.v b2.Labels) ty36 rfl rfl rfl rfl rfl rfl) rfl rfl ?_
   refine DM rfl rfl rfl ?_
   obtain ⟨e17,he17,hX⟩:=bind_some hX
   refine D0 rfl (p_iaL (xs:=b2.Labels) kd36 ty3 rfl rfl rfl (fun _=>he17)) rfl rfl ?_
   refine D0 rfl (p_ldE (xs:=b2.Labels) (a:=e17) (e17:Int) ty3 rfl rfl (fun _=>he17) rfl rfl rfl) rfl rfl ?_
   refine D0 rfl (p_neq rfl rfl) rfl rfl ?_
   refine DRend ?_
   refine hK15 _ _ ?_
   refine TK.cond (b:=(e16 !=e17)) rfl (fun hc=>?_) (fun hc=>?_)
   ·have hX:=ite_t hc hX
    refine SR fun K18 hK18=>M rfl rfl (TL.nil (hK18 _ _ ?_))
    refine TK.ret ?_
    obtain rfl:=hR9 _ (some_in hX).symm
    replace hX:=hA9
    try dsimp only[thenQ]
    exact R1 rfl hX
   ·have hX:=ite_f hc hX
    refine TK.skip ?_
    refine hK14 _ _ ?_
    refine TK.reg ?_
    refine M rfl rfl (P1 (p_add rfl rfl) rfl rfl (M rfl rfl (TL.nil ?_)))
    exact ⟨_,(some_in hX).symm,(),rfl,Nd_nil,HSub.refl _⟩
  ·have hX:=ite_f hc hX
   refine TK.exit ?_
   obtain rfl:=hR9 _ (some_in hX).symm
   exact E9 _ _ ⟨(),rfl,Nd_nil,HSub.refl _⟩ hA9
theorem ok_slices_Clone_Lint_int (s1:(List Int)) (r:(List Int)) (hX:X.slices_Clone_Lint_int s1=some r):Fun Tryz.prog 38 [Enc.v (s1:(List Int))] (·=Enc.v (r:(List Int))):=by
 refine Fun.of b38 (Nat.le_of_ble_eq_true rfl) (allVal.mem ⟨(by exact (v_val _)),trivial⟩) ?_
 unfold k38
 have nd:Nd []:=Nd_nil
 unfold X.slices_Clone_Lint_int at hX
 refine SR fun K2 hK2=>M rfl rfl (TL.nil (hK2 _ _ ?_))
 refine TK.seq_k fun K3 hK3=>?_
 refine SR fun K4 hK4=>M rfl rfl ?_
 refine TLc.eqNilU (xs:=s1) kd36 rfl rfl rfl fun z5 hbz5=>?_
 replace hX:=nilU_t hX hbz5
 refine TL.nil (hK4 _ _ ?_)
 refine TK.cond (b:=z5) rfl (fun hc=>?_) (fun hc=>?_)
 ·have hX:=ite_t hc hX
  refine SR fun K6 hK6=>M rfl rfl (TL.nil (hK6 _ _ ?_))
  refine TK.wk 2 (L ([]:(List Int))) rfl Wk_nil ?_
  refine TK.ret ?_
  try dsimp only[thenQ]
  exact R1 rfl hX
 ·have hX:=ite_f hc hX
  refine TK.skip ?_
  refine hK3 _ _ (SR fun K7 hK7=>?_)
  refine TLc.litZ kd36 ty3 rfl ?_
  refine M rfl rfl ?_
  obtain ⟨u9,hu9,hX⟩:=bind_some hX
  refine TLc.appN nd kd36 bo36 ty3 rfl rfl (.inr rfl) rfl (Src_L _) Dc (need_t hu9) rfl fun b10 nd=>?_
  refine M rfl rfl (TL.nil (hK7 _ _ ?_))
  refine TK.lay [(2,L s1)] nd (j:=0) rfl ⟨⟨_,rfl,fix_OL nd (j:=0) rfl,rfl⟩,trivial⟩ fun nd=>?_
  refine TK.ret ?_
  try dsimp only[thenQ]
  exact R1 rfl hX
theorem bc_group_Of:BodyC cx 14 25 [.c 4 38,.t 5] k14:=⟨Enters.of Tryz.func14 (by kernel_rfl) (by kernel_rfl),_,_,Tryz.func14,rfl,by kernel_rfl,rfl,rfl⟩
theorem ok_group_Of (l1:(List Seal_api)) (label2:Int) (r:(Seal_api×Bool)) (hX:X.group_Of l1 label2=some r):Fun Tryz.prog 14 [Enc.v (l1:(List Seal_api)),Enc.v (label2:Int)] (·= .tup 2 (ofL [Enc.v r.1,Enc.v r.2])):=by
 refine Fun.ofC (C:=cx) bc_group_Of (Nat.le_of_ble_eq_true rfl) (allVal.mem ⟨(by exact (v_val _)),(by exact (v_val _)),trivial⟩) ?_
 unfold k14
 have nd:Nd []:=Nd_nil
 unfold X.group_Of at hX
 refine SR fun K3 hK3=>?_
 refine TLc.alO (l:=[Enc.v ((0:Int):Int),Enc.v ((0:Int):Int),Enc.v ((0:Int):Int),Enc.v ((0:Int):Int),.nils]) nd ty38 ti38_z rfl rfl fun b4 nd=>?_
 refine M rfl rfl (TL.nil (hK3 _ _ ?_))
 refine TK.cvR nd (j:=0) rfl (l':=[Enc.v ((0:Int):Int),Enc.v ((0:Int):Int),Enc.v ((0:Int):Int),Enc.v ((0:Int):Int),Enc.v (([]:(List Int)):(List Int))]) ⟨Wk.refl _,Wk.refl _,Wk.refl _,Wk.refl _,Wk_nil,trivial⟩ fun nd=>?_
 refine TK.seq_k fun K5 hK5=>?_
 refine SR fun K6 hK6=>M rfl rfl (P1 (p_lenL (xs:=l1) kd33 rfl) rfl rfl (M rfl rfl (TL.nil (hK6 _ _ ?_))))
 refine TK.block ?_
 obtain ⟨o7,hO7,hA7⟩:=bind_some hX
 have E7:∀(env:Env) (h:Hp),(∃b10,keepE [4] env=[(4,true,.ref b10 0 5)]∧Nd [(b10,RV 38 [Enc.v ((0:Int):Int),Enc.v ((0:Int):Int),Enc.v ((0:Int):Int),Enc.v ((0:Int):Int),Enc.v (([]:(List Int)):(List Int))])]∧HSub [(b10,RV 38 [Enc.v ((0:Int):Int),Enc.v ((0:Int):Int),Enc.v ((0:Int):Int),Enc.v ((0:Int):Int),Enc.v (([]:(List Int)):(List Int))])] h)→X.group_Of_e7=some r→K5 env h:=by
  intro env h hE hX
  obtain ⟨b10,henv,nd,hs⟩:=hE
  unfold X.group_Of_e7 at hX
  refine hK5 _ _ (TK.keep [4] ?_)
  rw[henv]
  refine TK.subH hs ?_
  refine SR fun K11 hK11=>?_
  refine TLc.p (gc:=true) (p_bld (l:=[Enc.v ((0:Int):Int),Enc.v ((0:Int):Int),Enc.v ((0:Int):Int),Enc.v ((0:Int):Int),.nils]) ty38 rfl all38 rfl (fun _=>trivial)) rfl rfl (TL.wk (v':=Enc.v ((Seal_api.mk (0:Int) (0:Int) (0:Int) (0:Int) ([]:(List Int))):Seal_api)) (Wk_agg ⟨Wk.refl _,Wk.refl _,Wk.refl _,Wk.refl _,Wk_nil,trivial⟩) ?_)
  refine TLc.stV (lu:=Enc.cl ((Seal_api.mk (0:Int) (0:Int) (0:Int) (0:Int) ([]:(List Int))):Seal_api)) nd ty38 rfl (j:=0) rfl rfl rfl (Cells_v ((Seal_api.mk (0:Int) (0:Int) (0:Int) (0:Int) ([]:(List Int))):Seal_api)) rfl rfl [Enc.v ((Seal_api.mk (0:Int) (0:Int) (0:Int) (0:Int) ([]:(List Int))).Number:Int),Enc.v ((Seal_api.mk (0:Int) (0:Int) (0:Int) (0:Int) ([]:(List Int))).Index:Int),Enc.v ((Seal_api.mk (0:Int) (0:Int) (0:Int) (0:Int) ([]:(List Int))).Data:Int),Enc.v ((Seal_api.mk (0:Int) (0:Int) (0:Int) (0:Int) ([]:(List Int))).Parity:Int),Enc.v ((Seal_api.mk (0:Int) (0:Int) (0:Int) (0:Int) ([]:(List Int))).Labels:(List Int))] rfl fun nd=>?_
  refine M rfl rfl (TL.nil (hK11 _ _ ?_))
  refine TK.ret ?_
  try dsimp only[thenQ]
  exact retC [Enc.v ((Seal_api.mk (0:Int) (0:Int) (0:Int) (0:Int) ([]:(List Int))):Seal_api),Enc.v false] ⟨p_ldVa (l':=Enc.cl ((Seal_api.mk (0:Int) (0:Int) (0:Int) (0:Int) ([]:(List Int))):Seal_api)) ty38 rfl rfl nd (j:=0) rfl rfl rfl rfl (Nat.le_of_ble_eq_true rfl),p_mv rfl,trivial⟩ (by obtain rfl:=some_in hX;rfl) (tup_val (allVal.mem ⟨v_val _,v_val _,trivial⟩))
 refine TK.iter [1,4,8,9,10] (fun s env h=>match s with|x9=>∃b8,env=[(1,true,Enc.v label2),(4,true,.ref b8 0 5),(8,true,Enc.v l1),(9,true,Enc.v ((l1.length:Int):Int)),(10,true,Enc.v x9)]∧Nd [(b8,RV 38 [Enc.v ((0:Int):Int),Enc.v ((0:Int):Int),Enc.v ((0:Int):Int),Enc.v ((0:Int):Int),Enc.v (([]:(List Int)):(List Int))])]∧HSub [(b8,RV 38 [Enc.v ((0:Int):Int),Enc.v ((0:Int):Int),Enc.v ((0:Int):Int),Enc.v ((0:Int):Int),Enc.v (([]:(List Int)):(List Int))])] h) hO7 ⟨b4,rfl,(Nd.pick nd (is:=[0]) Dc),(HSub.pick nd (is:=[0]) Dc)⟩ ?_
 rintro x9 env h x7x ⟨b8,rfl,nd,hs⟩ hX hR7
 refine TK.subH hs ?_
 unfold X.group_Of_s7 at hX
 try dsimp only at hX
 refine SR fun K12 hK12=>P1 (p_lss rfl rfl) rfl rfl (TL.nil (hK12 _ _ ?_))
 refine TK.seq_k fun K13 hK13=>?_
 refine TK.cond (b:=(decide (x9<(l1.length:Int)))) rfl (fun hc=>?_) (fun hc=>?_)
 ·have hX:=ite_t hc hX
  refine TK.skip ?_
  refine hK13 _ _ ?_
  refine TK.seq_k fun K14 hK14=>?_
  refine TK.block ?_
  refine SR fun K15 hK15=>?_
  obtain ⟨e16,he16,hX⟩:=bind_some hX
  refine P1 (p_iaL (xs:=l1) kd33 ty38 rfl rfl rfl (fun _=>he16)) rfl rfl (P1 (p_ldE (xs:=l1) (a:=e16) (e16:Seal_api) ty38 rfl rfl (fun _=>he16) rfl rfl rfl) rfl rfl ?_)
  refine TLc.alO (l:=[Enc.v ((0:Int):Int),Enc.v ((0:Int):Int),Enc.v ((0:Int):Int),Enc.v ((0:Int):Int),.nils]) nd ty38 ti38_z rfl rfl fun b17 nd=>?_
  refine TLc.stV (lu:=Enc.cl (e16:Seal_api)) nd ty38 rfl (j:=0) rfl rfl rfl (Cells_v (e16:Seal_api)) rfl rfl [Enc.v e16.Number,Enc.v e16.Index,Enc.v e16.Data,Enc.v e16.Parity,Enc.v e16.Labels] rfl fun nd=>?_
  refine TL.nil (hK15 _ _ (SR fun K18 hK18=>P1 (p_faV fs38_4 Dc rfl nd (j:=0) rfl rfl) rfl rfl (P1 (p_ldV (v:=Enc.v e16.Labels) ty36 rfl rfl nd (j:=0) rfl rfl rfl rfl rfl) rfl rfl (M rfl rfl ?_))))
  obtain ⟨r19,hr19,hX⟩:=bind_some hX
  refine TL.cvX rfl rfl rfl (fun _=>⟨rfl,⟨rfl,⟨rfl,trivial⟩⟩⟩) (fun e=>ok_slices_Contains_Lint_int e16.Labels label2 _ hr19) ?_
  refine TL.nil (hK18 _ _ ?_)
  refine TK.cond (b:=r19) rfl (fun hc=>?_) (fun hc=>?_)
  ·have hX:=ite_t hc hX
   refine SR fun K20 hK20=>P1 (p_faV fs38_4 Dc rfl nd (j:=0) rfl rfl) rfl rfl (P1 (p_ldV (v:=Enc.v e16.Labels) ty36 rfl rfl nd (j:=0) rfl rfl rfl rfl rfl) rfl rfl ?_)
   obtain ⟨r21,hr21,hX⟩:=bind_some hX
   refine TL.cvX rfl rfl rfl (fun _=>⟨rfl,⟨rfl,trivial⟩⟩) (fun e=>ok_slices_Clone_Lint_int e16.Labels _ hr21) ?_
   refine P1 (p_faV fs38_4 Dc rfl nd (j:=0) rfl rfl) rfl rfl ?_
   refine TLc.stV (lu:=Enc.cl (r21:(List Int))) nd ty36 rfl (j:=0) rfl rfl rfl (Cells_v (r21:(List Int))) rfl rfl [Enc.v e16.Number,Enc.v e16.Index,Enc.v e16.Data,Enc.v e16.Parity,Enc.v r21] rfl fun nd=>?_
   refine TL.nil (hK20 _ _ (SR fun K22 hK22=>P1 (p_ldVa (l':=Enc.cl ((Seal_api.mk e16.Number e16.Index e16.Data e16.Parity r21):Seal_api)) ty38 rfl rfl nd (j:=0) rfl rfl rfl rfl (Nat.le_of_ble_eq_true rfl)) rfl rfl ?_))
   refine TLc.stV (lu:=Enc.cl ((Seal_api.mk e16.Number e16.Index e16.Data e16.Parity r21):Seal_api)) nd ty38 rfl (j:=1) rfl rfl rfl (Cells_v ((Seal_api.mk e16.Number e16.Index e16.Data e16.Parity r21):Seal_api)) rfl rfl [Enc.v ((Seal_api.mk e16.Number e16.Index e16.Data e16.Parity r21).Number:Int),Enc.v ((Seal_api.mk e16.Number e16.Index e16.Data e16.Parity r21).Index:Int),Enc.v ((Seal_api.mk e16.Number e16.Index e16.Data e16.Parity r21).Data:Int),Enc.v ((Seal_api.mk e16.Number e16.Index e16.Data e16.Parity r21).Parity:Int),Enc.v ((Seal_api.mk e16.Number e16.Index e16.Data e16.Parity r21).Labels:(List Int))] rfl fun nd=>?_
   refine M rfl rfl (TL.nil (hK22 _ _ ?_))
   refine TK.ret ?_
   obtain rfl:=hR7 _ (some_in hX).symm
   replace hX:=hA7
   try dsimp only[thenQ]
   exact retC [Enc.v ((Seal_api.mk e16.Number e16.Index e16.Data e16.Parity r21):Seal_api),Enc.v true] ⟨p_ldVa (l':=Enc.cl ((Seal_api.mk e16.Number e16.Index e16.Data e16.Parity r21):Seal_api)) ty38 rfl rfl nd (j:=1) rfl rfl rfl rfl (Nat.le_of_ble_eq_true rfl),p_mv rfl,trivial⟩ (by obtain rfl:=some_in hX;rfl) (tup_val (allVal.mem ⟨v_val _,v_val _,trivial⟩))
  ·have hX:=ite_f hc hX
   refine TK.skip ?_
   refine hK14 _ _ ?_
   refine TK.reg ?_
   refine P1 (p_add rfl rfl) rfl rfl (M rfl rfl (TL.nil ?_))
   exact ⟨_,(some_in hX).symm,b8,rfl,(Nd.pick nd (is:=[1]) Dc),(HSub.pick nd (is:=[1]) Dc)⟩
 ·have hX:=ite_f hc hX
  refine TK.exit ?_
  obtain rfl:=hR7 _ (some_in hX).symm
  exact E7 _ _ ⟨b8,rfl,(Nd.pick nd (is:=[0]) Dc),(HSub.pick nd (is:=[0]) Dc)⟩ hA7
theorem bc_cartridgeref10_Of:BodyC cx 15 39 [.c 4 38,.t 5] k15:=⟨Enters.of Tryz.func15 (by kernel_rfl) (by kernel_rfl),_,_,Tryz.func15,rfl,by kernel_rfl,rfl,rfl⟩
theorem ok_cartridgeref10_Of (l1:(List Seal_api)) (label2:Int) (r:(Seal_api×Bool)) (hX:X.cartridgeref10_Of l1 label2=some r):Fun Tryz.prog 15 [Enc.v (l1:(List Seal_api)),Enc.v (label2:Int)] (·= .tup 2 (ofL [Enc.v r.1,Enc.v r.2])):=by
 refine Fun.ofC (C:=cx) bc_cartridgeref10_Of (Nat.le_of_ble_eq_true rfl) (allVal.mem ⟨(by exact (v_val _)),(by exact (v_val _)),trivial⟩) ?_
 unfold k15
 have nd:Nd []:=Nd_nil
 unfold X.cartridgeref10_Of at hX
 refine SR fun K3 hK3=>?_
 refine TLc.alO (l:=[Enc.v ((0:Int):Int),Enc.v ((0:Int):Int),Enc.v ((0:Int):Int),Enc.v ((0:Int):Int),.nils]) nd ty38 ti38_z rfl rfl fun b4 nd=>?_
 refine M rfl rfl (TL.nil (hK3 _ _ ?_))
 refine TK.cvR nd (j:=0) rfl (l':=[Enc.v ((0:Int):Int),Enc.v ((0:Int):Int),Enc.v ((0:Int):Int),Enc.v ((0:Int):Int),Enc.v (([]:(List Int)):(List Int))]) ⟨Wk.refl _,Wk.refl _,Wk.refl _,Wk.refl _,Wk_nil,trivial⟩ fun nd=>?_
 refine TK.seq_k fun K5 hK5=>?_
 refine SR fun K6 hK6=>M rfl rfl (TL.nil (hK6 _ _ ?_))
 refine TK.block ?_
 obtain ⟨o7,hO7,hA7⟩:=bind_some hX
 have E7:∀(env:Env) (h:Hp),(∃b10,keepE [4] env=[(4,true,.ref b10 0 5)]∧Nd [(b10,RV 38 [Enc.v ((0:Int):Int),Enc.v ((0:Int):Int),Enc.v ((0:Int):Int),Enc.v ((0:Int):Int),Enc.v (([]:(List Int)):(List Int))])]∧HSub [(b10,RV 38 [Enc.v ((0:Int):Int),Enc.v ((0:Int):Int),Enc.v ((0:Int):Int),Enc.v ((0:Int):Int),Enc.v (([]:(List Int)):(List Int))])] h)→X.cartridgeref10_Of_e7=some r→K5 env h:=by
  intro env h hE hX
  obtain ⟨b10,henv,nd,hs⟩:=hE
  unfold X.cartridgeref10_Of_e7 at hX
  refine hK5 _ _ (TK.keep [4] ?_)
  rw[henv]
  refine TK.subH hs ?_
  refine SR fun K11 hK11=>?_
  refine TLc.p (gc:=true) (p_bld (l:=[Enc.v ((0:Int):Int),Enc.v ((0:Int):Int),Enc.v ((0:Int):Int),Enc.v ((0:Int):Int),.nils]) ty38 rfl all38 rfl (fun _=>trivial)) rfl rfl (TL.wk (v':=Enc.v ((Seal_api.mk (0:Int) (0:Int) (0:Int) (0:Int) ([]:(List Int))):Seal_api)) (Wk_agg ⟨Wk.refl _,Wk.refl _,Wk.refl _,Wk.refl _,Wk_nil,trivial⟩) ?_)
  refine TLc.stV (lu:=Enc.cl ((Seal_api.mk (0:Int) (0:Int) (0:Int) (0:Int) ([]:(List Int))):Seal_api)) nd ty38 rfl (j:=0) rfl rfl rfl (Cells_v ((Seal_api.mk (0:Int) (0:Int) (0:Int) (0:Int) ([]:(List Int))):Seal_api)) rfl rfl [Enc.v ((Seal_api.mk (0:Int) (0:Int) (0:Int) (0:Int) ([]:(List Int))).Number:Int),Enc.v ((Seal_api.mk (0:Int) (0:Int) (0:Int) (0:Int) ([]:(List Int))).Index:Int),Enc.v ((Seal_api.mk (0:Int) (0:Int) (0:Int) (0:Int) ([]:(List Int))).Data:Int),Enc.v ((Seal_api.mk (0:Int) (0:Int) (0:Int) (0:Int) ([]:(List Int))).Parity:Int),Enc.v ((Seal_api.mk (0:Int) (0:Int) (0:Int) (0:Int) ([]:(List Int))).Labels:(List Int))] rfl fun nd=>?_
  refine M rfl rfl (TL.nil (hK11 _ _ ?_))
  refine TK.ret ?_
  try dsimp only[thenQ]
  exact retC [Enc.v ((Seal_api.mk (0:Int) (0:Int) (0:Int) (0:Int) ([]:(List Int))):Seal_api),Enc.v false] ⟨p_ldVa (l':=Enc.cl ((Seal_api.mk (0:Int) (0:Int) (0:Int) (0:Int) ([]:(List Int))):Seal_api)) ty38 rfl rfl nd (j:=0) rfl rfl rfl rfl (Nat.le_of_ble_eq_true rfl),p_mv rfl,trivial⟩ (by obtain rfl:=some_in hX;rfl) (tup_val (allVal.mem ⟨v_val _,v_val _,trivial⟩))
 refine TK.iter [0,1,4,6] (fun s env h=>match s with|i9=>∃b8,env=[(0,true,Enc.v l1),(1,true,Enc.v label2),(4,true,.ref b8 0 5),(6,true,Enc.v i9)]∧Nd [(b8,RV 38 [Enc.v ((0:Int):Int),Enc.v ((0:Int):Int),Enc.v ((0:Int):Int),Enc.v ((0:Int):Int),Enc.v (([]:(List Int)):(List Int))])]∧HSub [(b8,RV 38 [Enc.v ((0:Int):Int),Enc.v ((0:Int):Int),Enc.v ((0:Int):Int),Enc.v ((0:Int):Int),Enc.v (([]:(List Int)):(List Int))])] h) hO7 ⟨b4,rfl,(Nd.pick nd (is:=[0]) Dc),(HSub.pick nd (is:=[0]) Dc)⟩ ?_
 rintro i9 env h x7x ⟨b8,rfl,nd,hs⟩ hX hR7
 refine TK.subH hs ?_
 unfold X.cartridgeref10_Of_s7 at hX
 try dsimp only at hX
 refine TK.seq_k fun K12 hK12=>?_
 refine SR fun K13 hK13=>M rfl rfl (M rfl rfl (P1 (p_lenL (xs:=l1) kd33 rfl) rfl rfl (P1 (p_lss rfl rfl) rfl rfl (TL.nil (hK13 _ _ ?_)))))
 refine TK.cond (b:=(decide (i9<(l1.length:Int)))) rfl (fun hc=>?_) (fun hc=>?_)
 ·have hX:=ite_t hc hX
  refine TK.skip ?_
  refine hK12 _ _ ?_
  refine TK.seq_k fun K14 hK14=>?_
  refine TK.block ?_
  refine SR fun K15 hK15=>M rfl rfl (TL.nil (hK15 _ _ ?_))
  refine TK.block ?_
  obtain ⟨o16,hO16,hA16⟩:=bind_some hX
  have E16:∀(env:Env) (h:Hp),(∃b19,keepE [0,1,4,6] env=[(0,true,Enc.v l1),(1,true,Enc.v label2),(4,true,.ref b19 0 5),(6,true,Enc.v i9)]∧Nd [(b19,RV 38 [Enc.v ((0:Int):Int),Enc.v ((0:Int):Int),Enc.v ((0:Int):Int),Enc.v ((0:Int):Int),Enc.v (([]:(List Int)):(List Int))])]∧HSub [(b19,RV 38 [Enc.v ((0:Int):Int),Enc.v ((0:Int):Int),Enc.v ((0:Int):Int),Enc.v ((0:Int):Int),Enc.v (([]:(List Int)):(List Int))])] h)→X.cartridgeref10_Of_e16 i9=some x7x→K14 env h:=by
   intro env h hE hX
   obtain ⟨b19,henv,nd,hs⟩:=hE
   unfold X.cartridgeref10_Of_e16 at hX
   refine hK14 _ _ (TK.keep [0,1,4,6] ?_)
   rw[henv]
   refine TK.subH hs ?_
   refine TK.reg ?_
   refine M rfl rfl (P1 (p_add rfl rfl) rfl rfl (M rfl rfl (TL.nil ?_)))
   exact ⟨_,(some_in hX).symm,b19,rfl,(Nd.pick nd (is:=[0]) Dc),(HSub.pick nd (is:=[0]) Dc)⟩
  refine TK.iter [0,1,4,6,7] (fun s env h=>match s with|k18=>∃b17,env=[(0,true,Enc.v l1),(1,true,Enc.v label2),(4,true,.ref b17 0 5),(6,true,Enc.v i9),(7,true,Enc.v k18)]∧Nd [(b17,RV 38 [Enc.v ((0:Int):Int),Enc.v ((0:Int):Int),Enc.v ((0:Int):Int),Enc.v ((0:Int):Int),Enc.v (([]:(List Int)):(List Int))])]∧HSub [(b17,RV 38 [Enc.v ((0:Int):Int),Enc.v ((0:Int):Int),Enc.v ((0:Int):Int),Enc.v ((0:Int):Int),Enc.v (([]:(List Int)):(List Int))])] h) hO16 ⟨b8,rfl,(Nd.pick nd (is:=[0]) Dc),(HSub.pick nd (is:=[0]) Dc)⟩ ?_
  rintro k18 env h x16x ⟨b17,rfl,nd,hs⟩ hX hR16
  refine TK.subH hs ?_
  unfold X.cartridgeref10_Of_s16 at hX
  try dsimp only at hX
  refine TK.seq_k fun K20 hK20=>?_
  refine SR fun K21 hK21=>M rfl rfl (M rfl rfl (M rfl rfl ?_))
  obtain ⟨e22,he22,hX⟩:=bind_some hX
  refine P1 (p_iaL (xs:=l1) kd33 ty38 rfl rfl rfl (fun _=>he22)) rfl rfl (P1 (p_faE fs38_4 Dc rfl) rfl rfl (P1 (p_ldE (xs:=l1) (a:=e22) (e22.Labels:(List Int)) ty36 rfl rfl (fun _=>he22) rfl rfl rfl) rfl rfl (P1 (p_lenL (xs:=e22.Labels) kd36 rfl) rfl rfl (P1 (p_lss rfl rfl) rfl rfl (TL.nil (hK21 _ _ ?_))))))
  refine TK.cond (b:=(decide (k18<(e22.Labels.length:Int)))) rfl (fun hc=>?_) (fun hc=>?_)
  ·have hX:=ite_t hc hX
   refine TK.skip ?_
   refine hK20 _ _ ?_
   refine TK.seq_k fun K23 hK23=>?_
   refine TK.block ?_
   refine SR fun K24 hK24=>M rfl rfl (M rfl rfl ?_)
   obtain ⟨e25,he25,hX⟩:=bind_some hX
   refine P1 (p_iaL (xs:=l1) kd33 ty38 rfl rfl rfl (fun _=>he25)) rfl rfl (P1 (p_faE fs38_4 Dc rfl) rfl rfl (P1 (p_ldE (xs:=l1) (a:=e25) (e25.Labels:(List Int)) ty36 rfl rfl (fun _=>he25) rfl rfl rfl) rfl rfl (M rfl rfl ?_)))
   obtain ⟨e26,he26,hX⟩:=bind_some hX
   refine P1 (p_iaL (xs:=e25.Labels) kd36 ty3 rfl rfl rfl (fun _=>he26)) rfl rfl (P1 (p_ldE (xs:=e25.Labels) (a:=e26) (e26:Int) ty3 rfl rfl (fun _=>he26) rfl rfl rfl) rfl rfl (M rfl rfl (P1 (p_eql rfl rfl) rfl rfl (TL.nil (hK24 _ _ ?_)))))
   refine TK.cond (b:=(e26==label2)) rfl (fun hc=>?_) (fun hc=>?_)
   ·have hX:=ite_t hc hX
    refine SR fun K27 hK27=>M rfl rfl (M rfl rfl ?_)
    obtain ⟨e28,he28,hX⟩:=bind_some hX
    refine P1 (p_iaL (xs:=l1) kd33 ty38 rfl rfl rfl (fun _=>he28)) rfl rfl (P1 (p_ldE (xs:=l1) (a:=e28) (e28:Seal_api) ty38 rfl rfl (fun _=>he28) rfl rfl rfl) rfl rfl ?_)
    refine TLc.stV (lu:=Enc.cl (e28:Seal_api)) nd ty38 rfl (j:=0) rfl rfl rfl (Cells_v (e28:Seal_api)) rfl rfl [Enc.v e28.Number,Enc.v e28.Index,Enc.v e28.Data,Enc.v e28.Parity,Enc.v e28.Labels] rfl fun nd=>?_
    refine M rfl rfl (TL.nil (hK27 _ _ ?_))
    refine TK.ret ?_
    obtain rfl:=hR16 _ (some_in hX).symm
    replace hX:=hA16
    obtain rfl:=hR7 _ (some_in hX).symm
    replace hX:=hA7
    try dsimp only[thenQ]
    exact retC [Enc.v e28,Enc.v true] ⟨p_ldVa (l':=Enc.cl (e28:Seal_api)) ty38 rfl rfl nd (j:=0) rfl rfl rfl rfl (Nat.le_of_ble_eq_true rfl),p_mv rfl,trivial⟩ (by obtain rfl:=some_in hX;rfl) (tup_val (allVal.mem ⟨v_val _,v_val _,trivial⟩))
   ·have hX:=ite_f hc hX
    refine TK.skip ?_
    refine hK23 _ _ ?_
    refine TK.reg ?_
    refine M rfl rfl (P1 (p_add rfl rfl) rfl rfl (M rfl rfl (TL.nil ?_)))
    exact ⟨_,(some_in hX).symm,b17,rfl,(Nd.pick nd (is:=[0]) Dc),(HSub.pick nd (is:=[0]) Dc)⟩
  ·have hX:=ite_f hc hX
   refine TK.exit ?_
   obtain rfl:=hR16 _ (some_in hX).symm
   exact E16 _ _ ⟨b17,rfl,(Nd.pick nd (is:=[0]) Dc),(HSub.pick nd (is:=[0]) Dc)⟩ hA16
 ·have hX:=ite_f hc hX
  refine TK.exit ?_
  obtain rfl:=hR7 _ (some_in hX).symm
  exact E7 _ _ ⟨b8,rfl,(Nd.pick nd (is:=[0]) Dc),(HSub.pick nd (is:=[0]) Dc)⟩ hA7
theorem ok_cartridgelaw14_GroupFinds (l1:(List Tape_api)) (label2:Int) (r:Bool) (hX:X.cartridgelaw14_GroupFinds l1 label2=some r):Fun Tryz.prog 4 [Enc.v (l1:(List Tape_api)),Enc.v (label2:Int)] (·=Enc.v (r:Bool)):=by
 refine Fun.of b4 (Nat.le_of_ble_eq_true rfl) (allVal.mem ⟨(by exact (v_val _)),(by exact (v_val _)),trivial⟩) ?_
 unfold k4
 have nd:Nd []:=Nd_nil
 unfold X.cartridgelaw14_GroupFinds at hX
 refine SR fun K3 hK3=>M rfl rfl (TL.nil (hK3 _ _ (SR fun K4 hK4=>?_)))
 obtain ⟨r5,hr5,hX⟩:=bind_some hX
 refine TL.cvX rfl rfl rfl (fun _=>⟨rfl,trivial⟩) (fun e=>ok_cartridgelaw14_alive _ hr5) ?_
 refine M rfl rfl (TL.nil (hK4 _ _ ?_))
 refine TK.seq_k fun K6 hK6=>?_
 refine SR fun K7 hK7=>M rfl rfl (P1 (p_not rfl) rfl rfl (M rfl rfl ?_))
 refine TLc.p (gc:=(!((!r5)))) (p_mv rfl (hg:=fun e=>rfl)) (gcF1 rfl) rfl ?_
 obtain ⟨r8,hr8,hX⟩:=bind_some hX
 refine TL.cvX (gcF1 rfl) rfl rfl (fun e=>⟨rfl,⟨e,trivial⟩⟩) (fun e=>ok_cartridgelaw13_Few l1 _ (optG_t hr8 e)) ?_
 refine TLc.p (gc:=(!((!r5)))) (p_not rfl (hg:=fun e=>e)) (gcF1 rfl) rfl ?_
 refine P1 (p_or rfl rfl (fun e=>⟨rfl,fun h=>(not_t h)⟩)) rfl rfl (TL.nil (hK7 _ _ ?_))
 refine TK.cond (b:=((!r5)||(!r8))) rfl (fun hc=>?_) (fun hc=>?_)
 ·have hX:=ite_t hc hX
  refine SR fun K9 hK9=>M rfl rfl (M rfl rfl (TL.nil (hK9 _ _ ?_)))
  refine TK.ret ?_
  try dsimp only[thenQ]
  exact R1 rfl hX
 ·have hX:=ite_f hc hX
  refine TK.skip ?_
  refine hK6 _ _ (SR fun K10 hK10=>M rfl rfl ?_)
  obtain ⟨r11,hr11,hX⟩:=bind_some hX
  refine TL.cvX rfl rfl rfl (fun _=>⟨rfl,⟨rfl,trivial⟩⟩) (fun e=>ok_group_Find l1 _ hr11) ?_
  refine M rfl rfl (TL.nil (hK10 _ _ (SR fun K12 hK12=>M rfl rfl ?_)))
  obtain ⟨r13,hr13,hX⟩:=bind_some hX
  refine TL.cvX rfl rfl rfl (fun _=>⟨rfl,⟨rfl,trivial⟩⟩) (fun e=>ok_cartridgeref10_Find l1 _ hr13) ?_
  refine M rfl rfl (TL.nil (hK12 _ _ ?_))
  refine TK.seq_k fun K14 hK14=>?_
  refine SR fun K15 hK15=>M rfl rfl (P1 (p_lenL (xs:=r11) kd33 rfl) rfl rfl (M rfl rfl (P1 (p_lenL (xs:=r13) kd33 rfl) rfl rfl (P1 (p_neq rfl rfl) rfl rfl (TL.nil (hK15 _ _ ?_))))))
  refine TK.cond (b:=((r11.length:Int) !=(r13.length:Int))) rfl (fun hc=>?_) (fun hc=>?_)
  ·have hX:=ite_t hc hX
   refine SR fun K16 hK16=>M rfl rfl (TL.nil (hK16 _ _ ?_))
   refine TK.ret ?_
   try dsimp only[thenQ]
   exact R1 rfl hX
  ·have hX:=ite_f hc hX
   refine TK.skip ?_
   refine hK14 _ _ ?_
   refine TK.seq_k fun K17 hK17=>?_
   refine SR fun K18 hK18=>M rfl rfl (TL.nil (hK18 _ _ ?_))
   refine TK.block ?_
   obtain ⟨o19,hO19,hA19⟩:=bind_some hX
   have E19:∀(env:Env) (h:Hp),(∃_u:Unit,keepE [1,7] env=[(1,true,Enc.v label2),(7,true,Enc.v r13)]∧Nd []∧HSub [] h)→X.cartridgelaw14_GroupFinds_e19 r13 label2=some r→K17 env h:=by
    intro env h hE hX
    obtain ⟨_u,henv,nd,hs⟩:=hE
    unfold X.cartridgelaw14_GroupFinds_e19 at hX
    refine hK17 _ _ (TK.keep [1,7] ?_)
    rw[henv]
    refine TK.subH hs ?_
    refine SR fun K21 hK21=>M rfl rfl (M rfl rfl ?_)
    obtain ⟨r22,hr22,hX⟩:=bind_some hX
    refine TL.cvX rfl rfl rfl (fun _=>⟨rfl,⟨rfl,⟨rfl,trivial⟩⟩⟩) (fun e=>ok_group_Of r13 label2 _ hr22) ?_
    refine M rfl rfl (P1 (p_ex rfl rfl Dc) rfl rfl (P1 (p_ex rfl rfl Dc) rfl rfl ?_))
    refine TLc.alO (l:=[Enc.v ((0:Int):Int),Enc.v ((0:Int):Int),Enc.v ((0:Int):Int),Enc.v ((0:Int):Int),.nils]) nd ty38 ti38_z rfl rfl fun b23 nd=>?_
    refine TLc.stV (lu:=Enc.cl (r22.1:Seal_api)) nd ty38 rfl (j:=0) rfl rfl rfl (Cells_v (r22.1:Seal_api)) rfl rfl [Enc.v r22.1.Number,Enc.v r22.1.Index,Enc.v r22.1.Data,Enc.v r22.1.Parity,Enc.v r22.1.Labels] rfl fun nd=>?_
    refine M rfl rfl (TL.nil (hK21 _ _ (SR fun K24 hK24=>M rfl rfl (M rfl rfl ?_))))
    obtain ⟨r25,hr25,hX⟩:=bind_some hX
    refine TL.cvX rfl rfl rfl (fun _=>⟨rfl,⟨rfl,⟨rfl,trivial⟩⟩⟩) (fun e=>ok_cartridgeref10_Of r13 label2 _ hr25) ?_
    refine M rfl rfl (P1 (p_ex rfl rfl Dc) rfl rfl (P1 (p_ex rfl rfl Dc) rfl rfl ?_))
    refine TLc.alO (l:=[Enc.v ((0:Int):Int),Enc.v ((0:Int):Int),Enc.v ((0:Int):Int),Enc.v ((0:Int):Int),.nils]) nd ty38 ti38_z rfl rfl fun b26 nd=>?_
    refine TLc.stV (lu:=Enc.cl (r25.1:Seal_api)) nd ty38 rfl (j:=0) rfl rfl rfl (Cells_v (r25.1:Seal_api)) rfl rfl [Enc.v r25.1.Number,Enc.v r25.1.Index,Enc.v r25.1.Data,Enc.v r25.1.Parity,Enc.v r25.1.Labels] rfl fun nd=>?_
    refine M rfl rfl (TL.nil (hK24 _ _ (SR fun K27 hK27=>M rfl rfl (M rfl rfl (P1 (p_eqB kd4 rfl rfl) rfl rfl (M rfl rfl ?_))))))
    refine TLc.p (gc:=((r22.2==r25.2))) (p_ldVa (l':=Enc.cl (r22.1:Seal_api)) ty38 rfl rfl nd (j:=1) rfl rfl rfl rfl (Nat.le_of_ble_eq_true rfl) (hg:=fun e=>rfl)) (gcT1 rfl) rfl ?_
    refine TLc.p (gc:=((r22.2==r25.2))) (p_ldVa (l':=Enc.cl (r25.1:Seal_api)) ty38 rfl rfl nd (j:=0) rfl rfl rfl rfl (Nat.le_of_ble_eq_true rfl) (hg:=fun e=>rfl)) (gcT1 rfl) rfl ?_
    obtain ⟨r28,hr28,hX⟩:=bind_some hX
    refine TL.cvX (gcT1 rfl) rfl rfl (fun e=>⟨rfl,⟨e,⟨e,trivial⟩⟩⟩) (fun e=>ok_cartridgeref10_SameSeal r22.1 r25.1 _ (optG_t hr28 e)) ?_
    refine P1 (p_and rfl rfl (fun e=>⟨rfl,fun h=>h⟩)) rfl rfl (M rfl rfl (TL.nil (hK27 _ _ ?_)))
    refine TK.ret ?_
    try dsimp only[thenQ]
    exact R1 rfl hX
   refine TK.iter [1,6,7,8] (fun s env h=>match s with|i20=>∃_u:Unit,env=[(1,true,Enc.v label2),(6,true,Enc.v r11),(7,true,Enc.v r13),(8,true,Enc.v i20)]∧Nd []∧HSub [] h) hO19 ⟨(),rfl,Nd_nil,HSub.refl _⟩ ?_
   rintro i20 env h x19x ⟨_u,rfl,nd,hs⟩ hX hR19
   refine TK.subH hs ?_
   unfold X.cartridgelaw14_GroupFinds_s19 at hX
   try dsimp only at hX
   refine TK.seq_k fun K29 hK29=>?_
   refine SR fun K30 hK30=>M rfl rfl (M rfl rfl (P1 (p_lenL (xs:=r11) kd33 rfl) rfl rfl (P1 (p_lss rfl rfl) rfl rfl (TL.nil (hK30 _ _ ?_)))))
   refine TK.cond (b:=(decide (i20<(r11.length:Int)))) rfl (fun hc=>?_) (fun hc=>?_)
   ·have hX:=ite_t hc hX
    refine TK.skip ?_
    refine hK29 _ _ ?_
    refine TK.seq_k fun K31 hK31=>?_
    refine TK.block ?_
    refine TK.seq_k fun K32 hK32=>?_
    have ndS:Nd []:=Nd.pick nd (is:=[]) Dc
    refine TK.drwX (h:=[]) (hS:=[]) [(0,0),(0,1),(0,2),(0,3),(0,4),(0,5),(0,6),(0,7),(0,8),(0,9)] mixed (by kernel_rfl) (HSub_app nd) ?_
    refine DM rfl rfl rfl ?_
    refine DM rfl rfl rfl ?_
    obtain ⟨e33,he33,hX⟩:=bind_some hX
    refine D0 rfl (p_iaL (xs:=r11) kd33 ty38 rfl rfl rfl (fun _=>he33)) rfl rfl ?_
    refine D0 rfl (p_ldE (xs:=r11) (a:=e33) (e33:Seal_api) ty38 rfl rfl (fun _=>he33) rfl rfl rfl) rfl rfl ?_
    refine DM rfl rfl rfl ?_
    refine DM rfl rfl rfl ?_
    obtain ⟨e34,he34,hX⟩:=bind_some hX
    refine D0 rfl (p_iaL (xs:=r13) kd33 ty38 rfl rfl rfl (fun _=>he34)) rfl rfl ?_
    refine D0 rfl (p_ldE (xs:=r13) (a:=e34) (e34:Seal_api) ty38 rfl rfl (fun _=>he34) rfl rfl rfl) rfl rfl ?_
    obtain ⟨r35,hr35,hX⟩:=bind_some hX
    refine DR0 (gc:=true) rfl (vok_c rfl (fun _=>⟨rfl,⟨rfl,⟨rfl,trivial⟩⟩⟩) (fun e=>ok_cartridgeref10_SameSeal e33 e34 _ hr35)) rfl rfl ?_
    refine D0 rfl (p_not rfl) rfl rfl ?_
    refine DRend ?_
    refine hK32 _ _ ?_
    refine TK.cond (b:=(!r35)) rfl (fun hc=>?_) (fun hc=>?_)
    ·have hX:=ite_t hc hX
     refine SR fun K36 hK36=>M rfl rfl (TL.nil (hK36 _ _ ?_))
     refine TK.ret ?_
     obtain rfl:=hR19 _ (some_in hX).symm
     replace hX:=hA19
     try dsimp only[thenQ]
     exact R1 rfl hX
    ·have hX:=ite_f hc hX
     refine TK.skip ?_
     refine hK31 _ _ ?_
     refine TK.reg ?_
     refine M rfl rfl (P1 (p_add rfl rfl) rfl rfl (M rfl rfl (TL.nil ?_)))
     exact ⟨_,(some_in hX).symm,(),rfl,Nd_nil,HSub.refl _⟩
   ·have hX:=ite_f hc hX
    refine TK.exit ?_
    obtain rfl:=hR19 _ (some_in hX).symm
    exact E19 _ _ ⟨(),rfl,Nd_nil,HSub.refl _⟩ hA19
end Go.Proofs.YtfpldlnbhjmckaaGreat
