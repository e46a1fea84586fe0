import Derived.Test.YtndjbcnpgggddaaXFn
import Derived.Test.YtndjbcnpgggddaaXS
import Derived.Test.YtndjbcnpgggddaaAmK0
import Derived.Test.YtndjbcnpgggddaaAmK1
import Derived.Test.YtndjbcnpgggddaaXP1
namespace Go.Proofs.Ytndjbcnpgggddaa
open Go.AM Go.AX
set_option linter.unusedVariables false
set_option maxRecDepth 20000
theorem bc_cartridgeref10_Sealed:BodyC cx 53 34 [.c 2 50,.t 3] k53:=⟨Enters.of Try.func53 (by kernel_rfl) (by kernel_rfl),_,_,Try.func53,rfl,by kernel_rfl,rfl,rfl⟩
theorem ok_cartridgeref10_Sealed (t1:Tape_api) (r:(Seal_api×Bool)) (hX:X.cartridgeref10_Sealed t1=some r):Fun Try.prog 53 [Enc.v (t1:Tape_api)] (·= .tup 2 (ofL [Enc.v r.1,Enc.v r.2])):=by
 refine Fun.ofC (C:=cx) bc_cartridgeref10_Sealed (Nat.le_of_ble_eq_true rfl) (allVal.mem ⟨(by exact (v_val _)),trivial⟩) ?_
 unfold k53
 have nd:Nd []:=Nd_nil
 unfold X.cartridgeref10_Sealed at hX
 refine SR fun K2 hK2=>?_
 refine TLc.boxV (lu:=[Enc.v t1.Label,Enc.v t1.Cap,Enc.v t1.Blocks,Enc.v t1.Lost]) nd rfl (Cells_v (t1:Tape_api)) rfl ?_
 refine TLc.alO (l:=[Enc.v ((0:Int):Int),Enc.v ((0:Int):Int),Enc.v ((0:Int):Int),Enc.v ((0:Int):Int),.nils]) nd ty50 ti50_z rfl rfl fun b3 nd=>?_
 refine M rfl rfl (TL.nil (hK2 _ _ ?_))
 refine TK.cvR nd (j:=0) rfl (l':=[Enc.v ((0:Int):Int),Enc.v ((0:Int):Int),Enc.v ((0:Int):Int),Enc.v ((0:Int):Int),Enc.v (([]:(List Int)):(List Int))]) ⟨Wk.refl _,Wk.refl _,Wk.refl _,Wk.refl _,Wk_nil,trivial⟩ fun nd=>?_
 refine SR fun K4 hK4=>P1 (p_ldRa (l':=Enc.cl (t1:Tape_api)) ty54 rfl rfl rfl rfl rfl (Nat.le_of_ble_eq_true rfl)) rfl rfl (P1 (p_faR fs54_2 Dc rfl) rfl rfl (P1 (p_ldR (v:=Enc.v t1.Blocks) ty22 rfl rfl rfl rfl rfl rfl) rfl rfl (P1 (p_lenL (xs:=t1.Blocks) kd22 rfl) rfl rfl (P1 (p_sub rfl rfl) rfl rfl ?_))))
 obtain ⟨r5,hr5,hX⟩:=bind_some hX
 refine TL.cvX rfl rfl rfl (fun _=>⟨rfl,⟨rfl,⟨rfl,trivial⟩⟩⟩) (fun e=>ok_cartridgeref10_Good t1 (wr ((t1.Blocks.length:Int)-(1:Int))) _ hr5) ?_
 refine M rfl rfl (P1 (p_ex rfl rfl Dc) rfl rfl (P1 (p_ex rfl rfl Dc) rfl rfl ?_))
 refine TLc.alO (l:=[Enc.v ((0:Int):Int),Enc.v ((0:Int):Int),Enc.v ((0:Int):Int),.nils]) nd ty68 ti68_z rfl rfl fun b6 nd=>?_
 refine TLc.stV (lu:=Enc.cl (r5.1:Unit_api)) nd ty68 rfl (j:=0) rfl rfl rfl (Cells_v (r5.1:Unit_api)) rfl rfl [Enc.v r5.1.Kind,Enc.v r5.1.Label,Enc.v r5.1.Number,Enc.v r5.1.Load] rfl fun nd=>?_
 refine M rfl rfl (TL.nil (hK4 _ _ ?_))
 refine TK.seq_k fun K7 hK7=>?_
 refine SR fun K8 hK8=>M rfl rfl (P1 (p_not rfl) rfl rfl (M rfl rfl ?_))
 refine TLc.p (gc:=(!((!r5.2)))) (p_faV fs68_0 Dc rfl nd (j:=0) rfl rfl (hg:=fun e=>rfl)) (gcF1 rfl) rfl ?_
 refine TLc.p (gc:=(!((!r5.2)))) (p_ldV (v:=Enc.v r5.1.Kind) ty3 rfl rfl nd (j:=0) rfl rfl rfl rfl rfl (hg:=fun e=>e)) (gcF1 rfl) rfl ?_
 refine TLc.p (gc:=(!((!r5.2)))) (p_neq rfl rfl (hg:=fun e=>⟨e,rfl⟩)) (gcF1 rfl) rfl ?_
 refine P1 (p_or rfl rfl (fun e=>⟨rfl,fun h=>(not_t h)⟩)) rfl rfl (TL.nil (hK8 _ _ ?_))
 refine TK.cond (b:=((!r5.2)||(r5.1.Kind !=(5:Int)))) rfl (fun hc=>?_) (fun hc=>?_)
 ·have hX:=ite_t hc hX
  refine SR fun K9 hK9=>?_
  refine TLc.p (gc:=true) (p_bld (l:=[Enc.v ((0:Int):Int),Enc.v ((0:Int):Int),Enc.v ((0:Int):Int),Enc.v ((0:Int):Int),.nils]) ty50 rfl all50 rfl (fun _=>trivial)) rfl rfl (TL.wk (v':=Enc.v ((Seal_api.mk (0:Int) (0:Int) (0:Int) (0:Int) ([]:(List Int))):Seal_api)) (Wk_agg ⟨Wk.refl _,Wk.refl _,Wk.refl _,Wk.refl _,Wk_nil,trivial⟩) ?_)
  refine TLc.stV (lu:=Enc.cl ((Seal_api.mk (0:Int) (0:Int) (0:Int) (0:Int) ([]:(List Int))):Seal_api)) nd ty50 rfl (j:=1) rfl rfl rfl (Cells_v ((Seal_api.mk (0:Int) (0:Int) (0:Int) (0:Int) ([]:(List Int))):Seal_api)) rfl rfl [Enc.v ((Seal_api.mk (0:Int) (0:Int) (0:Int) (0:Int) ([]:(List Int))).Number:Int),Enc.v ((Seal_api.mk (0:Int) (0:Int) (0:Int) (0:Int) ([]:(List Int))).Index:Int),Enc.v ((Seal_api.mk (0:Int) (0:Int) (0:Int) (0:Int) ([]:(List Int))).Data:Int),Enc.v ((Seal_api.mk (0:Int) (0:Int) (0:Int) (0:Int) ([]:(List Int))).Parity:Int),Enc.v ((Seal_api.mk (0:Int) (0:Int) (0:Int) (0:Int) ([]:(List Int))).Labels:(List Int))] rfl fun nd=>?_
  refine M rfl rfl (TL.nil (hK9 _ _ ?_))
  refine TK.ret ?_
  try dsimp only[thenQ]
  exact retC [Enc.v ((Seal_api.mk (0:Int) (0:Int) (0:Int) (0:Int) ([]:(List Int))):Seal_api),Enc.v false] ⟨p_ldVa (l':=Enc.cl ((Seal_api.mk (0:Int) (0:Int) (0:Int) (0:Int) ([]:(List Int))):Seal_api)) ty50 rfl rfl nd (j:=1) rfl rfl rfl rfl (Nat.le_of_ble_eq_true rfl),p_mv rfl,trivial⟩ (by obtain rfl:=some_in hX;rfl) (tup_val (allVal.mem ⟨v_val _,v_val _,trivial⟩))
 ·have hX:=ite_f hc hX
  refine TK.skip ?_
  refine hK7 _ _ (SR fun K10 hK10=>P1 (p_faV fs68_3 Dc rfl nd (j:=0) rfl rfl) rfl rfl (P1 (p_ldV (v:=Enc.v r5.1.Load) ty25 rfl rfl nd (j:=0) rfl rfl rfl rfl rfl) rfl rfl ?_))
  obtain ⟨r11,hr11,hX⟩:=bind_some hX
  refine TL.cvX rfl rfl rfl (fun _=>⟨rfl,⟨rfl,trivial⟩⟩) (fun e=>ok_cartridgeref10_ReadSeal r5.1.Load _ hr11) ?_
  refine M rfl rfl (P1 (p_ex rfl rfl Dc) rfl rfl (P1 (p_ex rfl rfl Dc) rfl rfl ?_))
  refine TLc.alO (l:=[Enc.v ((0:Int):Int),Enc.v ((0:Int):Int),Enc.v ((0:Int):Int),Enc.v ((0:Int):Int),.nils]) nd ty50 ti50_z rfl rfl fun b12 nd=>?_
  refine TLc.stV (lu:=Enc.cl (r11.1:Seal_api)) nd ty50 rfl (j:=0) rfl rfl rfl (Cells_v (r11.1:Seal_api)) rfl rfl [Enc.v r11.1.Number,Enc.v r11.1.Index,Enc.v r11.1.Data,Enc.v r11.1.Parity,Enc.v r11.1.Labels] rfl fun nd=>?_
  refine M rfl rfl (TL.nil (hK10 _ _ (SR fun K13 hK13=>P1 (p_ldVa (l':=Enc.cl (r11.1:Seal_api)) ty50 rfl rfl nd (j:=0) rfl rfl rfl rfl (Nat.le_of_ble_eq_true rfl)) rfl rfl (M rfl rfl (P1 (p_eql rfl rfl) rfl rfl ?_)))))
  refine TLc.stV (lu:=Enc.cl (r11.1:Seal_api)) nd ty50 rfl (j:=2) rfl rfl rfl (Cells_v (r11.1:Seal_api)) rfl rfl [Enc.v r11.1.Number,Enc.v r11.1.Index,Enc.v r11.1.Data,Enc.v r11.1.Parity,Enc.v r11.1.Labels] rfl fun nd=>?_
  refine M rfl rfl (TL.nil (hK13 _ _ ?_))
  refine TK.ret ?_
  try dsimp only[thenQ]
  exact retC [Enc.v r11.1,Enc.v ((r11.2==(0:Int)):Bool)] ⟨p_ldVa (l':=Enc.cl (r11.1:Seal_api)) ty50 rfl rfl nd (j:=2) rfl rfl rfl rfl (Nat.le_of_ble_eq_true rfl),p_mv rfl,trivial⟩ (by obtain rfl:=some_in hX;rfl) (tup_val (allVal.mem ⟨v_val _,v_val _,trivial⟩))
theorem ok_cartridgelaw15_num (e1:Int) (r:Int) (hX:X.cartridgelaw15_num e1=some r):Fun Try.prog 33 [Enc.v (e1:Int)] (·=Enc.v (r:Int)):=by
 refine Fun.of b33 (Nat.le_of_ble_eq_true rfl) (allVal.mem ⟨(by exact (v_val _)),trivial⟩) ?_
 unfold k33
 have nd:Nd []:=Nd_nil
 unfold X.cartridgelaw15_num at hX
 refine SR fun K2 hK2=>M rfl rfl (TL.nil (hK2 _ _ (SR fun K3 hK3=>M rfl rfl (M rfl rfl (TL.nil (hK3 _ _ ?_))))))
 refine TK.ret ?_
 try dsimp only[thenQ]
 exact R1 rfl hX
theorem ok_cartridgelaw15_alive (r:Bool) (hX:X.cartridgelaw15_alive=some r):Fun Try.prog 29 [] (·=Enc.v (r:Bool)):=by
 refine Fun.of b29 (Nat.le_of_ble_eq_true rfl) (fun x hx=>by cases hx) ?_
 unfold k29
 have nd:Nd []:=Nd_nil
 unfold X.cartridgelaw15_alive at hX
 refine SR fun K1 hK1=>M rfl rfl (TL.nil (hK1 _ _ (SR fun K2 hK2=>?_)))
 refine TLc.p (gc:=true) (p_bld (l:=[Enc.v ((0:Int):Int),Enc.v ((0:Int):Int),Enc.v ((0:Int):Int),Enc.v ((0:Int):Int),.nils]) ty50 rfl all50 rfl (fun _=>trivial)) rfl rfl (TL.wk (v':=Enc.v ((Seal_api.mk (0:Int) (0:Int) (0:Int) (0:Int) ([]:(List Int))):Seal_api)) (Wk_agg ⟨Wk.refl _,Wk.refl _,Wk.refl _,Wk.refl _,Wk_nil,trivial⟩) ?_)
 obtain ⟨r3,hr3,hX⟩:=bind_some hX
 refine TL.cvX rfl rfl rfl (fun _=>⟨rfl,⟨rfl,⟨rfl,⟨rfl,⟨rfl,trivial⟩⟩⟩⟩⟩) (fun e=>(Fun.wk (args':=[L ([]:List Tape_api),Enc.v ((Seal_api.mk (0:Int) (0:Int) (0:Int) (0:Int) ([]:(List Int))):Seal_api),Enc.v ((1:Int):Int),Enc.v ((0:Int):Int)]) ⟨Wk_nil,Wk.refl _,Wk.refl _,Wk.refl _,trivial⟩ (ok_mend_Block ([]:List Tape_api) (Seal_api.mk (0:Int) (0:Int) (0:Int) (0:Int) ([]:(List Int))) (1:Int) (0:Int) _ hr3))) ?_
 refine M rfl rfl (P1 (p_ex rfl rfl Dc) rfl rfl (P1 (p_ex rfl rfl Dc) rfl rfl (M rfl rfl (M rfl rfl (TL.nil (hK2 _ _ (SR fun K4 hK4=>?_)))))))
 refine TLc.litO nd ([(68:UInt8)]:List UInt8) kd25 ty5 rfl ⟨⟨rfl,rfl⟩,trivial⟩ rfl rfl rfl fun b5 nd=>?_
 refine TLc.cvtF (xs:=([(68:UInt8)]:List UInt8)) nd kd25 kd5 rfl (j:=0) rfl (by simp) rfl fun nd=>?_
 refine P1 (p_bld (l:=Enc.cl ((Unit_api.mk (1:Int) (1:Int) (0:Int) ([(68:UInt8)]:List UInt8)):Unit_api)) ty68 rfl all68 rfl (fun _=>⟨⟨rfl,trivial,rfl⟩,⟨rfl,trivial,rfl⟩,⟨rfl,trivial,rfl⟩,trivial⟩)) rfl rfl ?_
 obtain ⟨r6,hr6,hX⟩:=bind_some hX
 refine TL.cvX rfl rfl rfl (fun _=>⟨rfl,⟨rfl,trivial⟩⟩) (fun e=>ok_cartridgeref1_PutFrame (Unit_api.mk (1:Int) (1:Int) (0:Int) ([(68:UInt8)]:List UInt8)) _ hr6) ?_
 refine M rfl rfl (P1 (p_ex rfl rfl Dc) rfl rfl (P1 (p_ex rfl rfl Dc) rfl rfl (M rfl rfl (M rfl rfl (TL.nil (hK4 _ _ (SR fun K7 hK7=>M rfl rfl ?_)))))))
 refine TLc.lit ([r6.1]:List (List UInt8)) kd22 ty25 rfl ⟨⟨rfl,rfl⟩,trivial⟩ rfl rfl rfl ?_
 refine P1 (p_bld (l:=Enc.cl ((Tape_api.mk (1:Int) (4:Int) ([r6.1]:List (List UInt8)) false):Tape_api)) ty54 rfl all54 rfl (fun _=>⟨⟨rfl,trivial,rfl⟩,⟨rfl,trivial,rfl⟩,⟨rfl,trivial,rfl⟩,trivial⟩)) rfl rfl ?_
 refine TLc.litO nd ([(Tape_api.mk (1:Int) (4:Int) ([r6.1]:List (List UInt8)) false)]:List Tape_api) kd48 ty54 rfl ⟨⟨rfl,rfl⟩,trivial⟩ rfl rfl rfl fun b8 nd=>?_
 refine TLc.p (gc:=true) (p_bld (l:=[Enc.v ((2:Int):Int),Enc.v ((4:Int):Int),.nils,Enc.v false]) ty54 rfl all54 rfl (fun _=>⟨⟨rfl,trivial,rfl⟩,⟨rfl,trivial,rfl⟩,trivial⟩)) rfl rfl (TL.wk (v':=Enc.v ((Tape_api.mk (2:Int) (4:Int) ([]:(List (List UInt8))) false):Tape_api)) (Wk_agg ⟨Wk.refl _,Wk.refl _,Wk_nil,Wk.refl _,trivial⟩) ?_)
 refine TLc.lit ([(Tape_api.mk (2:Int) (4:Int) ([]:(List (List UInt8))) false)]:List Tape_api) kd48 ty54 rfl ⟨⟨rfl,rfl⟩,trivial⟩ rfl rfl rfl ?_
 obtain ⟨r9,hr9,hX⟩:=bind_some hX
 refine TL.tcX [(b8,RL (α:=Tape_api) 54 ([(Tape_api.mk (1:Int) (4:Int) ([r6.1]:List (List UInt8)) false)]:List Tape_api))] [] rfl nd (dlt rfl) rfl ⟨rfl,⟨rfl,⟨rfl,⟨rfl,trivial⟩⟩⟩⟩ (ok_cartridgeref10_Make_kp0 ([(Tape_api.mk (2:Int) (4:Int) ([]:(List (List UInt8))) false)]:List Tape_api) (1:Int) ([(Tape_api.mk (1:Int) (4:Int) ([r6.1]:List (List UInt8)) false)]:List Tape_api) b8 (Nd.take nd 1 rfl) _ hr9) ?_
 rintro _ _ hQ nd
 obtain ⟨rfl,rfl⟩:=hQ
 refine M rfl rfl (P1 (p_ex rfl rfl Dc) rfl rfl (P1 (p_ex rfl rfl Dc) rfl rfl (M rfl rfl (M rfl rfl (TL.nil (hK7 _ _ (SR fun K10 hK10=>M rfl rfl ?_)))))))
 obtain ⟨e11,he11,hX⟩:=bind_some hX
 refine P1 (p_iaL (xs:=r9.1) kd48 ty54 rfl rfl rfl (fun _=>he11)) rfl rfl (P1 (p_ldE (xs:=r9.1) (a:=e11) (e11:Tape_api) ty54 rfl rfl (fun _=>he11) rfl rfl rfl) rfl rfl ?_)
 obtain ⟨r12,hr12,hX⟩:=bind_some hX
 refine TL.cvX rfl rfl rfl (fun _=>⟨rfl,⟨rfl,trivial⟩⟩) (fun e=>ok_cartridgeref10_Sealed e11 _ hr12) ?_
 refine M rfl rfl (P1 (p_ex rfl rfl Dc) rfl rfl (P1 (p_ex rfl rfl Dc) rfl rfl ?_))
 refine TLc.alO (l:=[Enc.v ((0:Int):Int),Enc.v ((0:Int):Int),Enc.v ((0:Int):Int),Enc.v ((0:Int):Int),.nils]) nd ty50 ti50_z rfl rfl fun b13 nd=>?_
 refine TLc.stV (lu:=Enc.cl (r12.1:Seal_api)) nd ty50 rfl (j:=0) rfl rfl rfl (Cells_v (r12.1:Seal_api)) rfl rfl [Enc.v r12.1.Number,Enc.v r12.1.Index,Enc.v r12.1.Data,Enc.v r12.1.Parity,Enc.v r12.1.Labels] rfl fun nd=>?_
 refine M rfl rfl (TL.nil (hK10 _ _ (SR fun K14 hK14=>M rfl rfl (P1 (p_ldVa (l':=Enc.cl (r12.1:Seal_api)) ty50 rfl rfl nd (j:=0) rfl rfl rfl rfl (Nat.le_of_ble_eq_true rfl)) rfl rfl ?_))))
 obtain ⟨r15,hr15,hX⟩:=bind_some hX
 refine TL.cvX rfl rfl rfl (fun _=>⟨rfl,⟨rfl,⟨rfl,⟨rfl,⟨rfl,trivial⟩⟩⟩⟩⟩) (fun e=>ok_mend_Block r9.1 r12.1 (1:Int) (0:Int) _ hr15) ?_
 refine M rfl rfl (P1 (p_ex rfl rfl Dc) rfl rfl (P1 (p_ex rfl rfl Dc) rfl rfl (M rfl rfl (M rfl rfl (TL.nil (hK14 _ _ (SR fun K16 hK16=>M rfl rfl ?_)))))))
 obtain ⟨r17,hr17,hX⟩:=bind_some hX
 refine TL.cvX rfl rfl rfl (fun _=>⟨rfl,⟨rfl,trivial⟩⟩) (fun e=>ok_cartridgelaw15_num r3.2 _ hr17) ?_
 refine P1 (p_eql rfl rfl) rfl rfl (M rfl rfl ?_)
 refine TLc.p (gc:=((r17==(1:Int)))) (p_mv rfl (hg:=fun e=>rfl)) (gcT1 rfl) rfl ?_
 obtain ⟨r18,hr18,hX⟩:=bind_some hX
 refine TL.cvX (gcT1 rfl) rfl rfl (fun e=>⟨rfl,⟨e,trivial⟩⟩) (fun e=>ok_cartridgelaw15_num r15.2 _ (optG_t hr18 e)) ?_
 refine TLc.p (gc:=((r17==(1:Int)))) (p_eql rfl rfl (hg:=fun e=>⟨e,rfl⟩)) (gcT1 rfl) rfl ?_
 refine P1 (p_and rfl rfl (fun e=>⟨rfl,fun h=>h⟩)) rfl rfl (M rfl rfl ?_)
 refine TLc.p (gc:=(((r17==(1:Int))&&(r18==(0:Int))))) (p_mv rfl (hg:=fun e=>rfl)) (gcT1 rfl) rfl ?_
 refine TL.ofV (gc:=(((r17==(1:Int))&&(r18==(0:Int))))) (vok_cvtBS (C:=cx) (gc:=(((r17==(1:Int))&&(r18==(0:Int))))) (xs:=r15.1) kd25 kd5 kd9 rfl (look_v (v:=Enc.v r15.1) (v_val _)) (hg:=fun e=>e)) (gcT1 rfl) rfl ?_
 refine TLc.p (gc:=(((r17==(1:Int))&&(r18==(0:Int))))) (p_mv rfl (hg:=fun e=>rfl)) (gcT1 rfl) rfl ?_
 refine TL.ofV (gc:=(((r17==(1:Int))&&(r18==(0:Int))))) (vok_cvtBS (C:=cx) (gc:=(((r17==(1:Int))&&(r18==(0:Int))))) (xs:=r6.1) kd25 kd5 kd9 rfl (look_v (v:=Enc.v r6.1) (v_val _)) (hg:=fun e=>e)) (gcT1 rfl) rfl ?_
 refine TLc.p (gc:=(((r17==(1:Int))&&(r18==(0:Int))))) (ps_eql (s:=(Str.mk r15.1)) (r:=(Str.mk r6.1)) rfl rfl (hg:=fun e=>⟨e,e⟩)) (gcT1 rfl) rfl ?_
 refine P1 (p_and rfl rfl (fun e=>⟨rfl,fun h=>h⟩)) rfl rfl (M rfl rfl (TL.nil (hK16 _ _ ?_)))
 refine TK.ret ?_
 try dsimp only[thenQ]
 exact R1 rfl hX
theorem bc_cartridgelaw15_laid_or:BodyC cx 30 97 [.t 4,.c 5 50,.t 6] k30:=⟨Enters.of Try.func30 (by kernel_rfl) (by kernel_rfl),_,_,Try.func30,rfl,by kernel_rfl,rfl,rfl⟩
theorem ok_cartridgelaw15_laid_or (sizes1:(List Int)) (parity2:Int) (nd:Nd []) (r:((List Tape_api)×Seal_api×Bool)) (hX:X.cartridgelaw15_laid_or sizes1 parity2=some r):TCX Try.prog 30 [Enc.v (sizes1:(List Int)),Enc.v (parity2:Int)] [] (fun rv h'=>∃b84,rv= .tup 3 (ofL [OL (α:=Tape_api) b84 r.1,Enc.v (r.2.1:Seal_api),Enc.v (r.2.2:Bool)])∧h'=[(b84,RL (α:=Tape_api) 54 r.1)]):=by
 refine TCX.ofD (C:=cx) bc_cartridgelaw15_laid_or (Nat.le_of_ble_eq_true rfl) ?_
 unfold k30
 unfold X.cartridgelaw15_laid_or at hX
 refine SR fun K3 hK3=>M rfl rfl ?_
 refine TLc.alO (l:=[Enc.v ((0:Int):Int),Enc.v ((0:Int):Int),Enc.v ((0:Int):Int),Enc.v ((0:Int):Int),.nils]) nd ty50 ti50_z rfl rfl fun b4 nd=>?_
 refine M rfl rfl (TL.nil (hK3 _ _ ?_))
 refine TK.cvR nd (j:=0) rfl (l':=[Enc.v ((0:Int):Int),Enc.v ((0:Int):Int),Enc.v ((0:Int):Int),Enc.v ((0:Int):Int),Enc.v (([]:(List Int)):(List Int))]) ⟨Wk.refl _,Wk.refl _,Wk.refl _,Wk.refl _,Wk_nil,trivial⟩ fun nd=>?_
 refine SR fun K5 hK5=>M rfl rfl (M rfl rfl (TL.nil (hK5 _ _ ?_)))
 refine TK.ownL (α:=Tape_api) 7 54 nd rfl (.inl rfl) fun b6 nd=>?_
 refine TK.ownL (α:=Tape_api) 8 54 nd rfl (.inl rfl) fun b7 nd=>?_
 refine TK.seq_k fun K8 hK8=>?_
 refine SR fun K9 hK9=>M rfl rfl (TL.nil (hK9 _ _ ?_))
 refine TK.block ?_
 obtain ⟨o10,hO10,hA10⟩:=bind_some hX
 have E10:∀(l18:List Tape_api) (env:Env) (h:Hp),(∃b16 b17 b19,keepE [1,5,7,8] env=[(1,true,Enc.v parity2),(5,true,.ref b16 0 5),(7,true,OL b17 l18),(8,true,OL (α:=Tape_api) b19 ([]:List Tape_api))]∧Nd [(b16,RV 50 [Enc.v ((0:Int):Int),Enc.v ((0:Int):Int),Enc.v ((0:Int):Int),Enc.v ((0:Int):Int),Enc.v (([]:(List Int)):(List Int))]),(b17,RL (α:=Tape_api) 54 l18),(b19,RL (α:=Tape_api) 54 ([]:List Tape_api))]∧HSub [(b16,RV 50 [Enc.v ((0:Int):Int),Enc.v ((0:Int):Int),Enc.v ((0:Int):Int),Enc.v ((0:Int):Int),Enc.v (([]:(List Int)):(List Int))]),(b17,RL (α:=Tape_api) 54 l18),(b19,RL (α:=Tape_api) 54 ([]:List Tape_api))] h)→X.cartridgelaw15_laid_or_e10 parity2 l18=some r→K8 env h:=by
  intro l18 env h hE hX
  obtain ⟨b16,b17,b19,henv,nd,hs⟩:=hE
  unfold X.cartridgelaw15_laid_or_e10 at hX
  refine hK8 _ _ (TK.keep [1,5,7,8] ?_)
  rw[henv]
  refine TK.subH hs ?_
  refine TK.seq_k fun K20 hK20=>?_
  refine SR fun K21 hK21=>M rfl rfl (TL.nil (hK21 _ _ ?_))
  refine TK.block ?_
  obtain ⟨o22,hO22,hA22⟩:=bind_some hX
  have E22:∀(l31:List Tape_api) (env:Env) (h:Hp),(∃b28 b29 b30,keepE [5,7,8] env=[(5,true,.ref b28 0 5),(7,true,OL b29 l18),(8,true,OL b30 l31)]∧Nd [(b28,RV 50 [Enc.v ((0:Int):Int),Enc.v ((0:Int):Int),Enc.v ((0:Int):Int),Enc.v ((0:Int):Int),Enc.v (([]:(List Int)):(List Int))]),(b29,RL (α:=Tape_api) 54 l18),(b30,RL (α:=Tape_api) 54 l31)]∧HSub [(b28,RV 50 [Enc.v ((0:Int):Int),Enc.v ((0:Int):Int),Enc.v ((0:Int):Int),Enc.v ((0:Int):Int),Enc.v (([]:(List Int)):(List Int))]),(b29,RL (α:=Tape_api) 54 l18),(b30,RL (α:=Tape_api) 54 l31)] h)→X.cartridgelaw15_laid_or_e22 l18 l31=some r→K20 env h:=by
   intro l31 env h hE hX
   obtain ⟨b28,b29,b30,henv,nd,hs⟩:=hE
   unfold X.cartridgelaw15_laid_or_e22 at hX
   refine hK20 _ _ (TK.keep [5,7,8] ?_)
   rw[henv]
   refine TK.subH hs ?_
   refine SR fun K32 hK32=>M rfl rfl (M rfl rfl ?_)
   refine TL.lay [(74,L l31)] nd (j:=2) rfl ⟨⟨_,rfl,fix_OL nd (j:=2) rfl,rfl⟩,trivial⟩ fun nd=>?_
   obtain ⟨r33,hr33,hX⟩:=bind_some hX
   refine TL.pick [1,0] nd Dc fun nd=>?_
   refine TL.tcX [(b29,RL (α:=Tape_api) 54 l18)] [(b28,RV 50 [Enc.v ((0:Int):Int),Enc.v ((0:Int):Int),Enc.v ((0:Int):Int),Enc.v ((0:Int):Int),Enc.v (([]:(List Int)):(List Int))])] rfl nd (dlt rfl) rfl ⟨rfl,⟨rfl,⟨rfl,⟨rfl,trivial⟩⟩⟩⟩ (ok_cartridgeref10_Make_kp0 l31 (3:Int) l18 b29 (Nd.take nd 1 rfl) _ hr33) ?_
   rintro _ _ hQ nd
   obtain ⟨rfl,rfl⟩:=hQ
   refine M rfl rfl (P1 (p_ex rfl rfl Dc) rfl rfl (P1 (p_ex rfl rfl Dc) rfl rfl (M rfl rfl (M rfl rfl (TL.nil (hK32 _ _ ?_))))))
   refine TK.seq_k fun K34 hK34=>?_
   refine SR fun K35 hK35=>M rfl rfl (P1 (p_neq rfl rfl) rfl rfl (M rfl rfl ?_))
   refine TLc.p (gc:=(!((r33.2 !=(0:Int))))) (p_mv rfl (hg:=fun e=>rfl)) (gcF1 rfl) rfl ?_
   refine TLc.p (gc:=(!((r33.2 !=(0:Int))))) (p_lenL (xs:=r33.1) kd48 rfl (hg:=fun e=>e)) (gcF1 rfl) rfl ?_
   refine TLc.p (gc:=(!((r33.2 !=(0:Int))))) (p_eql rfl rfl (hg:=fun e=>⟨e,rfl⟩)) (gcF1 rfl) rfl ?_
   refine P1 (p_or rfl rfl (fun e=>⟨rfl,fun h=>(not_t h)⟩)) rfl rfl (TL.nil (hK35 _ _ ?_))
   refine TK.cond (b:=((r33.2 !=(0:Int))||((r33.1.length:Int)==(0:Int)))) rfl (fun hc=>?_) (fun hc=>?_)
   ·have hX:=ite_t hc hX
    refine SR fun K36 hK36=>?_
    refine TLc.p (gc:=true) (p_bld (l:=[Enc.v ((0:Int):Int),Enc.v ((0:Int):Int),Enc.v ((0:Int):Int),Enc.v ((0:Int):Int),.nils]) ty50 rfl all50 rfl (fun _=>trivial)) rfl rfl (TL.wk (v':=Enc.v ((Seal_api.mk (0:Int) (0:Int) (0:Int) (0:Int) ([]:(List Int))):Seal_api)) (Wk_agg ⟨Wk.refl _,Wk.refl _,Wk.refl _,Wk.refl _,Wk_nil,trivial⟩) ?_)
    refine M rfl rfl ?_
    refine TLc.stV (lu:=Enc.cl ((Seal_api.mk (0:Int) (0:Int) (0:Int) (0:Int) ([]:(List Int))):Seal_api)) nd ty50 rfl (j:=1) rfl rfl rfl (Cells_v ((Seal_api.mk (0:Int) (0:Int) (0:Int) (0:Int) ([]:(List Int))):Seal_api)) rfl rfl [Enc.v ((Seal_api.mk (0:Int) (0:Int) (0:Int) (0:Int) ([]:(List Int))).Number:Int),Enc.v ((Seal_api.mk (0:Int) (0:Int) (0:Int) (0:Int) ([]:(List Int))).Index:Int),Enc.v ((Seal_api.mk (0:Int) (0:Int) (0:Int) (0:Int) ([]:(List Int))).Data:Int),Enc.v ((Seal_api.mk (0:Int) (0:Int) (0:Int) (0:Int) ([]:(List Int))).Parity:Int),Enc.v ((Seal_api.mk (0:Int) (0:Int) (0:Int) (0:Int) ([]:(List Int))).Labels:(List Int))] rfl fun nd=>?_
    refine M rfl rfl (TL.nil (hK36 _ _ ?_))
    refine TK.ownL (α:=Tape_api) 4 54 nd rfl (.inl rfl) fun b37 nd=>?_
    refine TK.ret ?_
    try dsimp only[thenQ]
    exact retXD [0] [OL (α:=Tape_api) b37 ([]:List Tape_api),Enc.v ((Seal_api.mk (0:Int) (0:Int) (0:Int) (0:Int) ([]:(List Int))):Seal_api),Enc.v false] nd Dc ⟨p_mv rfl,p_ldVa (l':=Enc.cl ((Seal_api.mk (0:Int) (0:Int) (0:Int) (0:Int) ([]:(List Int))):Seal_api)) ty50 rfl rfl nd (j:=2) rfl rfl rfl rfl (Nat.le_of_ble_eq_true rfl),p_mv rfl,trivial⟩ (fun nd=>⟨(by obtain rfl:=some_in hX;exact ⟨b37,rfl,rfl⟩),(inH_tup (l:=[OL (α:=Tape_api) b37 ([]:List Tape_api),Enc.v ((Seal_api.mk (0:Int) (0:Int) (0:Int) (0:Int) ([]:(List Int))):Seal_api),Enc.v false]) ⟨inH_rs nd (j:=0) rfl,inH_val (v_val _),inH_val (v_val _),trivial⟩),⟨rowIn_RL,trivial⟩⟩)
   ·have hX:=ite_f hc hX
    refine TK.skip ?_
    refine hK34 _ _ (SR fun K38 hK38=>M rfl rfl ?_)
    obtain ⟨e39,he39,hX⟩:=bind_some hX
    refine P1 (p_iaL (xs:=r33.1) kd48 ty54 rfl rfl rfl (fun _=>he39)) rfl rfl (P1 (p_ldE (xs:=r33.1) (a:=e39) (e39:Tape_api) ty54 rfl rfl (fun _=>he39) rfl rfl rfl) rfl rfl ?_)
    obtain ⟨r40,hr40,hX⟩:=bind_some hX
    refine TL.cvX rfl rfl rfl (fun _=>⟨rfl,⟨rfl,trivial⟩⟩) (fun e=>ok_cartridgeref10_Sealed e39 _ hr40) ?_
    refine M rfl rfl (P1 (p_ex rfl rfl Dc) rfl rfl (P1 (p_ex rfl rfl Dc) rfl rfl ?_))
    refine TLc.alO (l:=[Enc.v ((0:Int):Int),Enc.v ((0:Int):Int),Enc.v ((0:Int):Int),Enc.v ((0:Int):Int),.nils]) nd ty50 ti50_z rfl rfl fun b41 nd=>?_
    refine TLc.stV (lu:=Enc.cl (r40.1:Seal_api)) nd ty50 rfl (j:=0) rfl rfl rfl (Cells_v (r40.1:Seal_api)) rfl rfl [Enc.v r40.1.Number,Enc.v r40.1.Index,Enc.v r40.1.Data,Enc.v r40.1.Parity,Enc.v r40.1.Labels] rfl fun nd=>?_
    refine M rfl rfl (TL.nil (hK38 _ _ ?_))
    refine TK.seq_k fun K42 hK42=>?_
    refine TK.pick [1,2,0] nd Dc fun nd=>?_
    have ndS:Nd [(b41,RV 50 [Enc.v r40.1.Number,Enc.v r40.1.Index,Enc.v r40.1.Data,Enc.v r40.1.Parity,Enc.v r40.1.Labels])]:=Nd.pick nd (is:=[2]) Dc
    refine TK.drwX (h:=[(b29,RL (α:=Tape_api) 54 l18),(b28,RV 50 [Enc.v ((0:Int):Int),Enc.v ((0:Int):Int),Enc.v ((0:Int):Int),Enc.v ((0:Int):Int),Enc.v (([]:(List Int)):(List Int))])]) (hS:=[(b41,RV 50 [Enc.v r40.1.Number,Enc.v r40.1.Index,Enc.v r40.1.Data,Enc.v r40.1.Parity,Enc.v r40.1.Labels])]) [(0,0),(0,1),(0,3),(2,2),(0,4),(2,5),(0,6)] mixed (by kernel_rfl) (HSub_app nd) ?_
    refine DM rfl rfl rfl ?_
    refine DM rfl rfl rfl ?_
    refine D0 rfl (p_ldVa (l':=Enc.cl (r40.1:Seal_api)) ty50 rfl rfl ndS (j:=0) rfl rfl rfl rfl (Nat.le_of_ble_eq_true rfl)) rfl rfl ?_
    obtain ⟨u43,hu43,hX⟩:=bind_some hX
    refine DR2 rfl rfl ?_
    refine TLc.appO nd kd48 bo48 ty54 rfl rfl (j:=0) rfl rfl (Src_L _) Dc (need_t hu43) rfl fun nd=>?_
    refine TL.nil ⟨_,[(b29,RL (α:=Tape_api) 54 (l18++r33.1)),(b28,RV 50 [Enc.v ((0:Int):Int),Enc.v ((0:Int):Int),Enc.v ((0:Int):Int),Enc.v ((0:Int):Int),Enc.v (([]:(List Int)):(List Int))])],rfl,rfl,HSub_app nd,?_⟩
    refine DM rfl rfl rfl ?_
    refine DR2n rfl ?_
    refine TLc.stV (lu:=Enc.cl (r40.1:Seal_api)) nd ty50 rfl (j:=1) rfl rfl rfl (Cells_v (r40.1:Seal_api)) rfl rfl [Enc.v r40.1.Number,Enc.v r40.1.Index,Enc.v r40.1.Data,Enc.v r40.1.Parity,Enc.v r40.1.Labels] rfl fun nd=>?_
    refine TL.nil ⟨.nilp,[(b29,RL (α:=Tape_api) 54 (l18++r33.1)),(b28,RV 50 [Enc.v r40.1.Number,Enc.v r40.1.Index,Enc.v r40.1.Data,Enc.v r40.1.Parity,Enc.v r40.1.Labels])],rfl,rfl,HSub_app nd,?_⟩
    refine DM rfl rfl rfl ?_
    refine DRend ?_
    refine hK42 _ _ ?_
    refine TK.ret ?_
    try dsimp only[thenQ]
    exact retXD [0] [OL (α:=Tape_api) b29 (l18++r33.1),Enc.v r40.1,Enc.v true] nd Dc ⟨p_mv rfl,p_ldVa (l':=Enc.cl (r40.1:Seal_api)) ty50 rfl rfl nd (j:=1) rfl rfl rfl rfl (Nat.le_of_ble_eq_true rfl),p_mv rfl,trivial⟩ (fun nd=>⟨(by obtain rfl:=some_in hX;exact ⟨b29,rfl,rfl⟩),(inH_tup (l:=[OL (α:=Tape_api) b29 (l18++r33.1),Enc.v r40.1,Enc.v true]) ⟨inH_rs nd (j:=0) rfl,inH_val (v_val _),inH_val (v_val _),trivial⟩),⟨rowIn_RL,trivial⟩⟩)
  refine TK.iter [1,5,7,8,14] (fun s env h=>match s with|(blank26,i27)=>∃b23 b24 b25,env=[(1,true,Enc.v parity2),(5,true,.ref b23 0 5),(7,true,OL b24 l18),(8,true,OL b25 blank26),(14,true,Enc.v i27)]∧Nd [(b23,RV 50 [Enc.v ((0:Int):Int),Enc.v ((0:Int):Int),Enc.v ((0:Int):Int),Enc.v ((0:Int):Int),Enc.v (([]:(List Int)):(List Int))]),(b24,RL (α:=Tape_api) 54 l18),(b25,RL (α:=Tape_api) 54 blank26)]∧HSub [(b23,RV 50 [Enc.v ((0:Int):Int),Enc.v ((0:Int):Int),Enc.v ((0:Int):Int),Enc.v ((0:Int):Int),Enc.v (([]:(List Int)):(List Int))]),(b24,RL (α:=Tape_api) 54 l18),(b25,RL (α:=Tape_api) 54 blank26)] h) hO22 ⟨b16,b17,b19,rfl,(Nd.pick nd (is:=[0,1,2]) Dc),(HSub.pick nd (is:=[0,1,2]) Dc)⟩ ?_
  rintro ⟨blank26,i27⟩ env h x22x ⟨b23,b24,b25,rfl,nd,hs⟩ hX hR22
  refine TK.subH hs ?_
  unfold X.cartridgelaw15_laid_or_s22 at hX
  try dsimp only at hX
  refine TK.seq_k fun K44 hK44=>?_
  refine SR fun K45 hK45=>M rfl rfl (M rfl rfl (P1 (p_lss rfl rfl) rfl rfl (TL.nil (hK45 _ _ ?_))))
  refine TK.cond (b:=(decide (i27<parity2))) rfl (fun hc=>?_) (fun hc=>?_)
  ·have hX:=ite_t hc hX
   refine TK.skip ?_
   refine hK44 _ _ ?_
   refine TK.seq_k fun K46 hK46=>?_
   refine TK.block ?_
   refine TK.reg ?_
   refine M rfl rfl (M rfl rfl (P1 (p_add rfl rfl) rfl rfl ?_))
   refine TLc.p (gc:=true) (p_bld (l:=[Enc.v ((wr ((100:Int)+i27)):Int),Enc.v ((20:Int):Int),.nils,Enc.v false]) ty54 rfl all54 rfl (fun _=>⟨⟨rfl,trivial,rfl⟩,⟨rfl,trivial,rfl⟩,trivial⟩)) rfl rfl (TL.wk (v':=Enc.v ((Tape_api.mk (wr ((100:Int)+i27)) (20:Int) ([]:(List (List UInt8))) false):Tape_api)) (Wk_agg ⟨Wk.refl _,Wk.refl _,Wk_nil,Wk.refl _,trivial⟩) ?_)
   refine TLc.lit ([(Tape_api.mk (wr ((100:Int)+i27)) (20:Int) ([]:(List (List UInt8))) false)]:List Tape_api) kd48 ty54 rfl ⟨⟨rfl,rfl⟩,trivial⟩ rfl rfl rfl ?_
   obtain ⟨u47,hu47,hX⟩:=bind_some hX
   refine TLc.appO nd kd48 bo48 ty54 rfl rfl (j:=2) rfl rfl (Src_L _) Dc (need_t hu47) rfl fun nd=>?_
   refine M rfl rfl (TL.nil (hK46 _ _ ?_))
   refine TK.reg ?_
   refine M rfl rfl (P1 (p_add rfl rfl) rfl rfl (M rfl rfl (TL.nil ?_)))
   exact ⟨_,(some_in hX).symm,b23,b24,b25,rfl,(Nd.pick nd (is:=[0,1,2]) Dc),(HSub.pick nd (is:=[0,1,2]) Dc)⟩
  ·have hX:=ite_f hc hX
   refine TK.exit ?_
   obtain rfl:=hR22 _ (some_in hX).symm
   exact E22 blank26 _ _ ⟨b23,b24,b25,rfl,(Nd.pick nd (is:=[0,1,2]) Dc),(HSub.pick nd (is:=[0,1,2]) Dc)⟩ hA22
 refine TK.iter [0,1,5,7,8,9] (fun s env h=>match s with|(data13,i15)=>∃b11 b12 b14,env=[(0,true,Enc.v sizes1),(1,true,Enc.v parity2),(5,true,.ref b11 0 5),(7,true,OL b12 data13),(8,true,OL (α:=Tape_api) b14 ([]:List Tape_api)),(9,true,Enc.v i15)]∧Nd [(b11,RV 50 [Enc.v ((0:Int):Int),Enc.v ((0:Int):Int),Enc.v ((0:Int):Int),Enc.v ((0:Int):Int),Enc.v (([]:(List Int)):(List Int))]),(b12,RL (α:=Tape_api) 54 data13),(b14,RL (α:=Tape_api) 54 ([]:List Tape_api))]∧HSub [(b11,RV 50 [Enc.v ((0:Int):Int),Enc.v ((0:Int):Int),Enc.v ((0:Int):Int),Enc.v ((0:Int):Int),Enc.v (([]:(List Int)):(List Int))]),(b12,RL (α:=Tape_api) 54 data13),(b14,RL (α:=Tape_api) 54 ([]:List Tape_api))] h) hO10 ⟨b4,b6,b7,rfl,(Nd.pick nd (is:=[2,1,0]) Dc),(HSub.pick nd (is:=[2,1,0]) Dc)⟩ ?_
 rintro ⟨data13,i15⟩ env h x10x ⟨b11,b12,b14,rfl,nd,hs⟩ hX hR10
 refine TK.subH hs ?_
 unfold X.cartridgelaw15_laid_or_s10 at hX
 try dsimp only at hX
 refine TK.seq_k fun K48 hK48=>?_
 refine SR fun K49 hK49=>M rfl rfl (M rfl rfl (P1 (p_lenL (xs:=sizes1) kd47 rfl) rfl rfl (P1 (p_lss rfl rfl) rfl rfl (TL.nil (hK49 _ _ ?_)))))
 refine TK.cond (b:=(decide (i15<(sizes1.length:Int)))) rfl (fun hc=>?_) (fun hc=>?_)
 ·have hX:=ite_t hc hX
  refine TK.skip ?_
  refine hK48 _ _ ?_
  refine TK.seq_k fun K50 hK50=>?_
  refine TK.block ?_
  refine SR fun K51 hK51=>M rfl rfl (P1 (p_add rfl rfl) rfl rfl (P1 (p_bld (l:=[Enc.v ((wr (i15+(1:Int))):Int),Enc.v ((20:Int):Int),.nils,Enc.v false]) ty54 rfl all54 rfl (fun _=>⟨⟨rfl,trivial,rfl⟩,⟨rfl,trivial,rfl⟩,trivial⟩)) rfl rfl ?_))
  refine TLc.alO (l:=[Enc.v ((0:Int):Int),Enc.v ((0:Int):Int),.nils,Enc.v false]) nd ty54 ti54_z rfl rfl fun b52 nd=>?_
  refine TLc.stV (lu:=[Enc.v ((wr (i15+(1:Int))):Int),Enc.v ((20:Int):Int),.nils,Enc.v false]) nd ty54 rfl (j:=0) rfl rfl rfl (Cells_agg rfl (allA.mem ⟨trivial,trivial,trivial,trivial,trivial⟩)) rfl rfl [Enc.v ((wr (i15+(1:Int))):Int),Enc.v ((20:Int):Int),.nils,Enc.v false] rfl fun nd=>?_
  refine TL.nil (hK51 _ _ ?_)
  refine TK.ownC (α:=(List UInt8)) nd (j:=0) rfl 2 25 (.inl rfl) fun b53 nd=>?_
  refine TK.seq_k fun K54 hK54=>?_
  refine SR fun K55 hK55=>M rfl rfl (TL.nil (hK55 _ _ ?_))
  refine TK.block ?_
  obtain ⟨o56,hO56,hA56⟩:=bind_some hX
  have E56:∀(c71:Int) (c72:Int) (l74:List (List UInt8)) (c75:Bool) (env:Env) (h:Hp),(∃b67 b68 b69 b73 b70,keepE [0,1,5,7,8,9,10] env=[(0,true,Enc.v sizes1),(1,true,Enc.v parity2),(5,true,.ref b67 0 5),(7,true,OL b68 data13),(8,true,OL (α:=Tape_api) b69 ([]:List Tape_api)),(9,true,Enc.v i15),(10,true,.ref b70 0 4)]∧Nd [(b67,RV 50 [Enc.v ((0:Int):Int),Enc.v ((0:Int):Int),Enc.v ((0:Int):Int),Enc.v ((0:Int):Int),Enc.v (([]:(List Int)):(List Int))]),(b68,RL (α:=Tape_api) 54 data13),(b69,RL (α:=Tape_api) 54 ([]:List Tape_api)),(b73,RL (α:=(List UInt8)) 25 l74),(b70,RV 54 [Enc.v c71,Enc.v c72,OL b73 l74,Enc.v c75])]∧HSub [(b67,RV 50 [Enc.v ((0:Int):Int),Enc.v ((0:Int):Int),Enc.v ((0:Int):Int),Enc.v ((0:Int):Int),Enc.v (([]:(List Int)):(List Int))]),(b68,RL (α:=Tape_api) 54 data13),(b69,RL (α:=Tape_api) 54 ([]:List Tape_api)),(b73,RL (α:=(List UInt8)) 25 l74),(b70,RV 54 [Enc.v c71,Enc.v c72,OL b73 l74,Enc.v c75])] h)→X.cartridgelaw15_laid_or_e56 data13 i15 c71 c72 l74 c75=some x10x→K54 env h:=by
   intro c71 c72 l74 c75 env h hE hX
   obtain ⟨b67,b68,b69,b73,b70,henv,nd,hs⟩:=hE
   unfold X.cartridgelaw15_laid_or_e56 at hX
   refine hK54 _ _ (TK.keep [0,1,5,7,8,9,10] ?_)
   rw[henv]
   refine TK.subH hs ?_
   refine TK.reg ?_
   refine M rfl rfl ?_
   refine TL.layR (l2':=[Enc.v c71,Enc.v c72,Enc.v l74,Enc.v c75]) [] nd (j:=3) rfl 4 rfl rfl ⟨fix_id _,fix_id _,fix_OL nd (j:=3) rfl,fix_id _,trivial⟩ trivial fun nd=>?_
   refine P1 (p_ldVa (l':=Enc.cl ((Tape_api.mk c71 c72 l74 c75):Tape_api)) ty54 rfl rfl nd (j:=3) rfl rfl rfl rfl (Nat.le_of_ble_eq_true rfl)) rfl rfl ?_
   refine TLc.lit ([(Tape_api.mk c71 c72 l74 c75)]:List Tape_api) kd48 ty54 rfl ⟨⟨rfl,rfl⟩,trivial⟩ rfl rfl rfl ?_
   obtain ⟨u76,hu76,hX⟩:=bind_some hX
   refine TLc.appO nd kd48 bo48 ty54 rfl rfl (j:=1) rfl rfl (Src_L _) Dc (need_t hu76) rfl fun nd=>?_
   refine M rfl rfl (TL.nil (hK50 _ _ ?_))
   refine TK.reg ?_
   refine M rfl rfl (P1 (p_add rfl rfl) rfl rfl (M rfl rfl (TL.nil ?_)))
   exact ⟨_,(some_in hX).symm,b67,b68,b69,rfl,(Nd.pick nd (is:=[0,1,2]) Dc),(HSub.pick nd (is:=[0,1,2]) Dc)⟩
  refine TK.iter [0,1,5,7,8,9,10,11] (fun s env h=>match s with|(c61,c62,l64,c65,k66)=>∃b57 b58 b59 b63 b60,env=[(0,true,Enc.v sizes1),(1,true,Enc.v parity2),(5,true,.ref b57 0 5),(7,true,OL b58 data13),(8,true,OL (α:=Tape_api) b59 ([]:List Tape_api)),(9,true,Enc.v i15),(10,true,.ref b60 0 4),(11,true,Enc.v k66)]∧Nd [(b57,RV 50 [Enc.v ((0:Int):Int),Enc.v ((0:Int):Int),Enc.v ((0:Int):Int),Enc.v ((0:Int):Int),Enc.v (([]:(List Int)):(List Int))]),(b58,RL (α:=Tape_api) 54 data13),(b59,RL (α:=Tape_api) 54 ([]:List Tape_api)),(b63,RL (α:=(List UInt8)) 25 l64),(b60,RV 54 [Enc.v c61,Enc.v c62,OL b63 l64,Enc.v c65])]∧HSub [(b57,RV 50 [Enc.v ((0:Int):Int),Enc.v ((0:Int):Int),Enc.v ((0:Int):Int),Enc.v ((0:Int):Int),Enc.v (([]:(List Int)):(List Int))]),(b58,RL (α:=Tape_api) 54 data13),(b59,RL (α:=Tape_api) 54 ([]:List Tape_api)),(b63,RL (α:=(List UInt8)) 25 l64),(b60,RV 54 [Enc.v c61,Enc.v c62,OL b63 l64,Enc.v c65])] h) hO56 ⟨b11,b12,b14,b53,b52,rfl,(Nd.pick nd (is:=[2,3,4,0,1]) Dc),(HSub.pick nd (is:=[2,3,4,0,1]) Dc)⟩ ?_
  rintro ⟨c61,c62,l64,c65,k66⟩ env h x56x ⟨b57,b58,b59,b63,b60,rfl,nd,hs⟩ hX hR56
  refine TK.subH hs ?_
  unfold X.cartridgelaw15_laid_or_s56 at hX
  try dsimp only at hX
  refine TK.seq_k fun K77 hK77=>?_
  refine SR fun K78 hK78=>M rfl rfl (M rfl rfl (M rfl rfl ?_))
  obtain ⟨e79,he79,hX⟩:=bind_some hX
  refine P1 (p_iaL (xs:=sizes1) kd47 ty3 rfl rfl rfl (fun _=>he79)) rfl rfl (P1 (p_ldE (xs:=sizes1) (a:=e79) (e79:Int) ty3 rfl rfl (fun _=>he79) rfl rfl rfl) rfl rfl (P1 (p_and64 rfl rfl) rfl rfl (P1 (p_add rfl rfl) rfl rfl (P1 (p_lss rfl rfl) rfl rfl (TL.nil (hK78 _ _ ?_))))))
  refine TK.cond (b:=(decide (k66<(wr ((1:Int)+(and64 e79 (7:Int))))))) rfl (fun hc=>?_) (fun hc=>?_)
  ·have hX:=ite_t hc hX
   refine TK.skip ?_
   refine hK77 _ _ ?_
   refine TK.seq_k fun K80 hK80=>?_
   refine TK.block ?_
   refine SR fun K81 hK81=>M rfl rfl (P1 (p_add rfl rfl) rfl rfl (M rfl rfl (M rfl rfl (P1 (p_cvt src3 kd5 rfl (cv_u8 _)) rfl rfl (M rfl rfl (P1 (p_cvt src3 kd5 rfl (cv_u8 _)) rfl rfl ?_))))))
   refine TLc.lit ([(u8 i15),(u8 k66),(7:UInt8)]:List UInt8) kd25 ty5 rfl ⟨⟨rfl,rfl⟩,⟨rfl,rfl⟩,⟨rfl,rfl⟩,trivial⟩ rfl rfl rfl ?_
   refine P1 (p_bld (l:=Enc.cl ((Unit_api.mk (3:Int) (wr (i15+(1:Int))) k66 ([(u8 i15),(u8 k66),(7:UInt8)]:List UInt8)):Unit_api)) ty68 rfl all68 rfl (fun _=>⟨⟨rfl,trivial,rfl⟩,⟨rfl,trivial,rfl⟩,⟨rfl,trivial,rfl⟩,⟨rfl,trivial,rfl⟩,trivial⟩)) rfl rfl ?_
   obtain ⟨r82,hr82,hX⟩:=bind_some hX
   refine TL.cvX rfl rfl rfl (fun _=>⟨rfl,⟨rfl,trivial⟩⟩) (fun e=>ok_cartridgeref1_PutFrame (Unit_api.mk (3:Int) (wr (i15+(1:Int))) k66 ([(u8 i15),(u8 k66),(7:UInt8)]:List UInt8)) _ hr82) ?_
   refine M rfl rfl (P1 (p_ex rfl rfl Dc) rfl rfl (P1 (p_ex rfl rfl Dc) rfl rfl (M rfl rfl (M rfl rfl (TL.nil (hK81 _ _ ?_))))))
   refine TK.reg ?_
   refine P1 (p_faV fs54_2 Dc rfl nd (j:=4) rfl rfl) rfl rfl (P1 (p_ldV (v:=OL b63 l64) ty22 rfl rfl nd (j:=4) rfl rfl rfl rfl rfl) rfl rfl (M rfl rfl ?_))
   refine TLc.lit ([r82.1]:List (List UInt8)) kd22 ty25 rfl ⟨⟨rfl,rfl⟩,trivial⟩ rfl rfl rfl ?_
   obtain ⟨u83,hu83,hX⟩:=bind_some hX
   refine TLc.appO nd kd22 bo22 ty25 rfl rfl (j:=3) rfl rfl (Src_L _) Dc (need_t hu83) rfl fun nd=>?_
   refine P1 (p_faV fs54_2 Dc rfl nd (j:=4) rfl rfl) rfl rfl ?_
   refine TLc.stV (lu:=[OL (α:=(List UInt8)) b63 (l64++([r82.1]:List (List UInt8)))]) nd ty22 rfl (j:=4) rfl rfl rfl (Cells_rs (refOK_of nd (j:=3) rfl rfl)) rfl rfl [Enc.v c61,Enc.v c62,OL (α:=(List UInt8)) b63 (l64++([r82.1]:List (List UInt8))),Enc.v c65] rfl fun nd=>?_
   refine TL.nil (hK80 _ _ ?_)
   refine TK.reg ?_
   refine M rfl rfl (P1 (p_add rfl rfl) rfl rfl (M rfl rfl (TL.nil ?_)))
   exact ⟨_,(some_in hX).symm,b57,b58,b59,b63,b60,rfl,(Nd.pick nd (is:=[0,1,2,3,4]) Dc),(HSub.pick nd (is:=[0,1,2,3,4]) Dc)⟩
  ·have hX:=ite_f hc hX
   refine TK.exit ?_
   obtain rfl:=hR56 _ (some_in hX).symm
   exact E56 c61 c62 l64 c65 _ _ ⟨b57,b58,b59,b63,b60,rfl,(Nd.pick nd (is:=[0,1,2,3,4]) Dc),(HSub.pick nd (is:=[0,1,2,3,4]) Dc)⟩ hA56
 ·have hX:=ite_f hc hX
  refine TK.exit ?_
  obtain rfl:=hR10 _ (some_in hX).symm
  exact E10 data13 _ _ ⟨b11,b12,b14,rfl,(Nd.pick nd (is:=[0,1,2]) Dc),(HSub.pick nd (is:=[0,1,2]) Dc)⟩ hA10
theorem ok_mend_Tape_c1 (x1:Tape_api) (c2:Int) (r:Bool) (hX:X.mend_Tape_c1 x1 c2=some r):Fun Try.prog 57 [Enc.v (x1:Tape_api),.vref (ofL [Enc.v (c2:Int)]) 1 0] (·=Enc.v (r:Bool)):=by
 refine Fun.of b57 (Nat.le_of_ble_eq_true rfl) (allVal.mem ⟨(by exact (v_val _)),(by exact (vref_val (l:=[Enc.v (c2:Int)]) rfl ⟨(v_val _),trivial⟩)),trivial⟩) ?_
 unfold k57
 have nd:Nd []:=Nd_nil
 unfold X.mend_Tape_c1 at hX
 refine SR fun K3 hK3=>?_
 refine TLc.boxV (lu:=[Enc.v x1.Label,Enc.v x1.Cap,Enc.v x1.Blocks,Enc.v x1.Lost]) nd rfl (Cells_v (x1:Tape_api)) rfl ?_
 refine M rfl rfl (TL.nil (hK3 _ _ (SR fun K4 hK4=>P1 (p_faR fs54_0 Dc rfl) rfl rfl (P1 (p_ldR (v:=Enc.v x1.Label) ty3 rfl rfl rfl rfl rfl rfl) rfl rfl (P1 (p_ldR (v:=Enc.v c2) ty3 rfl rfl rfl rfl rfl rfl) rfl rfl (P1 (p_eql rfl rfl) rfl rfl (M rfl rfl (TL.nil (hK4 _ _ ?_)))))))))
 refine TK.ret ?_
 try dsimp only[thenQ]
 exact R1 rfl hX
theorem ok_slices_IndexFunc_Lbyte_byte (s1:(List UInt8)) (g2:UInt8→Option Bool) (r:Int) (hX:X.slices_IndexFunc_Lbyte_byte s1 g2=some r) {g2V:AV} (hg2V:∃f m c,g2V= .fn f m c∧(∀i,i<m→(c i).val)∧∀(a0:UInt8) r,g2 a0=some r→Fun Try.prog f ([Enc.v a0]++(List.range m).map c) (·=Enc.v r)):Fun Try.prog 149 [Enc.v (s1:(List UInt8)),g2V] (·=Enc.v (r:Int)):=by
 obtain ⟨g2f,g2m,g2c,rfl,hg2v,hg2⟩:=hg2V
 refine Fun.of b149 (Nat.le_of_ble_eq_true rfl) (allVal.mem ⟨(by exact (v_val _)),hg2v,trivial⟩) ?_
 unfold k149
 have nd:Nd []:=Nd_nil
 unfold X.slices_IndexFunc_Lbyte_byte at hX
 refine SR fun K3 hK3=>M rfl rfl (TL.nil (hK3 _ _ ?_))
 refine TK.seq_k fun K4 hK4=>?_
 refine SR fun K5 hK5=>M rfl rfl (P1 (p_lenL (xs:=s1) kd25 rfl) rfl rfl (M rfl rfl (TL.nil (hK5 _ _ ?_))))
 refine TK.block ?_
 obtain ⟨o6,hO6,hA6⟩:=bind_some hX
 have E6:∀(env:Env) (h:Hp),(∃_u:Unit,keepE [] env=[]∧Nd []∧HSub [] h)→X.slices_IndexFunc_Lbyte_byte_e6=some r→K4 env h:=by
  intro env h hE hX
  obtain ⟨_u,henv,nd,hs⟩:=hE
  unfold X.slices_IndexFunc_Lbyte_byte_e6 at hX
  refine hK4 _ _ (TK.keep [] ?_)
  rw[henv]
  refine TK.subH hs ?_
  refine SR fun K8 hK8=>M rfl rfl (TL.nil (hK8 _ _ ?_))
  refine TK.ret ?_
  try dsimp only[thenQ]
  exact R1 rfl hX
 refine TK.iter [0,1,7,8] (fun s env h=>match s with|x7=>∃_u:Unit,env=[(0,true,Enc.v s1),(1,true,.fn g2f g2m g2c),(7,true,Enc.v ((s1.length:Int):Int)),(8,true,Enc.v x7)]∧Nd []∧HSub [] h) hO6 ⟨(),rfl,Nd_nil,HSub.refl _⟩ ?_
 rintro x7 env h x6x ⟨_u,rfl,nd,hs⟩ hX hR6
 refine TK.subH hs ?_
 unfold X.slices_IndexFunc_Lbyte_byte_s6 at hX
 try dsimp only at hX
 refine SR fun K9 hK9=>P1 (p_lss rfl rfl) rfl rfl (TL.nil (hK9 _ _ ?_))
 refine TK.seq_k fun K10 hK10=>?_
 refine TK.cond (b:=(decide (x7<(s1.length:Int)))) rfl (fun hc=>?_) (fun hc=>?_)
 ·have hX:=ite_t hc hX
  refine TK.skip ?_
  refine hK10 _ _ ?_
  refine TK.seq_k fun K11 hK11=>?_
  refine TK.block ?_
  refine SR fun K12 hK12=>M rfl rfl (M rfl rfl (TL.nil (hK12 _ _ (SR fun K13 hK13=>M rfl rfl (M rfl rfl (M rfl rfl ?_))))))
  obtain ⟨e14,he14,hX⟩:=bind_some hX
  refine P1 (p_iaL (xs:=s1) kd25 ty5 rfl rfl rfl (fun _=>he14)) rfl rfl (P1 (p_ldE (xs:=s1) (a:=e14) (e14:UInt8) ty5 rfl rfl (fun _=>he14) rfl rfl rfl) rfl rfl ?_)
  obtain ⟨r15,hr15,hX⟩:=bind_some hX
  refine TL.cvX rfl rfl rfl (fun _=>⟨rfl,⟨rfl,trivial⟩⟩) (fun e=>hg2 e14 _ hr15) ?_
  refine TL.nil (hK13 _ _ ?_)
  refine TK.cond (b:=r15) rfl (fun hc=>?_) (fun hc=>?_)
  ·have hX:=ite_t hc hX
   refine SR fun K16 hK16=>M rfl rfl (M rfl rfl (TL.nil (hK16 _ _ ?_)))
   refine TK.ret ?_
   obtain rfl:=hR6 _ (some_in hX).symm
   replace hX:=hA6
   try dsimp only[thenQ]
   exact R1 rfl hX
  ·have hX:=ite_f hc hX
   refine TK.skip ?_
   refine hK11 _ _ ?_
   refine TK.reg ?_
   refine P1 (p_add rfl rfl) rfl rfl (M rfl rfl (TL.nil ?_))
   exact ⟨_,(some_in hX).symm,(),rfl,Nd_nil,HSub.refl _⟩
 ·have hX:=ite_f hc hX
  refine TK.exit ?_
  obtain rfl:=hR6 _ (some_in hX).symm
  exact E6 _ _ ⟨(),rfl,Nd_nil,HSub.refl _⟩ hA6
theorem ok_slices_ContainsFunc_Lbyte_byte (s1:(List UInt8)) (g2:UInt8→Option Bool) (r:Bool) (hX:X.slices_ContainsFunc_Lbyte_byte s1 g2=some r) {g2V:AV} (hg2V:∃f m c,g2V= .fn f m c∧(∀i,i<m→(c i).val)∧∀(a0:UInt8) r,g2 a0=some r→Fun Try.prog f ([Enc.v a0]++(List.range m).map c) (·=Enc.v r)):Fun Try.prog 98 [Enc.v (s1:(List UInt8)),g2V] (·=Enc.v (r:Bool)):=by
 obtain ⟨g2f,g2m,g2c,rfl,hg2v,hg2⟩:=hg2V
 refine Fun.of b98 (Nat.le_of_ble_eq_true rfl) (allVal.mem ⟨(by exact (v_val _)),hg2v,trivial⟩) ?_
 unfold k98
 have nd:Nd []:=Nd_nil
 unfold X.slices_ContainsFunc_Lbyte_byte at hX
 refine SR fun K3 hK3=>M rfl rfl (TL.nil (hK3 _ _ (SR fun K4 hK4=>M rfl rfl (M rfl rfl ?_))))
 obtain ⟨r5,hr5,hX⟩:=bind_some hX
 refine TL.cvX rfl rfl rfl (fun _=>⟨rfl,⟨rfl,⟨rfl,trivial⟩⟩⟩) (fun e=>ok_slices_IndexFunc_Lbyte_byte s1 g2 _ hr5 ⟨_,_,_,rfl,hg2v,hg2⟩) ?_
 refine P1 (p_geq rfl rfl) rfl rfl (M rfl rfl (TL.nil (hK4 _ _ ?_)))
 refine TK.ret ?_
 try dsimp only[thenQ]
 exact R1 rfl hX
theorem ok_mend_empty_c1 (c1:UInt8) (r:Bool) (hX:X.mend_empty_c1 c1=some r):Fun Try.prog 99 [Enc.v (c1:UInt8)] (·=Enc.v (r:Bool)):=by
 refine Fun.of b99 (Nat.le_of_ble_eq_true rfl) (allVal.mem ⟨(by exact (v_val _)),trivial⟩) ?_
 unfold k99
 have nd:Nd []:=Nd_nil
 unfold X.mend_empty_c1 at hX
 refine SR fun K2 hK2=>M rfl rfl (TL.nil (hK2 _ _ (SR fun K3 hK3=>M rfl rfl (P1 (p8_neq (a:=c1) (b:=(0:UInt8)) rfl rfl) rfl rfl (M rfl rfl (TL.nil (hK3 _ _ ?_)))))))
 refine TK.ret ?_
 try dsimp only[thenQ]
 exact R1 rfl hX
theorem ok_mend_empty (b1:(List UInt8)) (r:Bool) (hX:X.mend_empty b1=some r):Fun Try.prog 58 [Enc.v (b1:(List UInt8))] (·=Enc.v (r:Bool)):=by
 refine Fun.of b58 (Nat.le_of_ble_eq_true rfl) (allVal.mem ⟨(by exact (v_val _)),trivial⟩) ?_
 unfold k58
 have nd:Nd []:=Nd_nil
 unfold X.mend_empty at hX
 refine SR fun K2 hK2=>M rfl rfl (TL.nil (hK2 _ _ (SR fun K3 hK3=>M rfl rfl ?_)))
 obtain ⟨r4,hr4,hX⟩:=bind_some hX
 refine TL.cvX rfl rfl rfl (fun _=>⟨rfl,⟨rfl,⟨rfl,trivial⟩⟩⟩) (fun e=>ok_slices_ContainsFunc_Lbyte_byte b1 (fun a1=>X.mend_empty_c1 a1) _ hr4 ⟨99,0,ofL [],rfl,(fun i hi=>by cases hi),fun a1 r hr=>ok_mend_empty_c1 a1 r hr⟩) ?_
 refine P1 (p_not rfl) rfl rfl (M rfl rfl (TL.nil (hK3 _ _ ?_)))
 refine TK.ret ?_
 try dsimp only[thenQ]
 exact R1 rfl hX
theorem bc_mend_Tape:BodyC cx 32 96 [.c 6 54,.t 7] k32:=⟨Enters.of Try.func32 (by kernel_rfl) (by kernel_rfl),_,_,Try.func32,rfl,by kernel_rfl,rfl,rfl⟩
theorem ok_mend_Tape (l1:(List Tape_api)) (s2:Seal_api) (label3:Int) (r:(Tape_api×Int)) (hX:X.mend_Tape l1 s2 label3=some r):Fun Try.prog 32 [Enc.v (l1:(List Tape_api)),Enc.v (s2:Seal_api),Enc.v (label3:Int)] (·= .tup 2 (ofL [Enc.v r.1,Enc.v r.2])):=by
 refine Fun.ofC (C:=cx) bc_mend_Tape (Nat.le_of_ble_eq_true rfl) (allVal.mem ⟨(by exact (v_val _)),(by exact (v_val _)),(by exact (v_val _)),trivial⟩) ?_
 unfold k32
 have nd:Nd []:=Nd_nil
 unfold X.mend_Tape at hX
 refine SR fun K4 hK4=>?_
 refine TLc.boxV (lu:=[Enc.v s2.Number,Enc.v s2.Index,Enc.v s2.Data,Enc.v s2.Parity,Enc.v s2.Labels]) nd rfl (Cells_v (s2:Seal_api)) rfl ?_
 refine TLc.boxV (lu:=[Enc.v label3]) nd rfl (Cells_v (label3:Int)) rfl ?_
 refine TLc.alO (l:=[Enc.v ((0:Int):Int),Enc.v ((0:Int):Int),.nils,Enc.v false]) nd ty54 ti54_z rfl rfl fun b5 nd=>?_
 refine M rfl rfl (TL.nil (hK4 _ _ ?_))
 refine TK.ownC (α:=(List UInt8)) nd (j:=0) rfl 2 25 (.inl rfl) fun b6 nd=>?_
 refine TK.seq_k fun K7 hK7=>?_
 refine SR fun K8 hK8=>P1 (p_ldRa (l':=Enc.cl (s2:Seal_api)) ty50 rfl rfl rfl rfl rfl (Nat.le_of_ble_eq_true rfl)) rfl rfl (P1 (p_ldR (v:=Enc.v label3) ty3 rfl rfl rfl rfl rfl rfl) rfl rfl ?_)
 obtain ⟨r9,hr9,hX⟩:=bind_some hX
 refine TL.cvX rfl rfl rfl (fun _=>⟨rfl,⟨rfl,⟨rfl,trivial⟩⟩⟩) (fun e=>ok_mend_place s2 label3 _ hr9) ?_
 refine M rfl rfl (P1 (p_ex rfl rfl Dc) rfl rfl (P1 (p_ex rfl rfl Dc) rfl rfl (M rfl rfl (M rfl rfl (TL.nil (hK8 _ _ (SR fun K10 hK10=>M rfl rfl (P1 (p_not rfl) rfl rfl (TL.nil (hK10 _ _ ?_))))))))))
 refine TK.cond (b:=(!r9.2)) rfl (fun hc=>?_) (fun hc=>?_)
 ·have hX:=ite_t hc hX
  refine SR fun K11 hK11=>P1 (p_bld (l:=[Enc.v ((0:Int):Int),Enc.v ((0:Int):Int),.nils,Enc.v false]) ty54 rfl all54 rfl (fun _=>trivial)) rfl rfl ?_
  refine TLc.stV (lu:=[Enc.v ((0:Int):Int),Enc.v ((0:Int):Int),.nils,Enc.v false]) nd ty54 rfl (j:=1) rfl rfl rfl (Cells_agg rfl (allA.mem ⟨trivial,trivial,trivial,trivial,trivial⟩)) rfl rfl [Enc.v ((0:Int):Int),Enc.v ((0:Int):Int),.nils,Enc.v false] rfl fun nd=>?_
  refine M rfl rfl (TL.nil (hK11 _ _ ?_))
  refine TK.ownC (α:=(List UInt8)) nd (j:=1) rfl 2 25 (.inl rfl) fun b12 nd=>?_
  refine TK.layR (l2':=[Enc.v ((0:Int):Int),Enc.v ((0:Int):Int),Enc.v (([]:List (List UInt8)):(List (List UInt8))),Enc.v false]) [] nd (j:=0) rfl 2 rfl rfl ⟨fix_id _,fix_id _,fix_OL nd (j:=0) rfl,fix_id _,trivial⟩ trivial fun nd=>?_
  refine TK.ret ?_
  try dsimp only[thenQ]
  exact retC [Enc.v ((Tape_api.mk (0:Int) (0:Int) ([]:List (List UInt8)) false):Tape_api),Enc.v ((1:Int):Int)] ⟨p_ldVa (l':=Enc.cl ((Tape_api.mk (0:Int) (0:Int) ([]:List (List UInt8)) false):Tape_api)) ty54 rfl rfl nd (j:=1) rfl rfl rfl rfl (Nat.le_of_ble_eq_true rfl),p_mv rfl,trivial⟩ (by obtain rfl:=some_in hX;rfl) (tup_val (allVal.mem ⟨v_val _,v_val _,trivial⟩))
 ·have hX:=ite_f hc hX
  refine TK.skip ?_
  refine hK7 _ _ (SR fun K13 hK13=>M rfl rfl (P1 (p_ldRa (l':=Enc.cl (s2:Seal_api)) ty50 rfl rfl rfl rfl rfl (Nat.le_of_ble_eq_true rfl)) rfl rfl ?_))
  obtain ⟨r14,hr14,hX⟩:=bind_some hX
  refine TL.cvX rfl rfl rfl (fun _=>⟨rfl,⟨rfl,⟨rfl,trivial⟩⟩⟩) (fun e=>ok_mend_rows l1 s2 _ hr14) ?_
  refine M rfl rfl (P1 (p_ex rfl rfl Dc) rfl rfl (P1 (p_ex rfl rfl Dc) rfl rfl (M rfl rfl (M rfl rfl (TL.nil (hK13 _ _ ?_))))))
  refine TK.seq_k fun K15 hK15=>?_
  refine SR fun K16 hK16=>M rfl rfl (P1 (p_not rfl) rfl rfl (TL.nil (hK16 _ _ ?_)))
  refine TK.cond (b:=(!r14.2)) rfl (fun hc=>?_) (fun hc=>?_)
  ·have hX:=ite_t hc hX
   refine SR fun K17 hK17=>P1 (p_bld (l:=[Enc.v ((0:Int):Int),Enc.v ((0:Int):Int),.nils,Enc.v false]) ty54 rfl all54 rfl (fun _=>trivial)) rfl rfl ?_
   refine TLc.stV (lu:=[Enc.v ((0:Int):Int),Enc.v ((0:Int):Int),.nils,Enc.v false]) nd ty54 rfl (j:=1) rfl rfl rfl (Cells_agg rfl (allA.mem ⟨trivial,trivial,trivial,trivial,trivial⟩)) rfl rfl [Enc.v ((0:Int):Int),Enc.v ((0:Int):Int),.nils,Enc.v false] rfl fun nd=>?_
   refine M rfl rfl (TL.nil (hK17 _ _ ?_))
   refine TK.ownC (α:=(List UInt8)) nd (j:=1) rfl 2 25 (.inl rfl) fun b18 nd=>?_
   refine TK.layR (l2':=[Enc.v ((0:Int):Int),Enc.v ((0:Int):Int),Enc.v (([]:List (List UInt8)):(List (List UInt8))),Enc.v false]) [] nd (j:=0) rfl 2 rfl rfl ⟨fix_id _,fix_id _,fix_OL nd (j:=0) rfl,fix_id _,trivial⟩ trivial fun nd=>?_
   refine TK.ret ?_
   try dsimp only[thenQ]
   exact retC [Enc.v ((Tape_api.mk (0:Int) (0:Int) ([]:List (List UInt8)) false):Tape_api),Enc.v ((10:Int):Int)] ⟨p_ldVa (l':=Enc.cl ((Tape_api.mk (0:Int) (0:Int) ([]:List (List UInt8)) false):Tape_api)) ty54 rfl rfl nd (j:=1) rfl rfl rfl rfl (Nat.le_of_ble_eq_true rfl),p_mv rfl,trivial⟩ (by obtain rfl:=some_in hX;rfl) (tup_val (allVal.mem ⟨v_val _,v_val _,trivial⟩))
  ·have hX:=ite_f hc hX
   refine TK.skip ?_
   refine hK15 _ _ (SR fun K19 hK19=>P1 (p_ldR (v:=Enc.v label3) ty3 rfl rfl rfl rfl rfl rfl) rfl rfl (M rfl rfl (P1 (p_bld (l:=[Enc.v label3,Enc.v r14.1,.nils,Enc.v false]) ty54 rfl all54 rfl (fun _=>⟨⟨rfl,trivial,rfl⟩,⟨rfl,trivial,rfl⟩,trivial⟩)) rfl rfl ?_)))
   refine TLc.alO (l:=[Enc.v ((0:Int):Int),Enc.v ((0:Int):Int),.nils,Enc.v false]) nd ty54 ti54_z rfl rfl fun b20 nd=>?_
   refine TLc.stV (lu:=[Enc.v label3,Enc.v r14.1,.nils,Enc.v false]) nd ty54 rfl (j:=0) rfl rfl rfl (Cells_agg rfl (allA.mem ⟨trivial,trivial,trivial,trivial,trivial⟩)) rfl rfl [Enc.v label3,Enc.v r14.1,.nils,Enc.v false] rfl fun nd=>?_
   refine TL.nil (hK19 _ _ ?_)
   refine TK.ownC (α:=(List UInt8)) nd (j:=0) rfl 2 25 (.inl rfl) fun b21 nd=>?_
   refine TK.seq_k fun K22 hK22=>?_
   have J22:∀(c26:Int) (env:Env) (h:Hp),(∃b24 b23 b27 b25,keepE [0,4,5,6,10,12] env=[(0,true,Enc.v l1),(4,true,.vref (ofL [Enc.v s2.Number,Enc.v s2.Index,Enc.v s2.Data,Enc.v s2.Parity,Enc.v s2.Labels]) 5 0),(5,true,.vref (ofL [Enc.v label3]) 1 0),(6,true,.ref b23 0 4),(10,true,Enc.v r14.1),(12,true,.ref b25 0 4)]∧Nd [(b24,RL (α:=(List UInt8)) 25 ([]:List (List UInt8))),(b23,RV 54 [Enc.v ((0:Int):Int),Enc.v ((0:Int):Int),OL (α:=(List UInt8)) b24 ([]:List (List UInt8)),Enc.v false]),(b27,RL (α:=(List UInt8)) 25 ([]:List (List UInt8))),(b25,RV 54 [Enc.v label3,Enc.v c26,OL (α:=(List UInt8)) b27 ([]:List (List UInt8)),Enc.v false])]∧HSub [(b24,RL (α:=(List UInt8)) 25 ([]:List (List UInt8))),(b23,RV 54 [Enc.v ((0:Int):Int),Enc.v ((0:Int):Int),OL (α:=(List UInt8)) b24 ([]:List (List UInt8)),Enc.v false]),(b27,RL (α:=(List UInt8)) 25 ([]:List (List UInt8))),(b25,RV 54 [Enc.v label3,Enc.v c26,OL (α:=(List UInt8)) b27 ([]:List (List UInt8)),Enc.v false])] h)→X.mend_Tape_j22 r14 l1 s2 label3 c26=some r→K22 env h:=by
    intro c26 env h hE hX
    obtain ⟨b24,b23,b27,b25,henv,nd,hs⟩:=hE
    unfold X.mend_Tape_j22 at hX
    refine hK22 _ _ (TK.keep [0,4,5,6,10,12] ?_)
    rw[henv]
    refine TK.subH hs ?_
    refine TK.seq_k fun K28 hK28=>?_
    refine SR fun K29 hK29=>M rfl rfl (M rfl rfl (TL.nil (hK29 _ _ ?_)))
    refine TK.block ?_
    obtain ⟨o30,hO30,hA30⟩:=bind_some hX
    have E30:∀(c43:Int) (c44:Int) (l46:List (List UInt8)) (c47:Bool) (env:Env) (h:Hp),(∃b41 b40 b45 b42,keepE [6,12] env=[(6,true,.ref b40 0 4),(12,true,.ref b42 0 4)]∧Nd [(b41,RL (α:=(List UInt8)) 25 ([]:List (List UInt8))),(b40,RV 54 [Enc.v ((0:Int):Int),Enc.v ((0:Int):Int),OL (α:=(List UInt8)) b41 ([]:List (List UInt8)),Enc.v false]),(b45,RL (α:=(List UInt8)) 25 l46),(b42,RV 54 [Enc.v c43,Enc.v c44,OL b45 l46,Enc.v c47])]∧HSub [(b41,RL (α:=(List UInt8)) 25 ([]:List (List UInt8))),(b40,RV 54 [Enc.v ((0:Int):Int),Enc.v ((0:Int):Int),OL (α:=(List UInt8)) b41 ([]:List (List UInt8)),Enc.v false]),(b45,RL (α:=(List UInt8)) 25 l46),(b42,RV 54 [Enc.v c43,Enc.v c44,OL b45 l46,Enc.v c47])] h)→X.mend_Tape_e30 c43 c44 l46 c47=some r→K28 env h:=by
     intro c43 c44 l46 c47 env h hE hX
     obtain ⟨b41,b40,b45,b42,henv,nd,hs⟩:=hE
     unfold X.mend_Tape_e30 at hX
     refine hK28 _ _ (TK.keep [6,12] ?_)
     rw[henv]
     refine TK.subH hs ?_
     refine TK.seq_k fun K48 hK48=>?_
     refine TK.block ?_
     obtain ⟨o49,hO49,hA49⟩:=bind_some hX
     have E49:∀(c61:Int) (c62:Int) (l64:List (List UInt8)) (c65:Bool) (env:Env) (h:Hp),(∃b59 b58 b63 b60,keepE [6,12] env=[(6,true,.ref b58 0 4),(12,true,.ref b60 0 4)]∧Nd [(b59,RL (α:=(List UInt8)) 25 ([]:List (List UInt8))),(b58,RV 54 [Enc.v ((0:Int):Int),Enc.v ((0:Int):Int),OL (α:=(List UInt8)) b59 ([]:List (List UInt8)),Enc.v false]),(b63,RL (α:=(List UInt8)) 25 l64),(b60,RV 54 [Enc.v c61,Enc.v c62,OL b63 l64,Enc.v c65])]∧HSub [(b59,RL (α:=(List UInt8)) 25 ([]:List (List UInt8))),(b58,RV 54 [Enc.v ((0:Int):Int),Enc.v ((0:Int):Int),OL (α:=(List UInt8)) b59 ([]:List (List UInt8)),Enc.v false]),(b63,RL (α:=(List UInt8)) 25 l64),(b60,RV 54 [Enc.v c61,Enc.v c62,OL b63 l64,Enc.v c65])] h)→X.mend_Tape_e49 c61 c62 l64 c65=some r→K48 env h:=by
      intro c61 c62 l64 c65 env h hE hX
      obtain ⟨b59,b58,b63,b60,henv,nd,hs⟩:=hE
      unfold X.mend_Tape_e49 at hX
      refine hK48 _ _ (TK.keep [6,12] ?_)
      rw[henv]
      refine TK.subH hs ?_
      refine SR fun K66 hK66=>?_
      refine TL.layR (l2':=[Enc.v c61,Enc.v c62,Enc.v l64,Enc.v c65]) [] nd (j:=2) rfl 3 rfl rfl ⟨fix_id _,fix_id _,fix_OL nd (j:=2) rfl,fix_id _,trivial⟩ trivial fun nd=>?_
      refine P1 (p_ldVa (l':=Enc.cl ((Tape_api.mk c61 c62 l64 c65):Tape_api)) ty54 rfl rfl nd (j:=2) rfl rfl rfl rfl (Nat.le_of_ble_eq_true rfl)) rfl rfl ?_
      refine TLc.stV (lu:=Enc.cl ((Tape_api.mk c61 c62 l64 c65):Tape_api)) nd ty54 rfl (j:=1) rfl rfl rfl (Cells_v ((Tape_api.mk c61 c62 l64 c65):Tape_api)) rfl rfl [Enc.v ((Tape_api.mk c61 c62 l64 c65).Label:Int),Enc.v ((Tape_api.mk c61 c62 l64 c65).Cap:Int),Enc.v ((Tape_api.mk c61 c62 l64 c65).Blocks:(List (List UInt8))),Enc.v ((Tape_api.mk c61 c62 l64 c65).Lost:Bool)] rfl fun nd=>?_
      refine M rfl rfl (TL.nil (hK66 _ _ ?_))
      refine TK.ret ?_
      try dsimp only[thenQ]
      exact retC [Enc.v ((Tape_api.mk c61 c62 l64 c65):Tape_api),Enc.v ((0:Int):Int)] ⟨p_ldVa (l':=Enc.cl ((Tape_api.mk c61 c62 l64 c65):Tape_api)) ty54 rfl rfl nd (j:=1) rfl rfl rfl rfl (Nat.le_of_ble_eq_true rfl),p_mv rfl,trivial⟩ (by obtain rfl:=some_in hX;rfl) (tup_val (allVal.mem ⟨v_val _,v_val _,trivial⟩))
     refine TK.iter [6,12] (fun s env h=>match s with|(c53,c54,l56,c57)=>∃b51 b50 b55 b52,env=[(6,true,.ref b50 0 4),(12,true,.ref b52 0 4)]∧Nd [(b51,RL (α:=(List UInt8)) 25 ([]:List (List UInt8))),(b50,RV 54 [Enc.v ((0:Int):Int),Enc.v ((0:Int):Int),OL (α:=(List UInt8)) b51 ([]:List (List UInt8)),Enc.v false]),(b55,RL (α:=(List UInt8)) 25 l56),(b52,RV 54 [Enc.v c53,Enc.v c54,OL b55 l56,Enc.v c57])]∧HSub [(b51,RL (α:=(List UInt8)) 25 ([]:List (List UInt8))),(b50,RV 54 [Enc.v ((0:Int):Int),Enc.v ((0:Int):Int),OL (α:=(List UInt8)) b51 ([]:List (List UInt8)),Enc.v false]),(b55,RL (α:=(List UInt8)) 25 l56),(b52,RV 54 [Enc.v c53,Enc.v c54,OL b55 l56,Enc.v c57])] h) hO49 ⟨b41,b40,b45,b42,rfl,(Nd.pick nd (is:=[0,1,2,3]) Dc),(HSub.pick nd (is:=[0,1,2,3]) Dc)⟩ ?_
     rintro ⟨c53,c54,l56,c57⟩ env h x49x ⟨b51,b50,b55,b52,rfl,nd,hs⟩ hX hR49
     refine TK.subH hs ?_
     unfold X.mend_Tape_s49 at hX
     try dsimp only at hX
     refine TK.seq_k fun K67 hK67=>?_
     refine SR fun K68 hK68=>P1 (p_faV fs54_2 Dc rfl nd (j:=3) rfl rfl) rfl rfl (P1 (p_ldV (v:=OL b55 l56) ty22 rfl rfl nd (j:=3) rfl rfl rfl rfl rfl) rfl rfl (P1 (p_lenR kd22 rfl (fun _=>refOK_of nd (j:=2) rfl rfl)) rfl rfl (P1 (p_gtr rfl rfl) rfl rfl (M rfl rfl ?_))))
     refine TLc.p (gc:=((decide ((l56.length:Int)>(0:Int))))) (p_faV fs54_2 Dc rfl nd (j:=3) rfl rfl (hg:=fun e=>rfl)) (gcT1 rfl) rfl ?_
     refine TLc.p (gc:=((decide ((l56.length:Int)>(0:Int))))) (p_ldV (v:=OL b55 l56) ty22 rfl rfl nd (j:=3) rfl rfl rfl rfl rfl (hg:=fun e=>e)) (gcT1 rfl) rfl ?_
     refine TLc.p (gc:=((decide ((l56.length:Int)>(0:Int))))) (p_faV fs54_2 Dc rfl nd (j:=3) rfl rfl (hg:=fun e=>rfl)) (gcT1 rfl) rfl ?_
     refine TLc.p (gc:=((decide ((l56.length:Int)>(0:Int))))) (p_ldV (v:=OL b55 l56) ty22 rfl rfl nd (j:=3) rfl rfl rfl rfl rfl (hg:=fun e=>e)) (gcT1 rfl) rfl ?_
     refine TLc.p (gc:=((decide ((l56.length:Int)>(0:Int))))) (p_lenR kd22 rfl (fun _=>refOK_of nd (j:=2) rfl rfl) (hg:=fun e=>e)) (gcT1 rfl) rfl ?_
     refine TLc.p (gc:=((decide ((l56.length:Int)>(0:Int))))) (p_sub rfl rfl (hg:=fun e=>⟨e,rfl⟩)) (gcT1 rfl) rfl ?_
     obtain ⟨e69,he69,hX⟩:=bind_some hX
     refine TLc.p (gc:=((decide ((l56.length:Int)>(0:Int))))) (p_iaO (xs:=l56) kd22 ty25 rfl rfl rfl nd (j:=2) rfl (fun e=>optG_t he69 e) (hg:=fun e=>⟨e,e⟩)) (gcT1 rfl) rfl ?_
     refine TLc.p (gc:=((decide ((l56.length:Int)>(0:Int))))) (p_ldO (xs:=l56) (a:=e69) (e69:(List UInt8)) ty25 rfl rfl nd (j:=2) rfl (fun e=>optG_t he69 e) rfl rfl rfl (hg:=fun e=>e)) (gcT1 rfl) rfl ?_
     obtain ⟨r70,hr70,hX⟩:=bind_some hX
     refine TL.cvX (gcT1 rfl) rfl rfl (fun e=>⟨rfl,⟨e,trivial⟩⟩) (fun e=>ok_mend_empty e69 _ (optG_t hr70 e)) ?_
     refine P1 (p_and rfl rfl (fun e=>⟨rfl,fun h=>h⟩)) rfl rfl (TL.nil (hK68 _ _ ?_))
     refine TK.cond (b:=((decide ((l56.length:Int)>(0:Int)))&&r70)) rfl (fun hc=>?_) (fun hc=>?_)
     ·have hX:=ite_t hc hX
      refine TK.skip ?_
      refine hK67 _ _ ?_
      refine TK.block ?_
      refine TK.reg ?_
      refine P1 (p_faV fs54_2 Dc rfl nd (j:=3) rfl rfl) rfl rfl (P1 (p_ldV (v:=OL b55 l56) ty22 rfl rfl nd (j:=3) rfl rfl rfl rfl rfl) rfl rfl (P1 (p_faV fs54_2 Dc rfl nd (j:=3) rfl rfl) rfl rfl (P1 (p_ldV (v:=OL b55 l56) ty22 rfl rfl nd (j:=3) rfl rfl rfl rfl rfl) rfl rfl (P1 (p_lenR kd22 rfl (fun _=>refOK_of nd (j:=2) rfl rfl)) rfl rfl (P1 (p_sub rfl rfl) rfl rfl ?_)))))
      obtain ⟨u71,hu71,hX⟩:=bind_some hX
      refine P1 (p_sliO (xs:=l56) (l:=(0:Int)) (k:=(wr ((l56.length:Int)-(1:Int)))) kd22 ty25 rfl rfl nd (j:=2) rfl rfl rfl (fun e=>need_t hu71)) rfl rfl (P1 (p_faV fs54_2 Dc rfl nd (j:=3) rfl rfl) rfl rfl ?_)
      refine TL.cutX (xs:=l56) (k:=(wr ((l56.length:Int)-(1:Int)))) 93 nd (j:=2) rfl rfl (by have:=(need_t hu71).1;omega) fun b72 nd=>?_
      refine TLc.stV (lu:=[OL (α:=(List UInt8)) b72 (slc l56 (0:Int) (wr ((l56.length:Int)-(1:Int))))]) nd ty22 rfl (j:=3) rfl rfl rfl (Cells_rs (refOK_of nd (j:=0) rfl rfl)) rfl rfl [Enc.v c53,Enc.v c54,OL (α:=(List UInt8)) b72 (slc l56 (0:Int) (wr ((l56.length:Int)-(1:Int)))),Enc.v c57] rfl fun nd=>?_
      refine TL.nil ?_
      exact ⟨_,(some_in hX).symm,b51,b50,b72,b52,rfl,(Nd.pick nd (is:=[1,2,0,3]) Dc),(HSub.pick nd (is:=[1,2,0,3]) Dc)⟩
     ·have hX:=ite_f hc hX
      refine TK.exit ?_
      obtain rfl:=hR49 _ (some_in hX).symm
      exact E49 c53 c54 l56 c57 _ _ ⟨b51,b50,b55,b52,rfl,(Nd.pick nd (is:=[0,1,2,3]) Dc),(HSub.pick nd (is:=[0,1,2,3]) Dc)⟩ hA49
    refine TK.iter [0,4,5,6,12,49,50] (fun s env h=>match s with|(c34,c35,l37,c38,x39)=>∃b32 b31 b36 b33,env=[(0,true,Enc.v l1),(4,true,.vref (ofL [Enc.v s2.Number,Enc.v s2.Index,Enc.v s2.Data,Enc.v s2.Parity,Enc.v s2.Labels]) 5 0),(5,true,.vref (ofL [Enc.v label3]) 1 0),(6,true,.ref b31 0 4),(12,true,.ref b33 0 4),(49,true,Enc.v r14.1),(50,true,Enc.v x39)]∧Nd [(b32,RL (α:=(List UInt8)) 25 ([]:List (List UInt8))),(b31,RV 54 [Enc.v ((0:Int):Int),Enc.v ((0:Int):Int),OL (α:=(List UInt8)) b32 ([]:List (List UInt8)),Enc.v false]),(b36,RL (α:=(List UInt8)) 25 l37),(b33,RV 54 [Enc.v c34,Enc.v c35,OL b36 l37,Enc.v c38])]∧HSub [(b32,RL (α:=(List UInt8)) 25 ([]:List (List UInt8))),(b31,RV 54 [Enc.v ((0:Int):Int),Enc.v ((0:Int):Int),OL (α:=(List UInt8)) b32 ([]:List (List UInt8)),Enc.v false]),(b36,RL (α:=(List UInt8)) 25 l37),(b33,RV 54 [Enc.v c34,Enc.v c35,OL b36 l37,Enc.v c38])] h) hO30 ⟨b24,b23,b27,b25,rfl,(Nd.pick nd (is:=[0,1,2,3]) Dc),(HSub.pick nd (is:=[0,1,2,3]) Dc)⟩ ?_
    rintro ⟨c34,c35,l37,c38,x39⟩ env h x30x ⟨b32,b31,b36,b33,rfl,nd,hs⟩ hX hR30
    refine TK.subH hs ?_
    unfold X.mend_Tape_s30 at hX
    try dsimp only at hX
    refine SR fun K73 hK73=>P1 (p_lss rfl rfl) rfl rfl (TL.nil (hK73 _ _ ?_))
    refine TK.seq_k fun K74 hK74=>?_
    refine TK.cond (b:=(decide (x39<r14.1))) rfl (fun hc=>?_) (fun hc=>?_)
    ·have hX:=ite_t hc hX
     refine TK.skip ?_
     refine hK74 _ _ ?_
     refine TK.seq_k fun K75 hK75=>?_
     refine TK.block ?_
     refine SR fun K76 hK76=>M rfl rfl (M rfl rfl (TL.nil (hK76 _ _ (SR fun K77 hK77=>M rfl rfl (P1 (p_ldRa (l':=Enc.cl (s2:Seal_api)) ty50 rfl rfl rfl rfl rfl (Nat.le_of_ble_eq_true rfl)) rfl rfl (P1 (p_ldR (v:=Enc.v label3) ty3 rfl rfl rfl rfl rfl rfl) rfl rfl (M rfl rfl ?_)))))))
     obtain ⟨r78,hr78,hX⟩:=bind_some hX
     refine TL.cvX rfl rfl rfl (fun _=>⟨rfl,⟨rfl,⟨rfl,⟨rfl,⟨rfl,trivial⟩⟩⟩⟩⟩) (fun e=>ok_mend_Block l1 s2 label3 x39 _ hr78) ?_
     refine M rfl rfl (P1 (p_ex rfl rfl Dc) rfl rfl (P1 (p_ex rfl rfl Dc) rfl rfl (M rfl rfl (M rfl rfl (TL.nil (hK77 _ _ ?_))))))
     refine TK.seq_k fun K79 hK79=>?_
     refine SR fun K80 hK80=>M rfl rfl (P1 (p_neq rfl rfl) rfl rfl (TL.nil (hK80 _ _ ?_)))
     refine TK.cond (b:=(r78.2 !=(0:Int))) rfl (fun hc=>?_) (fun hc=>?_)
     ·have hX:=ite_t hc hX
      refine SR fun K81 hK81=>P1 (p_bld (l:=[Enc.v ((0:Int):Int),Enc.v ((0:Int):Int),.nils,Enc.v false]) ty54 rfl all54 rfl (fun _=>trivial)) rfl rfl (M rfl rfl ?_)
      refine TLc.stV (lu:=[Enc.v ((0:Int):Int),Enc.v ((0:Int):Int),.nils,Enc.v false]) nd ty54 rfl (j:=1) rfl rfl rfl (Cells_agg rfl (allA.mem ⟨trivial,trivial,trivial,trivial,trivial⟩)) rfl rfl [Enc.v ((0:Int):Int),Enc.v ((0:Int):Int),.nils,Enc.v false] rfl fun nd=>?_
      refine M rfl rfl (TL.nil (hK81 _ _ ?_))
      refine TK.ownC (α:=(List UInt8)) nd (j:=1) rfl 2 25 (.inl rfl) fun b82 nd=>?_
      refine TK.layR (l2':=[Enc.v ((0:Int):Int),Enc.v ((0:Int):Int),Enc.v (([]:List (List UInt8)):(List (List UInt8))),Enc.v false]) [] nd (j:=0) rfl 2 rfl rfl ⟨fix_id _,fix_id _,fix_OL nd (j:=0) rfl,fix_id _,trivial⟩ trivial fun nd=>?_
      refine TK.ret ?_
      obtain rfl:=hR30 _ (some_in hX).symm
      replace hX:=hA30
      try dsimp only[thenQ]
      exact retC [Enc.v ((Tape_api.mk (0:Int) (0:Int) ([]:List (List UInt8)) false):Tape_api),Enc.v r78.2] ⟨p_ldVa (l':=Enc.cl ((Tape_api.mk (0:Int) (0:Int) ([]:List (List UInt8)) false):Tape_api)) ty54 rfl rfl nd (j:=1) rfl rfl rfl rfl (Nat.le_of_ble_eq_true rfl),p_mv rfl,trivial⟩ (by obtain rfl:=some_in hX;rfl) (tup_val (allVal.mem ⟨v_val _,v_val _,trivial⟩))
     ·have hX:=ite_f hc hX
      refine TK.skip ?_
      refine hK79 _ _ ?_
      refine TK.reg ?_
      refine P1 (p_faV fs54_2 Dc rfl nd (j:=3) rfl rfl) rfl rfl (P1 (p_ldV (v:=OL b36 l37) ty22 rfl rfl nd (j:=3) rfl rfl rfl rfl rfl) rfl rfl (M rfl rfl ?_))
      refine TLc.lit ([r78.1]:List (List UInt8)) kd22 ty25 rfl ⟨⟨rfl,rfl⟩,trivial⟩ rfl rfl rfl ?_
      obtain ⟨u83,hu83,hX⟩:=bind_some hX
      refine TLc.appO nd kd22 bo22 ty25 rfl rfl (j:=2) rfl rfl (Src_L _) Dc (need_t hu83) rfl fun nd=>?_
      refine P1 (p_faV fs54_2 Dc rfl nd (j:=3) rfl rfl) rfl rfl ?_
      refine TLc.stV (lu:=[OL (α:=(List UInt8)) b36 (l37++([r78.1]:List (List UInt8)))]) nd ty22 rfl (j:=3) rfl rfl rfl (Cells_rs (refOK_of nd (j:=2) rfl rfl)) rfl rfl [Enc.v c34,Enc.v c35,OL (α:=(List UInt8)) b36 (l37++([r78.1]:List (List UInt8))),Enc.v c38] rfl fun nd=>?_
      refine TL.nil (hK75 _ _ ?_)
      refine TK.reg ?_
      refine P1 (p_add rfl rfl) rfl rfl (M rfl rfl (TL.nil ?_))
      exact ⟨_,(some_in hX).symm,b32,b31,b36,b33,rfl,(Nd.pick nd (is:=[0,1,2,3]) Dc),(HSub.pick nd (is:=[0,1,2,3]) Dc)⟩
    ·have hX:=ite_f hc hX
     refine TK.exit ?_
     obtain rfl:=hR30 _ (some_in hX).symm
     exact E30 c34 c35 l37 c38 _ _ ⟨b32,b31,b36,b33,rfl,(Nd.pick nd (is:=[0,1,2,3]) Dc),(HSub.pick nd (is:=[0,1,2,3]) Dc)⟩ hA30
   refine SR fun K84 hK84=>M rfl rfl (P1 (p_mf (l:=[.vref (ofL [Enc.v label3]) 1 0]) rfl (fun _=>⟨rfl,trivial⟩)) rfl rfl ?_)
   obtain ⟨r85,hr85,hX⟩:=bind_some hX
   refine TL.cvX rfl rfl rfl (fun _=>⟨rfl,⟨rfl,⟨rfl,trivial⟩⟩⟩) (fun e=>ok_slices_IndexFunc_Lapi_Tape_api_Tape l1 (fun a1=>X.mend_Tape_c1 a1 label3) _ hr85 ⟨57,1,ofL [.vref (ofL [Enc.v label3]) 1 0],rfl,(caps_val rfl ⟨(vref_val (l:=[Enc.v label3]) rfl ⟨(v_val _),trivial⟩),trivial⟩),fun a1 r hr=>ok_mend_Tape_c1 a1 label3 r hr⟩) ?_
   refine M rfl rfl (TL.nil (hK84 _ _ (SR fun K86 hK86=>M rfl rfl (P1 (p_geq rfl rfl) rfl rfl (TL.nil (hK86 _ _ ?_))))))
   refine TK.cond (b:=(decide (r85≥(0:Int)))) rfl (fun hc=>?_) (fun hc=>?_)
   ·have hX:=ite_t hc hX
    refine TK.reg ?_
    refine M rfl rfl (M rfl rfl ?_)
    obtain ⟨e87,he87,hX⟩:=bind_some hX
    refine P1 (p_iaL (xs:=l1) kd48 ty54 rfl rfl rfl (fun _=>he87)) rfl rfl (P1 (p_faE fs54_1 Dc rfl) rfl rfl (P1 (p_ldE (xs:=l1) (a:=e87) (e87.Cap:Int) ty3 rfl rfl (fun _=>he87) rfl rfl rfl) rfl rfl (P1 (p_faV fs54_1 Dc rfl nd (j:=1) rfl rfl) rfl rfl ?_)))
    refine TLc.stV (lu:=Enc.cl (e87.Cap:Int)) nd ty3 rfl (j:=1) rfl rfl rfl (Cells_v (e87.Cap:Int)) rfl rfl [Enc.v label3,Enc.v e87.Cap,OL (α:=(List UInt8)) b21 ([]:List (List UInt8)),Enc.v false] rfl fun nd=>?_
    refine TL.nil ?_
    exact J22 e87.Cap _ _ ⟨b6,b5,b21,b20,rfl,(Nd.pick nd (is:=[2,3,0,1]) Dc),(HSub.pick nd (is:=[2,3,0,1]) Dc)⟩ hX
   ·have hX:=ite_f hc hX
    refine TK.skip ?_
    exact J22 r14.1 _ _ ⟨b6,b5,b21,b20,rfl,(Nd.pick nd (is:=[2,3,0,1]) Dc),(HSub.pick nd (is:=[2,3,0,1]) Dc)⟩ hX
theorem ok_cartridgelaw15_MendMany (data1:Int) (parity2:Int) (lost3:Int) (r:Bool) (hX:X.cartridgelaw15_MendMany data1 parity2 lost3=some r):Fun Try.prog 8 [Enc.v (data1:Int),Enc.v (parity2:Int),Enc.v (lost3:Int)] (·=Enc.v (r:Bool)):=by
 refine Fun.of b8 (Nat.le_of_ble_eq_true rfl) (allVal.mem ⟨(by exact (v_val _)),(by exact (v_val _)),(by exact (v_val _)),trivial⟩) ?_
 unfold k8
 have nd:Nd []:=Nd_nil
 unfold X.cartridgelaw15_MendMany at hX
 refine SR fun K4 hK4=>M rfl rfl (TL.nil (hK4 _ _ (SR fun K5 hK5=>?_)))
 obtain ⟨r6,hr6,hX⟩:=bind_some hX
 refine TL.cvX rfl rfl rfl (fun _=>⟨rfl,trivial⟩) (fun e=>ok_cartridgelaw15_alive _ hr6) ?_
 refine M rfl rfl (TL.nil (hK5 _ _ ?_))
 refine TK.seq_k fun K7 hK7=>?_
 refine SR fun K8 hK8=>M rfl rfl (P1 (p_not rfl) rfl rfl (M rfl rfl ?_))
 refine TLc.p (gc:=(!((!r6)))) (p_mv rfl (hg:=fun e=>rfl)) (gcF1 rfl) rfl ?_
 refine TLc.p (gc:=(!((!r6)))) (p_lss rfl rfl (hg:=fun e=>⟨e,rfl⟩)) (gcF1 rfl) rfl ?_
 refine P1 (p_or rfl rfl (fun e=>⟨rfl,fun h=>(not_t h)⟩)) rfl rfl (M rfl rfl ?_)
 refine TLc.p (gc:=(!(((!r6)||(decide (data1<(1:Int))))))) (p_mv rfl (hg:=fun e=>rfl)) (gcF1 rfl) rfl ?_
 refine TLc.p (gc:=(!(((!r6)||(decide (data1<(1:Int))))))) (p_gtr rfl rfl (hg:=fun e=>⟨e,rfl⟩)) (gcF1 rfl) rfl ?_
 refine P1 (p_or rfl rfl (fun e=>⟨rfl,fun h=>(not_t h)⟩)) rfl rfl (M rfl rfl ?_)
 refine TLc.p (gc:=(!((((!r6)||(decide (data1<(1:Int))))||(decide (data1>(6:Int))))))) (p_mv rfl (hg:=fun e=>rfl)) (gcF1 rfl) rfl ?_
 refine TLc.p (gc:=(!((((!r6)||(decide (data1<(1:Int))))||(decide (data1>(6:Int))))))) (p_lss rfl rfl (hg:=fun e=>⟨e,rfl⟩)) (gcF1 rfl) rfl ?_
 refine P1 (p_or rfl rfl (fun e=>⟨rfl,fun h=>(not_t h)⟩)) rfl rfl (M rfl rfl ?_)
 refine TLc.p (gc:=(!(((((!r6)||(decide (data1<(1:Int))))||(decide (data1>(6:Int))))||(decide (parity2<(1:Int))))))) (p_mv rfl (hg:=fun e=>rfl)) (gcF1 rfl) rfl ?_
 refine TLc.p (gc:=(!(((((!r6)||(decide (data1<(1:Int))))||(decide (data1>(6:Int))))||(decide (parity2<(1:Int))))))) (p_gtr rfl rfl (hg:=fun e=>⟨e,rfl⟩)) (gcF1 rfl) rfl ?_
 refine P1 (p_or rfl rfl (fun e=>⟨rfl,fun h=>(not_t h)⟩)) rfl rfl (M rfl rfl ?_)
 refine TLc.p (gc:=(!((((((!r6)||(decide (data1<(1:Int))))||(decide (data1>(6:Int))))||(decide (parity2<(1:Int))))||(decide (parity2>(4:Int))))))) (p_mv rfl (hg:=fun e=>rfl)) (gcF1 rfl) rfl ?_
 refine TLc.p (gc:=(!((((((!r6)||(decide (data1<(1:Int))))||(decide (data1>(6:Int))))||(decide (parity2<(1:Int))))||(decide (parity2>(4:Int))))))) (p_lss rfl rfl (hg:=fun e=>⟨e,rfl⟩)) (gcF1 rfl) rfl ?_
 refine P1 (p_or rfl rfl (fun e=>⟨rfl,fun h=>(not_t h)⟩)) rfl rfl (M rfl rfl ?_)
 refine TLc.p (gc:=(!(((((((!r6)||(decide (data1<(1:Int))))||(decide (data1>(6:Int))))||(decide (parity2<(1:Int))))||(decide (parity2>(4:Int))))||(decide (lost3<(0:Int))))))) (p_mv rfl (hg:=fun e=>rfl)) (gcF1 rfl) rfl ?_
 refine TLc.p (gc:=(!(((((((!r6)||(decide (data1<(1:Int))))||(decide (data1>(6:Int))))||(decide (parity2<(1:Int))))||(decide (parity2>(4:Int))))||(decide (lost3<(0:Int))))))) (p_mv rfl (hg:=fun e=>rfl)) (gcF1 rfl) rfl ?_
 refine TLc.p (gc:=(!(((((((!r6)||(decide (data1<(1:Int))))||(decide (data1>(6:Int))))||(decide (parity2<(1:Int))))||(decide (parity2>(4:Int))))||(decide (lost3<(0:Int))))))) (p_gtr rfl rfl (hg:=fun e=>⟨e,e⟩)) (gcF1 rfl) rfl ?_
 refine P1 (p_or rfl rfl (fun e=>⟨rfl,fun h=>(not_t h)⟩)) rfl rfl (TL.nil (hK8 _ _ ?_))
 refine TK.cond (b:=(((((((!r6)||(decide (data1<(1:Int))))||(decide (data1>(6:Int))))||(decide (parity2<(1:Int))))||(decide (parity2>(4:Int))))||(decide (lost3<(0:Int))))||(decide (lost3>data1)))) rfl (fun hc=>?_) (fun hc=>?_)
 ·have hX:=ite_t hc hX
  refine SR fun K9 hK9=>M rfl rfl (M rfl rfl (TL.nil (hK9 _ _ ?_)))
  refine TK.ret ?_
  try dsimp only[thenQ]
  exact R1 rfl hX
 ·have hX:=ite_f hc hX
  refine TK.skip ?_
  refine hK7 _ _ (SR fun K10 hK10=>M rfl rfl ?_)
  obtain ⟨u11,hu11,hX⟩:=bind_some hX
  refine TLc.mkV nd (0:Int) kd47 ty3 rfl (fun j hj=>by (have:j=0:=by simpa[Enc.sz] using hj);subst this;rfl) rfl rfl Dc (need_t hu11) rfl ?_
  refine M rfl rfl ?_
  obtain ⟨r12,hr12,hX⟩:=bind_some hX
  refine TL.tcX [] [] rfl nd (dlt rfl) rfl ⟨rfl,⟨rfl,⟨rfl,trivial⟩⟩⟩ (ok_cartridgelaw15_laid_or (List.replicate data1.toNat (0:Int)) parity2 (Nd.take nd 0 rfl) _ hr12) ?_
  rintro _ _ hQ nd
  obtain ⟨b13,rfl,rfl⟩:=hQ
  refine M rfl rfl (P1 (p_ex rfl rfl Dc) rfl rfl (P1 (p_ex rfl rfl Dc) rfl rfl (P1 (p_ex rfl rfl Dc) rfl rfl ?_)))
  refine TLc.alO (l:=[Enc.v ((0:Int):Int),Enc.v ((0:Int):Int),Enc.v ((0:Int):Int),Enc.v ((0:Int):Int),.nils]) nd ty50 ti50_z rfl rfl fun b14 nd=>?_
  refine M rfl rfl ?_
  refine TLc.stV (lu:=Enc.cl (r12.2.1:Seal_api)) nd ty50 rfl (j:=0) rfl rfl rfl (Cells_v (r12.2.1:Seal_api)) rfl rfl [Enc.v r12.2.1.Number,Enc.v r12.2.1.Index,Enc.v r12.2.1.Data,Enc.v r12.2.1.Parity,Enc.v r12.2.1.Labels] rfl fun nd=>?_
  refine M rfl rfl (TL.nil (hK10 _ _ ?_))
  refine TK.seq_k fun K15 hK15=>?_
  refine SR fun K16 hK16=>M rfl rfl (P1 (p_not rfl) rfl rfl (TL.nil (hK16 _ _ ?_)))
  refine TK.cond (b:=(!r12.2.2)) rfl (fun hc=>?_) (fun hc=>?_)
  ·have hX:=ite_t hc hX
   refine SR fun K17 hK17=>M rfl rfl (TL.nil (hK17 _ _ ?_))
   refine TK.ret ?_
   try dsimp only[thenQ]
   exact R1 rfl hX
  ·have hX:=ite_f hc hX
   refine TK.skip ?_
   refine hK15 _ _ ?_
   refine TK.seq_k fun K18 hK18=>?_
   refine SR fun K19 hK19=>M rfl rfl (TL.nil (hK19 _ _ ?_))
   refine TK.block ?_
   obtain ⟨o20,hO20,hA20⟩:=bind_some hX
   have E20:∀(l26:List Tape_api) (env:Env) (h:Hp),(∃b25 b27,keepE [0,1,2,8,9] env=[(0,true,Enc.v data1),(1,true,Enc.v parity2),(2,true,Enc.v lost3),(8,true,OL b25 l26),(9,true,.ref b27 0 5)]∧Nd [(b25,RL (α:=Tape_api) 54 l26),(b27,RV 50 [Enc.v r12.2.1.Number,Enc.v r12.2.1.Index,Enc.v r12.2.1.Data,Enc.v r12.2.1.Parity,Enc.v r12.2.1.Labels])]∧HSub [(b25,RL (α:=Tape_api) 54 l26),(b27,RV 50 [Enc.v r12.2.1.Number,Enc.v r12.2.1.Index,Enc.v r12.2.1.Data,Enc.v r12.2.1.Parity,Enc.v r12.2.1.Labels])] h)→X.cartridgelaw15_MendMany_e20 r12 data1 lost3 parity2 l26=some r→K18 env h:=by
    intro l26 env h hE hX
    obtain ⟨b25,b27,henv,nd,hs⟩:=hE
    unfold X.cartridgelaw15_MendMany_e20 at hX
    refine hK18 _ _ (TK.keep [0,1,2,8,9] ?_)
    rw[henv]
    refine TK.subH hs ?_
    refine SR fun K28 hK28=>M rfl rfl (P1 (p_ldVa (l':=Enc.cl (r12.2.1:Seal_api)) ty50 rfl rfl nd (j:=1) rfl rfl rfl rfl (Nat.le_of_ble_eq_true rfl)) rfl rfl ?_)
    refine TL.lay [(8,L l26),(65,L l26)] nd (j:=0) rfl ⟨⟨_,rfl,fix_OL nd (j:=0) rfl,rfl⟩,⟨⟨_,rfl,fix_OL nd (j:=0) rfl,rfl⟩,trivial⟩⟩ fun nd=>?_
    obtain ⟨r29,hr29,hX⟩:=bind_some hX
    refine TL.cvX rfl rfl rfl (fun _=>⟨rfl,⟨rfl,⟨rfl,⟨rfl,⟨rfl,trivial⟩⟩⟩⟩⟩) (fun e=>ok_mend_Block l26 r12.2.1 (1:Int) (0:Int) _ hr29) ?_
    refine M rfl rfl (P1 (p_ex rfl rfl Dc) rfl rfl (P1 (p_ex rfl rfl Dc) rfl rfl (M rfl rfl (M rfl rfl (TL.nil (hK28 _ _ (SR fun K30 hK30=>M rfl rfl (P1 (p_ldVa (l':=Enc.cl (r12.2.1:Seal_api)) ty50 rfl rfl nd (j:=0) rfl rfl rfl rfl (Nat.le_of_ble_eq_true rfl)) rfl rfl (M rfl rfl ?_)))))))))
    obtain ⟨r31,hr31,hX⟩:=bind_some hX
    refine TL.cvX rfl rfl rfl (fun _=>⟨rfl,⟨rfl,⟨rfl,⟨rfl,trivial⟩⟩⟩⟩) (fun e=>ok_mend_Tape l26 r12.2.1 data1 _ hr31) ?_
    refine M rfl rfl (P1 (p_ex rfl rfl Dc) rfl rfl (P1 (p_ex rfl rfl Dc) rfl rfl ?_))
    refine TLc.alO (l:=[Enc.v ((0:Int):Int),Enc.v ((0:Int):Int),.nils,Enc.v false]) nd ty54 ti54_z rfl rfl fun b32 nd=>?_
    refine TLc.stV (lu:=Enc.cl (r31.1:Tape_api)) nd ty54 rfl (j:=0) rfl rfl rfl (Cells_v (r31.1:Tape_api)) rfl rfl [Enc.v r31.1.Label,Enc.v r31.1.Cap,Enc.v r31.1.Blocks,Enc.v r31.1.Lost] rfl fun nd=>?_
    refine M rfl rfl (TL.nil (hK30 _ _ ?_))
    refine TK.seq_k fun K33 hK33=>?_
    refine SR fun K34 hK34=>M rfl rfl (M rfl rfl (P1 (p_leq rfl rfl) rfl rfl (TL.nil (hK34 _ _ ?_))))
    refine TK.cond (b:=(decide (lost3≤parity2))) rfl (fun hc=>?_) (fun hc=>?_)
    ·have hX:=ite_t hc hX
     refine SR fun K35 hK35=>M rfl rfl ?_
     obtain ⟨r36,hr36,hX⟩:=bind_some hX
     refine TL.cvX rfl rfl rfl (fun _=>⟨rfl,⟨rfl,trivial⟩⟩) (fun e=>ok_cartridgelaw15_num r29.2 _ hr36) ?_
     refine P1 (p_eql rfl rfl) rfl rfl (M rfl rfl ?_)
     refine TLc.p (gc:=((r36==(0:Int)))) (p_mv rfl (hg:=fun e=>rfl)) (gcT1 rfl) rfl ?_
     obtain ⟨r37,hr37,hX⟩:=bind_some hX
     refine TL.cvX (gcT1 rfl) rfl rfl (fun e=>⟨rfl,⟨e,trivial⟩⟩) (fun e=>ok_cartridgelaw15_num r31.2 _ (optG_t hr37 e)) ?_
     refine TLc.p (gc:=((r36==(0:Int)))) (p_eql rfl rfl (hg:=fun e=>⟨e,rfl⟩)) (gcT1 rfl) rfl ?_
     refine P1 (p_and rfl rfl (fun e=>⟨rfl,fun h=>h⟩)) rfl rfl (M rfl rfl (TL.nil (hK35 _ _ ?_)))
     refine TK.ret ?_
     try dsimp only[thenQ]
     exact R1 rfl hX
    ·have hX:=ite_f hc hX
     refine TK.skip ?_
     refine hK33 _ _ (SR fun K38 hK38=>M rfl rfl ?_)
     obtain ⟨r39,hr39,hX⟩:=bind_some hX
     refine TL.cvX rfl rfl rfl (fun _=>⟨rfl,⟨rfl,trivial⟩⟩) (fun e=>ok_cartridgelaw15_num r29.2 _ hr39) ?_
     refine P1 (p_eql rfl rfl) rfl rfl (M rfl rfl ?_)
     refine TLc.p (gc:=((r39==(10:Int)))) (p_mv rfl (hg:=fun e=>rfl)) (gcT1 rfl) rfl ?_
     obtain ⟨r40,hr40,hX⟩:=bind_some hX
     refine TL.cvX (gcT1 rfl) rfl rfl (fun e=>⟨rfl,⟨e,trivial⟩⟩) (fun e=>ok_cartridgelaw15_num r31.2 _ (optG_t hr40 e)) ?_
     refine TLc.p (gc:=((r39==(10:Int)))) (p_eql rfl rfl (hg:=fun e=>⟨e,rfl⟩)) (gcT1 rfl) rfl ?_
     refine P1 (p_and rfl rfl (fun e=>⟨rfl,fun h=>h⟩)) rfl rfl (M rfl rfl (TL.nil (hK38 _ _ ?_)))
     refine TK.ret ?_
     try dsimp only[thenQ]
     exact R1 rfl hX
   refine TK.iter [0,1,2,8,9,11] (fun s env h=>match s with|(l22,i24)=>∃b21 b23,env=[(0,true,Enc.v data1),(1,true,Enc.v parity2),(2,true,Enc.v lost3),(8,true,OL b21 l22),(9,true,.ref b23 0 5),(11,true,Enc.v i24)]∧Nd [(b21,RL (α:=Tape_api) 54 l22),(b23,RV 50 [Enc.v r12.2.1.Number,Enc.v r12.2.1.Index,Enc.v r12.2.1.Data,Enc.v r12.2.1.Parity,Enc.v r12.2.1.Labels])]∧HSub [(b21,RL (α:=Tape_api) 54 l22),(b23,RV 50 [Enc.v r12.2.1.Number,Enc.v r12.2.1.Index,Enc.v r12.2.1.Data,Enc.v r12.2.1.Parity,Enc.v r12.2.1.Labels])] h) hO20 ⟨b13,b14,rfl,(Nd.pick nd (is:=[1,0]) Dc),(HSub.pick nd (is:=[1,0]) Dc)⟩ ?_
   rintro ⟨l22,i24⟩ env h x20x ⟨b21,b23,rfl,nd,hs⟩ hX hR20
   refine TK.subH hs ?_
   unfold X.cartridgelaw15_MendMany_s20 at hX
   try dsimp only at hX
   refine TK.seq_k fun K41 hK41=>?_
   refine SR fun K42 hK42=>M rfl rfl (M rfl rfl (P1 (p_lss rfl rfl) rfl rfl (TL.nil (hK42 _ _ ?_))))
   refine TK.cond (b:=(decide (i24<lost3))) rfl (fun hc=>?_) (fun hc=>?_)
   ·have hX:=ite_t hc hX
    refine TK.skip ?_
    refine hK41 _ _ ?_
    refine TK.seq_k fun K43 hK43=>?_
    refine TK.block ?_
    refine TK.reg ?_
    refine M rfl rfl (M rfl rfl ?_)
    obtain ⟨e44,he44,hX⟩:=bind_some hX
    refine P1 (p_iaO (xs:=l22) kd48 ty54 rfl rfl rfl nd (j:=0) rfl (fun _=>he44)) rfl rfl (P1 (p_faO (xs:=l22) fs54_3 Dc rfl nd (j:=0) rfl) rfl rfl ?_)
    refine TLc.stL (lu:=Enc.cl (true:Bool)) (a':=(Tape_api.mk e44.Label e44.Cap e44.Blocks true)) nd ty4 rfl (j:=0) rfl he44 rfl (Cells_v (true:Bool)) rfl rfl rfl fun nd=>?_
    refine TL.cv 8 (OL b21 (l22.set i24.toNat (Tape_api.mk e44.Label e44.Cap e44.Blocks true))) rfl (Wk_eq (OL_len (by simp))) ?_
    refine TL.nil (hK43 _ _ ?_)
    refine TK.reg ?_
    refine M rfl rfl (P1 (p_add rfl rfl) rfl rfl (M rfl rfl (TL.nil ?_)))
    exact ⟨_,(some_in hX).symm,b21,b23,rfl,(Nd.pick nd (is:=[0,1]) Dc),(HSub.pick nd (is:=[0,1]) Dc)⟩
   ·have hX:=ite_f hc hX
    refine TK.exit ?_
    obtain rfl:=hR20 _ (some_in hX).symm
    exact E20 l22 _ _ ⟨b21,b23,rfl,(Nd.pick nd (is:=[0,1]) Dc),(HSub.pick nd (is:=[0,1]) Dc)⟩ hA20
end Go.Proofs.Ytndjbcnpgggddaa
