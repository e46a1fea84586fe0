import Derived.Test.YtndjbcnpgggddaaXFn
import Derived.Test.YtndjbcnpgggddaaXS
import Derived.Test.YtndjbcnpgggddaaAmK0
import Derived.Test.YtndjbcnpgggddaaAmK1
namespace Go.Proofs.Ytndjbcnpgggddaa
open Go.AM Go.AX
set_option linter.unusedVariables false
set_option maxRecDepth 20000
theorem ok_record_within (n1:Int) (low2:Int) (high3:Int) (r:Bool) (hX:X.record_within n1 low2 high3=some r):Fun Try.prog 147 [Enc.v (n1:Int),Enc.v (low2:Int),Enc.v (high3:Int)] (·=Enc.v (r:Bool)):=by
 refine Fun.of b147 (Nat.le_of_ble_eq_true rfl) (allVal.mem ⟨(by exact (v_val _)),(by exact (v_val _)),(by exact (v_val _)),trivial⟩) ?_
 unfold k147
 have nd:Nd []:=Nd_nil
 unfold X.record_within at hX
 refine SR fun K4 hK4=>M rfl rfl (TL.nil (hK4 _ _ (SR fun K5 hK5=>M rfl rfl (M rfl rfl (P1 (p_geq rfl rfl) rfl rfl (M rfl rfl ?_))))))
 refine TLc.p (gc:=((decide (n1≥low2)))) (p_mv rfl (hg:=fun e=>rfl)) (gcT1 rfl) rfl ?_
 refine TLc.p (gc:=((decide (n1≥low2)))) (p_mv rfl (hg:=fun e=>rfl)) (gcT1 rfl) rfl ?_
 refine TLc.p (gc:=((decide (n1≥low2)))) (p_leq rfl rfl (hg:=fun e=>⟨e,e⟩)) (gcT1 rfl) rfl ?_
 refine P1 (p_and rfl rfl (fun e=>⟨rfl,fun h=>h⟩)) rfl rfl (M rfl rfl (TL.nil (hK5 _ _ ?_)))
 refine TK.ret ?_
 try dsimp only[thenQ]
 exact R1 rfl hX
theorem ok_slices_Index_Lint_int (s1:(List Int)) (v2:Int) (r:Int) (hX:X.slices_Index_Lint_int s1 v2=some r):Fun Try.prog 96 [Enc.v (s1:(List Int)),Enc.v (v2:Int)] (·=Enc.v (r:Int)):=by
 refine Fun.of b96 (Nat.le_of_ble_eq_true rfl) (allVal.mem ⟨(by exact (v_val _)),(by exact (v_val _)),trivial⟩) ?_
 unfold k96
 have nd:Nd []:=Nd_nil
 unfold X.slices_Index_Lint_int at hX
 refine SR fun K3 hK3=>M rfl rfl (TL.nil (hK3 _ _ ?_))
 refine TK.seq_k fun K4 hK4=>?_
 refine SR fun K5 hK5=>M rfl rfl (P1 (p_lenL (xs:=s1) kd47 rfl) rfl rfl (M rfl rfl (TL.nil (hK5 _ _ ?_))))
 refine TK.block ?_
 obtain ⟨o6,hO6,hA6⟩:=bind_some hX
 have E6:∀(env:Env) (h:Hp),(∃_u:Unit,keepE [] env=[]∧Nd []∧HSub [] h)→X.slices_Index_Lint_int_e6=some r→K4 env h:=by
  intro env h hE hX
  obtain ⟨_u,henv,nd,hs⟩:=hE
  unfold X.slices_Index_Lint_int_e6 at hX
  refine hK4 _ _ (TK.keep [] ?_)
  rw[henv]
  refine TK.subH hs ?_
  refine SR fun K8 hK8=>M rfl rfl (TL.nil (hK8 _ _ ?_))
  refine TK.ret ?_
  try dsimp only[thenQ]
  exact R1 rfl hX
 refine TK.iter [0,1,7,8] (fun s env h=>match s with|x7=>∃_u:Unit,env=[(0,true,Enc.v s1),(1,true,Enc.v v2),(7,true,Enc.v ((s1.length:Int):Int)),(8,true,Enc.v x7)]∧Nd []∧HSub [] h) hO6 ⟨(),rfl,Nd_nil,HSub.refl _⟩ ?_
 rintro x7 env h x6x ⟨_u,rfl,nd,hs⟩ hX hR6
 refine TK.subH hs ?_
 unfold X.slices_Index_Lint_int_s6 at hX
 try dsimp only at hX
 refine SR fun K9 hK9=>P1 (p_lss rfl rfl) rfl rfl (TL.nil (hK9 _ _ ?_))
 refine TK.seq_k fun K10 hK10=>?_
 refine TK.cond (b:=(decide (x7<(s1.length:Int)))) rfl (fun hc=>?_) (fun hc=>?_)
 ·have hX:=ite_t hc hX
  refine TK.skip ?_
  refine hK10 _ _ ?_
  refine TK.seq_k fun K11 hK11=>?_
  refine TK.block ?_
  refine SR fun K12 hK12=>M rfl rfl (M rfl rfl (TL.nil (hK12 _ _ (SR fun K13 hK13=>M rfl rfl (M rfl rfl (M rfl rfl ?_))))))
  obtain ⟨e14,he14,hX⟩:=bind_some hX
  refine P1 (p_iaL (xs:=s1) kd47 ty3 rfl rfl rfl (fun _=>he14)) rfl rfl (P1 (p_ldE (xs:=s1) (a:=e14) (e14:Int) ty3 rfl rfl (fun _=>he14) rfl rfl rfl) rfl rfl (P1 (p_eql rfl rfl) rfl rfl (TL.nil (hK13 _ _ ?_))))
  refine TK.cond (b:=(v2==e14)) rfl (fun hc=>?_) (fun hc=>?_)
  ·have hX:=ite_t hc hX
   refine SR fun K15 hK15=>M rfl rfl (M rfl rfl (TL.nil (hK15 _ _ ?_)))
   refine TK.ret ?_
   obtain rfl:=hR6 _ (some_in hX).symm
   replace hX:=hA6
   try dsimp only[thenQ]
   exact R1 rfl hX
  ·have hX:=ite_f hc hX
   refine TK.skip ?_
   refine hK11 _ _ ?_
   refine TK.reg ?_
   refine P1 (p_add rfl rfl) rfl rfl (M rfl rfl (TL.nil ?_))
   exact ⟨_,(some_in hX).symm,(),rfl,Nd_nil,HSub.refl _⟩
 ·have hX:=ite_f hc hX
  refine TK.exit ?_
  obtain rfl:=hR6 _ (some_in hX).symm
  exact E6 _ _ ⟨(),rfl,Nd_nil,HSub.refl _⟩ hA6
theorem ok_slices_Contains_Lint_int (s1:(List Int)) (v2:Int) (r:Bool) (hX:X.slices_Contains_Lint_int s1 v2=some r):Fun Try.prog 76 [Enc.v (s1:(List Int)),Enc.v (v2:Int)] (·=Enc.v (r:Bool)):=by
 refine Fun.of b76 (Nat.le_of_ble_eq_true rfl) (allVal.mem ⟨(by exact (v_val _)),(by exact (v_val _)),trivial⟩) ?_
 unfold k76
 have nd:Nd []:=Nd_nil
 unfold X.slices_Contains_Lint_int at hX
 refine SR fun K3 hK3=>M rfl rfl (TL.nil (hK3 _ _ (SR fun K4 hK4=>M rfl rfl (M rfl rfl ?_))))
 obtain ⟨r5,hr5,hX⟩:=bind_some hX
 refine TL.cvX rfl rfl rfl (fun _=>⟨rfl,⟨rfl,⟨rfl,trivial⟩⟩⟩) (fun e=>ok_slices_Index_Lint_int s1 v2 _ hr5) ?_
 refine P1 (p_geq rfl rfl) rfl rfl (M rfl rfl (TL.nil (hK4 _ _ ?_)))
 refine TK.ret ?_
 try dsimp only[thenQ]
 exact R1 rfl hX
theorem ok_record_RightSeal (s1:Seal_api) (r:Bool) (hX:X.record_RightSeal s1=some r):Fun Try.prog 95 [Enc.v (s1:Seal_api)] (·=Enc.v (r:Bool)):=by
 refine Fun.of b95 (Nat.le_of_ble_eq_true rfl) (allVal.mem ⟨(by exact (v_val _)),trivial⟩) ?_
 unfold k95
 have nd:Nd []:=Nd_nil
 unfold X.record_RightSeal at hX
 refine SR fun K2 hK2=>?_
 refine TLc.boxV (lu:=[Enc.v s1.Number,Enc.v s1.Index,Enc.v s1.Data,Enc.v s1.Parity,Enc.v s1.Labels]) nd rfl (Cells_v (s1:Seal_api)) rfl ?_
 refine M rfl rfl (TL.nil (hK2 _ _ ?_))
 refine TK.seq_k fun K3 hK3=>?_
 refine SR fun K4 hK4=>P1 (p_faR fs50_0 Dc rfl) rfl rfl (P1 (p_ldR (v:=Enc.v s1.Number) ty3 rfl rfl rfl rfl rfl rfl) rfl rfl ?_)
 obtain ⟨r5,hr5,hX⟩:=bind_some hX
 refine TL.cvX rfl rfl rfl (fun _=>⟨rfl,⟨rfl,⟨rfl,⟨rfl,trivial⟩⟩⟩⟩) (fun e=>ok_record_within s1.Number (1:Int) (1073741824:Int) _ hr5) ?_
 refine P1 (p_not rfl) rfl rfl (M rfl rfl ?_)
 refine TLc.p (gc:=(!((!r5)))) (p_faR fs50_2 Dc rfl (hg:=fun e=>rfl)) (gcF1 rfl) rfl ?_
 refine TLc.p (gc:=(!((!r5)))) (p_ldR (v:=Enc.v s1.Data) ty3 rfl rfl rfl rfl rfl rfl (hg:=fun e=>e)) (gcF1 rfl) rfl ?_
 obtain ⟨r6,hr6,hX⟩:=bind_some hX
 refine TL.cvX (gcF1 rfl) rfl rfl (fun e=>⟨rfl,⟨e,⟨rfl,⟨rfl,trivial⟩⟩⟩⟩) (fun e=>ok_record_within s1.Data (1:Int) (14:Int) _ (optG_t hr6 e)) ?_
 refine TLc.p (gc:=(!((!r5)))) (p_not rfl (hg:=fun e=>e)) (gcF1 rfl) rfl ?_
 refine P1 (p_or rfl rfl (fun e=>⟨rfl,fun h=>(not_t h)⟩)) rfl rfl (M rfl rfl ?_)
 refine TLc.p (gc:=(!(((!r5)||(!r6))))) (p_faR fs50_3 Dc rfl (hg:=fun e=>rfl)) (gcF1 rfl) rfl ?_
 refine TLc.p (gc:=(!(((!r5)||(!r6))))) (p_ldR (v:=Enc.v s1.Parity) ty3 rfl rfl rfl rfl rfl rfl (hg:=fun e=>e)) (gcF1 rfl) rfl ?_
 refine TLc.p (gc:=(!(((!r5)||(!r6))))) (p_faR fs50_2 Dc rfl (hg:=fun e=>rfl)) (gcF1 rfl) rfl ?_
 refine TLc.p (gc:=(!(((!r5)||(!r6))))) (p_ldR (v:=Enc.v s1.Data) ty3 rfl rfl rfl rfl rfl rfl (hg:=fun e=>e)) (gcF1 rfl) rfl ?_
 refine TLc.p (gc:=(!(((!r5)||(!r6))))) (p_sub rfl rfl (hg:=fun e=>⟨rfl,e⟩)) (gcF1 rfl) rfl ?_
 obtain ⟨r7,hr7,hX⟩:=bind_some hX
 refine TL.cvX (gcF1 rfl) rfl rfl (fun e=>⟨rfl,⟨e,⟨rfl,⟨e,trivial⟩⟩⟩⟩) (fun e=>ok_record_within s1.Parity (1:Int) (wr ((14:Int)-s1.Data)) _ (optG_t hr7 e)) ?_
 refine TLc.p (gc:=(!(((!r5)||(!r6))))) (p_not rfl (hg:=fun e=>e)) (gcF1 rfl) rfl ?_
 refine P1 (p_or rfl rfl (fun e=>⟨rfl,fun h=>(not_t h)⟩)) rfl rfl (TL.nil (hK4 _ _ ?_))
 refine TK.cond (b:=(((!r5)||(!r6))||(!r7))) rfl (fun hc=>?_) (fun hc=>?_)
 ·have hX:=ite_t hc hX
  refine SR fun K8 hK8=>M rfl rfl (TL.nil (hK8 _ _ ?_))
  refine TK.ret ?_
  try dsimp only[thenQ]
  exact R1 rfl hX
 ·have hX:=ite_f hc hX
  refine TK.skip ?_
  refine hK3 _ _ (SR fun K9 hK9=>P1 (p_faR fs50_2 Dc rfl) rfl rfl (P1 (p_ldR (v:=Enc.v s1.Data) ty3 rfl rfl rfl rfl rfl rfl) rfl rfl (P1 (p_faR fs50_3 Dc rfl) rfl rfl (P1 (p_ldR (v:=Enc.v s1.Parity) ty3 rfl rfl rfl rfl rfl rfl) rfl rfl (P1 (p_add rfl rfl) rfl rfl (M rfl rfl (TL.nil (hK9 _ _ ?_))))))))
  refine TK.seq_k fun K10 hK10=>?_
  refine SR fun K11 hK11=>P1 (p_faR fs50_1 Dc rfl) rfl rfl (P1 (p_ldR (v:=Enc.v s1.Index) ty3 rfl rfl rfl rfl rfl rfl) rfl rfl (M rfl rfl (P1 (p_sub rfl rfl) rfl rfl ?_)))
  obtain ⟨r12,hr12,hX⟩:=bind_some hX
  refine TL.cvX rfl rfl rfl (fun _=>⟨rfl,⟨rfl,⟨rfl,⟨rfl,trivial⟩⟩⟩⟩) (fun e=>ok_record_within s1.Index (0:Int) (wr ((wr (s1.Data+s1.Parity))-(1:Int))) _ hr12) ?_
  refine P1 (p_not rfl) rfl rfl (M rfl rfl ?_)
  refine TLc.p (gc:=(!((!r12)))) (p_faR fs50_4 Dc rfl (hg:=fun e=>rfl)) (gcF1 rfl) rfl ?_
  refine TLc.p (gc:=(!((!r12)))) (p_ldR (v:=Enc.v s1.Labels) ty47 rfl rfl rfl rfl rfl rfl (hg:=fun e=>e)) (gcF1 rfl) rfl ?_
  refine TLc.p (gc:=(!((!r12)))) (p_lenL (xs:=s1.Labels) kd47 rfl (hg:=fun e=>e)) (gcF1 rfl) rfl ?_
  refine TLc.p (gc:=(!((!r12)))) (p_mv rfl (hg:=fun e=>rfl)) (gcF1 rfl) rfl ?_
  refine TLc.p (gc:=(!((!r12)))) (p_neq rfl rfl (hg:=fun e=>⟨e,e⟩)) (gcF1 rfl) rfl ?_
  refine P1 (p_or rfl rfl (fun e=>⟨rfl,fun h=>(not_t h)⟩)) rfl rfl (TL.nil (hK11 _ _ ?_))
  refine TK.cond (b:=((!r12)||((s1.Labels.length:Int) !=(wr (s1.Data+s1.Parity))))) rfl (fun hc=>?_) (fun hc=>?_)
  ·have hX:=ite_t hc hX
   refine SR fun K13 hK13=>M rfl rfl (TL.nil (hK13 _ _ ?_))
   refine TK.ret ?_
   try dsimp only[thenQ]
   exact R1 rfl hX
  ·have hX:=ite_f hc hX
   refine TK.skip ?_
   refine hK10 _ _ ?_
   refine TK.seq_k fun K14 hK14=>?_
   refine SR fun K15 hK15=>P1 (p_faR fs50_4 Dc rfl) rfl rfl (P1 (p_ldR (v:=Enc.v s1.Labels) ty47 rfl rfl rfl rfl rfl rfl) rfl rfl (P1 (p_lenL (xs:=s1.Labels) kd47 rfl) rfl rfl (M rfl rfl (TL.nil (hK15 _ _ ?_)))))
   refine TK.block ?_
   obtain ⟨o16,hO16,hA16⟩:=bind_some hX
   have E16:∀(env:Env) (h:Hp),(∃_u:Unit,keepE [] env=[]∧Nd []∧HSub [] h)→X.record_RightSeal_e16=some r→K14 env h:=by
    intro env h hE hX
    obtain ⟨_u,henv,nd,hs⟩:=hE
    unfold X.record_RightSeal_e16 at hX
    refine hK14 _ _ (TK.keep [] ?_)
    rw[henv]
    refine TK.subH hs ?_
    refine SR fun K18 hK18=>M rfl rfl (TL.nil (hK18 _ _ ?_))
    refine TK.ret ?_
    try dsimp only[thenQ]
    exact R1 rfl hX
   refine TK.iter [1,44,45,46] (fun s env h=>match s with|x17=>∃_u:Unit,env=[(1,true,.vref (ofL [Enc.v s1.Number,Enc.v s1.Index,Enc.v s1.Data,Enc.v s1.Parity,Enc.v s1.Labels]) 5 0),(44,true,Enc.v s1.Labels),(45,true,Enc.v ((s1.Labels.length:Int):Int)),(46,true,Enc.v x17)]∧Nd []∧HSub [] h) hO16 ⟨(),rfl,Nd_nil,HSub.refl _⟩ ?_
   rintro x17 env h x16x ⟨_u,rfl,nd,hs⟩ hX hR16
   refine TK.subH hs ?_
   unfold X.record_RightSeal_s16 at hX
   try dsimp only at hX
   refine SR fun K19 hK19=>P1 (p_lss rfl rfl) rfl rfl (TL.nil (hK19 _ _ ?_))
   refine TK.seq_k fun K20 hK20=>?_
   refine TK.cond (b:=(decide (x17<(s1.Labels.length:Int)))) rfl (fun hc=>?_) (fun hc=>?_)
   ·have hX:=ite_t hc hX
    refine TK.skip ?_
    refine hK20 _ _ ?_
    refine TK.seq_k fun K21 hK21=>?_
    refine TK.block ?_
    refine SR fun K22 hK22=>M rfl rfl ?_
    obtain ⟨e23,he23,hX⟩:=bind_some hX
    refine P1 (p_iaL (xs:=s1.Labels) kd47 ty3 rfl rfl rfl (fun _=>he23)) rfl rfl (P1 (p_ldE (xs:=s1.Labels) (a:=e23) (e23:Int) ty3 rfl rfl (fun _=>he23) rfl rfl rfl) rfl rfl (M rfl rfl (M rfl rfl (TL.nil (hK22 _ _ (SR fun K24 hK24=>M rfl rfl ?_))))))
    obtain ⟨r25,hr25,hX⟩:=bind_some hX
    refine TL.cvX rfl rfl rfl (fun _=>⟨rfl,⟨rfl,⟨rfl,⟨rfl,trivial⟩⟩⟩⟩) (fun e=>ok_record_within e23 (1:Int) (2147483647:Int) _ hr25) ?_
    refine P1 (p_not rfl) rfl rfl (M rfl rfl ?_)
    refine TLc.p (gc:=(!((!r25)))) (p_faR fs50_4 Dc rfl (hg:=fun e=>rfl)) (gcF1 rfl) rfl ?_
    refine TLc.p (gc:=(!((!r25)))) (p_ldR (v:=Enc.v s1.Labels) ty47 rfl rfl rfl rfl rfl rfl (hg:=fun e=>e)) (gcF1 rfl) rfl ?_
    refine TLc.p (gc:=(!((!r25)))) (p_mv rfl (hg:=fun e=>rfl)) (gcF1 rfl) rfl ?_
    obtain ⟨u26,hu26,hX⟩:=bind_some hX
    refine TLc.p (gc:=(!((!r25)))) (p_sliL (xs:=s1.Labels) (l:=(0:Int)) (k:=x17) kd47 ty3 rfl rfl rfl rfl (fun e=>need_t (optG_t hu26 e)) (hg:=fun e=>⟨e,rfl,e⟩)) (gcF1 rfl) rfl ?_
    refine TLc.p (gc:=(!((!r25)))) (p_mv rfl (hg:=fun e=>rfl)) (gcF1 rfl) rfl ?_
    obtain ⟨r27,hr27,hX⟩:=bind_some hX
    refine TL.cvX (gcF1 rfl) rfl rfl (fun e=>⟨rfl,⟨e,⟨e,trivial⟩⟩⟩) (fun e=>ok_slices_Contains_Lint_int (slc s1.Labels (0:Int) x17) e23 _ (optG_t hr27 e)) ?_
    refine P1 (p_or rfl rfl (fun e=>⟨rfl,fun h=>(not_t h)⟩)) rfl rfl (TL.nil (hK24 _ _ ?_))
    refine TK.cond (b:=((!r25)||r27)) rfl (fun hc=>?_) (fun hc=>?_)
    ·have hX:=ite_t hc hX
     refine SR fun K28 hK28=>M rfl rfl (TL.nil (hK28 _ _ ?_))
     refine TK.ret ?_
     obtain rfl:=hR16 _ (some_in hX).symm
     replace hX:=hA16
     try dsimp only[thenQ]
     exact R1 rfl hX
    ·have hX:=ite_f hc hX
     refine TK.skip ?_
     refine hK21 _ _ ?_
     refine TK.reg ?_
     refine P1 (p_add rfl rfl) rfl rfl (M rfl rfl (TL.nil ?_))
     exact ⟨_,(some_in hX).symm,(),rfl,Nd_nil,HSub.refl _⟩
   ·have hX:=ite_f hc hX
    refine TK.exit ?_
    obtain rfl:=hR16 _ (some_in hX).symm
    exact E16 _ _ ⟨(),rfl,Nd_nil,HSub.refl _⟩ hA16
theorem ok_mend_place (s1:Seal_api) (label2:Int) (r:(Int×Bool)) (hX:X.mend_place s1 label2=some r):Fun Try.prog 54 [Enc.v (s1:Seal_api),Enc.v (label2:Int)] (·= .tup 2 (ofL [Enc.v r.1,Enc.v r.2])):=by
 refine Fun.of b54 (Nat.le_of_ble_eq_true rfl) (allVal.mem ⟨(by exact (v_val _)),(by exact (v_val _)),trivial⟩) ?_
 unfold k54
 have nd:Nd []:=Nd_nil
 unfold X.mend_place at hX
 refine SR fun K3 hK3=>?_
 refine TLc.boxV (lu:=[Enc.v s1.Number,Enc.v s1.Index,Enc.v s1.Data,Enc.v s1.Parity,Enc.v s1.Labels]) nd rfl (Cells_v (s1:Seal_api)) rfl ?_
 refine M rfl rfl (M rfl rfl (TL.nil (hK3 _ _ ?_)))
 refine TK.seq_k fun K4 hK4=>?_
 refine SR fun K5 hK5=>P1 (p_ldRa (l':=Enc.cl (s1:Seal_api)) ty50 rfl rfl rfl rfl rfl (Nat.le_of_ble_eq_true rfl)) rfl rfl ?_
 obtain ⟨r6,hr6,hX⟩:=bind_some hX
 refine TL.cvX rfl rfl rfl (fun _=>⟨rfl,⟨rfl,trivial⟩⟩) (fun e=>ok_record_RightSeal s1 _ hr6) ?_
 refine P1 (p_not rfl) rfl rfl (TL.nil (hK5 _ _ ?_))
 refine TK.cond (b:=(!r6)) rfl (fun hc=>?_) (fun hc=>?_)
 ·have hX:=ite_t hc hX
  refine SR fun K7 hK7=>M rfl rfl (M rfl rfl (TL.nil (hK7 _ _ ?_)))
  refine TK.ret ?_
  try dsimp only[thenQ]
  exact retN (vs:=[Enc.v ((0:Int):Int),Enc.v false]) ⟨rfl,rfl,trivial⟩ (by obtain rfl:=some_in hX;rfl) (allVal.mem ⟨v_val _,v_val _,trivial⟩)
 ·have hX:=ite_f hc hX
  refine TK.skip ?_
  refine hK4 _ _ (SR fun K8 hK8=>P1 (p_faR fs50_4 Dc rfl) rfl rfl (P1 (p_ldR (v:=Enc.v s1.Labels) ty47 rfl rfl rfl rfl rfl rfl) rfl rfl (M rfl rfl ?_)))
  obtain ⟨r9,hr9,hX⟩:=bind_some hX
  refine TL.cvX rfl rfl rfl (fun _=>⟨rfl,⟨rfl,⟨rfl,trivial⟩⟩⟩) (fun e=>ok_slices_Index_Lint_int s1.Labels label2 _ hr9) ?_
  refine M rfl rfl (TL.nil (hK8 _ _ ?_))
  refine TK.seq_k fun K10 hK10=>?_
  have ndS:Nd []:=Nd.pick nd (is:=[]) Dc
  refine TK.drwX (h:=[]) (hS:=[]) [(0,0),(0,1),(0,2),(0,3),(0,4),(0,5),(0,6),(0,7),(0,8),(0,9),(0,10)] mixed (by kernel_rfl) (HSub_app nd) ?_
  refine DM rfl rfl rfl ?_
  refine DM rfl rfl rfl ?_
  refine D0 rfl (p_geq rfl rfl) rfl rfl ?_
  refine DM rfl rfl rfl ?_
  refine DR0 (gc:=((decide (r9≥(0:Int))))) rfl (vok_p (C:=cx) (p_mv rfl (hg:=fun e=>rfl))) (gcT1 rfl) rfl ?_
  refine DR0 (gc:=((decide (r9≥(0:Int))))) rfl (vok_p (C:=cx) (p_faR fs50_2 Dc rfl (hg:=fun e=>rfl))) (gcT1 rfl) rfl ?_
  refine DR0 (gc:=((decide (r9≥(0:Int))))) rfl (vok_p (C:=cx) (p_ldR (v:=Enc.v s1.Data) ty3 rfl rfl rfl rfl rfl rfl (hg:=fun e=>e))) (gcT1 rfl) rfl ?_
  refine DR0 (gc:=((decide (r9≥(0:Int))))) rfl (vok_p (C:=cx) (p_lss rfl rfl (hg:=fun e=>⟨e,e⟩))) (gcT1 rfl) rfl ?_
  refine D0 rfl (p_and rfl rfl (fun e=>⟨rfl,fun h=>h⟩)) rfl rfl ?_
  refine DM rfl rfl rfl ?_
  refine DM rfl rfl rfl ?_
  refine DRend ?_
  refine hK10 _ _ ?_
  refine TK.ret ?_
  try dsimp only[thenQ]
  exact retN (vs:=[Enc.v r9,Enc.v (((decide (r9≥(0:Int)))&&(decide (r9<s1.Data))):Bool)]) ⟨rfl,rfl,trivial⟩ (by obtain rfl:=some_in hX;rfl) (allVal.mem ⟨v_val _,v_val _,trivial⟩)
theorem ok_slices_IndexFunc_Lapi_Tape_api_Tape (s1:(List Tape_api)) (g2:Tape_api→Option Bool) (r:Int) (hX:X.slices_IndexFunc_Lapi_Tape_api_Tape s1 g2=some r) {g2V:AV} (hg2V:∃f m c,g2V= .fn f m c∧(∀i,i<m→(c i).val)∧∀(a0:Tape_api) r,g2 a0=some r→Fun Try.prog f ([Enc.v a0]++(List.range m).map c) (·=Enc.v r)):Fun Try.prog 56 [Enc.v (s1:(List Tape_api)),g2V] (·=Enc.v (r:Int)):=by
 obtain ⟨g2f,g2m,g2c,rfl,hg2v,hg2⟩:=hg2V
 refine Fun.of b56 (Nat.le_of_ble_eq_true rfl) (allVal.mem ⟨(by exact (v_val _)),hg2v,trivial⟩) ?_
 unfold k56
 have nd:Nd []:=Nd_nil
 unfold X.slices_IndexFunc_Lapi_Tape_api_Tape at hX
 refine SR fun K3 hK3=>M rfl rfl (TL.nil (hK3 _ _ ?_))
 refine TK.seq_k fun K4 hK4=>?_
 refine SR fun K5 hK5=>M rfl rfl (P1 (p_lenL (xs:=s1) kd48 rfl) rfl rfl (M rfl rfl (TL.nil (hK5 _ _ ?_))))
 refine TK.block ?_
 obtain ⟨o6,hO6,hA6⟩:=bind_some hX
 have E6:∀(env:Env) (h:Hp),(∃_u:Unit,keepE [] env=[]∧Nd []∧HSub [] h)→X.slices_IndexFunc_Lapi_Tape_api_Tape_e6=some r→K4 env h:=by
  intro env h hE hX
  obtain ⟨_u,henv,nd,hs⟩:=hE
  unfold X.slices_IndexFunc_Lapi_Tape_api_Tape_e6 at hX
  refine hK4 _ _ (TK.keep [] ?_)
  rw[henv]
  refine TK.subH hs ?_
  refine SR fun K8 hK8=>M rfl rfl (TL.nil (hK8 _ _ ?_))
  refine TK.ret ?_
  try dsimp only[thenQ]
  exact R1 rfl hX
 refine TK.iter [0,1,7,8] (fun s env h=>match s with|x7=>∃_u:Unit,env=[(0,true,Enc.v s1),(1,true,.fn g2f g2m g2c),(7,true,Enc.v ((s1.length:Int):Int)),(8,true,Enc.v x7)]∧Nd []∧HSub [] h) hO6 ⟨(),rfl,Nd_nil,HSub.refl _⟩ ?_
 rintro x7 env h x6x ⟨_u,rfl,nd,hs⟩ hX hR6
 refine TK.subH hs ?_
 unfold X.slices_IndexFunc_Lapi_Tape_api_Tape_s6 at hX
 try dsimp only at hX
 refine SR fun K9 hK9=>P1 (p_lss rfl rfl) rfl rfl (TL.nil (hK9 _ _ ?_))
 refine TK.seq_k fun K10 hK10=>?_
 refine TK.cond (b:=(decide (x7<(s1.length:Int)))) rfl (fun hc=>?_) (fun hc=>?_)
 ·have hX:=ite_t hc hX
  refine TK.skip ?_
  refine hK10 _ _ ?_
  refine TK.seq_k fun K11 hK11=>?_
  refine TK.block ?_
  refine SR fun K12 hK12=>M rfl rfl (M rfl rfl (TL.nil (hK12 _ _ (SR fun K13 hK13=>M rfl rfl (M rfl rfl (M rfl rfl ?_))))))
  obtain ⟨e14,he14,hX⟩:=bind_some hX
  refine P1 (p_iaL (xs:=s1) kd48 ty54 rfl rfl rfl (fun _=>he14)) rfl rfl (P1 (p_ldE (xs:=s1) (a:=e14) (e14:Tape_api) ty54 rfl rfl (fun _=>he14) rfl rfl rfl) rfl rfl ?_)
  obtain ⟨r15,hr15,hX⟩:=bind_some hX
  refine TL.cvX rfl rfl rfl (fun _=>⟨rfl,⟨rfl,trivial⟩⟩) (fun e=>hg2 e14 _ hr15) ?_
  refine TL.nil (hK13 _ _ ?_)
  refine TK.cond (b:=r15) rfl (fun hc=>?_) (fun hc=>?_)
  ·have hX:=ite_t hc hX
   refine SR fun K16 hK16=>M rfl rfl (M rfl rfl (TL.nil (hK16 _ _ ?_)))
   refine TK.ret ?_
   obtain rfl:=hR6 _ (some_in hX).symm
   replace hX:=hA6
   try dsimp only[thenQ]
   exact R1 rfl hX
  ·have hX:=ite_f hc hX
   refine TK.skip ?_
   refine hK11 _ _ ?_
   refine TK.reg ?_
   refine P1 (p_add rfl rfl) rfl rfl (M rfl rfl (TL.nil ?_))
   exact ⟨_,(some_in hX).symm,(),rfl,Nd_nil,HSub.refl _⟩
 ·have hX:=ite_f hc hX
  refine TK.exit ?_
  obtain rfl:=hR6 _ (some_in hX).symm
  exact E6 _ _ ⟨(),rfl,Nd_nil,HSub.refl _⟩ hA6
theorem ok_mend_member_c1 (t1:Tape_api) (c2:Int) (r:Bool) (hX:X.mend_member_c1 t1 c2=some r):Fun Try.prog 148 [Enc.v (t1:Tape_api),.vref (ofL [Enc.v (c2:Int)]) 1 0] (·=Enc.v (r:Bool)):=by
 refine Fun.of b148 (Nat.le_of_ble_eq_true rfl) (allVal.mem ⟨(by exact (v_val _)),(by exact (vref_val (l:=[Enc.v (c2:Int)]) rfl ⟨(v_val _),trivial⟩)),trivial⟩) ?_
 unfold k148
 have nd:Nd []:=Nd_nil
 unfold X.mend_member_c1 at hX
 refine SR fun K3 hK3=>?_
 refine TLc.boxV (lu:=[Enc.v t1.Label,Enc.v t1.Cap,Enc.v t1.Blocks,Enc.v t1.Lost]) nd rfl (Cells_v (t1:Tape_api)) rfl ?_
 refine M rfl rfl (TL.nil (hK3 _ _ (SR fun K4 hK4=>P1 (p_faR fs54_0 Dc rfl) rfl rfl (P1 (p_ldR (v:=Enc.v t1.Label) ty3 rfl rfl rfl rfl rfl rfl) rfl rfl (P1 (p_ldR (v:=Enc.v c2) ty3 rfl rfl rfl rfl rfl rfl) rfl rfl (P1 (p_eql rfl rfl) rfl rfl (M rfl rfl (TL.nil (hK4 _ _ ?_)))))))))
 refine TK.ret ?_
 try dsimp only[thenQ]
 exact R1 rfl hX
theorem bc_mend_member:BodyC cx 97 17 [.c 4 54] k97:=⟨Enters.of Try.func97 (by kernel_rfl) (by kernel_rfl),_,_,Try.func97,rfl,by kernel_rfl,rfl,rfl⟩
theorem ok_mend_member (l1:(List Tape_api)) (label2:Int) (r:Tape_api) (hX:X.mend_member l1 label2=some r):Fun Try.prog 97 [Enc.v (l1:(List Tape_api)),Enc.v (label2:Int)] (·=Enc.v (r:Tape_api)):=by
 refine Fun.ofC (C:=cx) bc_mend_member (Nat.le_of_ble_eq_true rfl) (allVal.mem ⟨(by exact (v_val _)),(by exact (v_val _)),trivial⟩) ?_
 unfold k97
 have nd:Nd []:=Nd_nil
 unfold X.mend_member at hX
 refine SR fun K3 hK3=>?_
 refine TLc.boxV (lu:=[Enc.v label2]) nd rfl (Cells_v (label2:Int)) rfl ?_
 refine TLc.alO (l:=[Enc.v ((0:Int):Int),Enc.v ((0:Int):Int),.nils,Enc.v false]) nd ty54 ti54_z rfl rfl fun b4 nd=>?_
 refine TL.nil (hK3 _ _ ?_)
 refine TK.cvR nd (j:=0) rfl (l':=[Enc.v ((0:Int):Int),Enc.v ((0:Int):Int),Enc.v (([]:(List (List UInt8))):(List (List UInt8))),Enc.v false]) ⟨Wk.refl _,Wk.refl _,Wk_nil,Wk.refl _,trivial⟩ fun nd=>?_
 refine SR fun K5 hK5=>M rfl rfl (P1 (p_mf (l:=[.vref (ofL [Enc.v label2]) 1 0]) rfl (fun _=>⟨rfl,trivial⟩)) rfl rfl ?_)
 obtain ⟨r6,hr6,hX⟩:=bind_some hX
 refine TL.cvX rfl rfl rfl (fun _=>⟨rfl,⟨rfl,⟨rfl,trivial⟩⟩⟩) (fun e=>ok_slices_IndexFunc_Lapi_Tape_api_Tape l1 (fun a1=>X.mend_member_c1 a1 label2) _ hr6 ⟨148,1,ofL [.vref (ofL [Enc.v label2]) 1 0],rfl,(caps_val rfl ⟨(vref_val (l:=[Enc.v label2]) rfl ⟨(v_val _),trivial⟩),trivial⟩),fun a1 r hr=>ok_mend_member_c1 a1 label2 r hr⟩) ?_
 refine M rfl rfl (TL.nil (hK5 _ _ ?_))
 refine TK.seq_k fun K7 hK7=>?_
 refine SR fun K8 hK8=>M rfl rfl (P1 (p_lss rfl rfl) rfl rfl (TL.nil (hK8 _ _ ?_)))
 refine TK.cond (b:=(decide (r6<(0:Int)))) rfl (fun hc=>?_) (fun hc=>?_)
 ·have hX:=ite_t hc hX
  refine SR fun K9 hK9=>P1 (p_ldR (v:=Enc.v label2) ty3 rfl rfl rfl rfl rfl rfl) rfl rfl ?_
  refine TLc.p (gc:=true) (p_bld (l:=[Enc.v label2,Enc.v ((0:Int):Int),.nils,Enc.v true]) ty54 rfl all54 rfl (fun _=>⟨⟨rfl,trivial,rfl⟩,⟨rfl,trivial,rfl⟩,trivial⟩)) rfl rfl (TL.wk (v':=Enc.v ((Tape_api.mk label2 (0:Int) ([]:(List (List UInt8))) true):Tape_api)) (Wk_agg ⟨Wk.refl _,Wk.refl _,Wk_nil,Wk.refl _,trivial⟩) ?_)
  refine TLc.stV (lu:=Enc.cl ((Tape_api.mk label2 (0:Int) ([]:(List (List UInt8))) true):Tape_api)) nd ty54 rfl (j:=0) rfl rfl rfl (Cells_v ((Tape_api.mk label2 (0:Int) ([]:(List (List UInt8))) true):Tape_api)) rfl rfl [Enc.v ((Tape_api.mk label2 (0:Int) ([]:(List (List UInt8))) true).Label:Int),Enc.v ((Tape_api.mk label2 (0:Int) ([]:(List (List UInt8))) true).Cap:Int),Enc.v ((Tape_api.mk label2 (0:Int) ([]:(List (List UInt8))) true).Blocks:(List (List UInt8))),Enc.v ((Tape_api.mk label2 (0:Int) ([]:(List (List UInt8))) true).Lost:Bool)] rfl fun nd=>?_
  refine TL.nil (hK9 _ _ ?_)
  refine TK.ret ?_
  try dsimp only[thenQ]
  exact retC [Enc.v ((Tape_api.mk label2 (0:Int) ([]:(List (List UInt8))) true):Tape_api)] ⟨p_ldVa (l':=Enc.cl ((Tape_api.mk label2 (0:Int) ([]:(List (List UInt8))) true):Tape_api)) ty54 rfl rfl nd (j:=0) rfl rfl rfl rfl (Nat.le_of_ble_eq_true rfl),trivial⟩ (by obtain rfl:=some_in hX;rfl) (v_val _)
 ·have hX:=ite_f hc hX
  refine TK.skip ?_
  refine hK7 _ _ (SR fun K10 hK10=>M rfl rfl (M rfl rfl ?_))
  obtain ⟨e11,he11,hX⟩:=bind_some hX
  refine P1 (p_iaL (xs:=l1) kd48 ty54 rfl rfl rfl (fun _=>he11)) rfl rfl (P1 (p_ldE (xs:=l1) (a:=e11) (e11:Tape_api) ty54 rfl rfl (fun _=>he11) rfl rfl rfl) rfl rfl ?_)
  refine TLc.stV (lu:=Enc.cl (e11:Tape_api)) nd ty54 rfl (j:=0) rfl rfl rfl (Cells_v (e11:Tape_api)) rfl rfl [Enc.v e11.Label,Enc.v e11.Cap,Enc.v e11.Blocks,Enc.v e11.Lost] rfl fun nd=>?_
  refine TL.nil (hK10 _ _ ?_)
  refine TK.ret ?_
  try dsimp only[thenQ]
  exact retC [Enc.v e11] ⟨p_ldVa (l':=Enc.cl (e11:Tape_api)) ty54 rfl rfl nd (j:=0) rfl rfl rfl rfl (Nat.le_of_ble_eq_true rfl),trivial⟩ (by obtain rfl:=some_in hX;rfl) (v_val _)
theorem ok_slices_Clone_Lbyte_byte (s1:(List UInt8)) (r:(List UInt8)) (hX:X.slices_Clone_Lbyte_byte s1=some r):Fun Try.prog 61 [Enc.v (s1:(List UInt8))] (·=Enc.v (r:(List UInt8))):=by
 refine Fun.of b61 (Nat.le_of_ble_eq_true rfl) (allVal.mem ⟨(by exact (v_val _)),trivial⟩) ?_
 unfold k61
 have nd:Nd []:=Nd_nil
 unfold X.slices_Clone_Lbyte_byte at hX
 refine SR fun K2 hK2=>M rfl rfl (TL.nil (hK2 _ _ ?_))
 refine TK.seq_k fun K3 hK3=>?_
 refine SR fun K4 hK4=>M rfl rfl ?_
 refine TLc.eqNilU (xs:=s1) kd25 rfl rfl rfl fun z5 hbz5=>?_
 replace hX:=nilU_t hX hbz5
 refine TL.nil (hK4 _ _ ?_)
 refine TK.cond (b:=z5) rfl (fun hc=>?_) (fun hc=>?_)
 ·have hX:=ite_t hc hX
  refine SR fun K6 hK6=>M rfl rfl (TL.nil (hK6 _ _ ?_))
  refine TK.wk 2 (L ([]:(List UInt8))) rfl Wk_nil ?_
  refine TK.ret ?_
  try dsimp only[thenQ]
  exact R1 rfl hX
 ·have hX:=ite_f hc hX
  refine TK.skip ?_
  refine hK3 _ _ (SR fun K7 hK7=>?_)
  refine TLc.litZ kd25 ty5 rfl ?_
  refine M rfl rfl ?_
  obtain ⟨u9,hu9,hX⟩:=bind_some hX
  refine TLc.appN nd kd25 bo25 ty5 rfl rfl (.inr rfl) rfl (Src_L _) Dc (need_t hu9) rfl fun b10 nd=>?_
  refine M rfl rfl (TL.nil (hK7 _ _ ?_))
  refine TK.lay [(2,L s1)] nd (j:=0) rfl ⟨⟨_,rfl,fix_OL nd (j:=0) rfl,rfl⟩,trivial⟩ fun nd=>?_
  refine TK.ret ?_
  try dsimp only[thenQ]
  exact R1 rfl hX
theorem ok_code_NewReader (b1:(List UInt8)) (nd:Nd []) (r:((List UInt8)×Bool)) (hX:X.code_NewReader b1=some r):TCX Try.prog 157 [Enc.v (b1:(List UInt8))] [] (fun rv h'=>∃b6,rv= .ref b6 0 2∧h'=[(b6,RV 215 [Enc.v (r.1:(List UInt8)),Enc.v (r.2:Bool)])]):=by
 refine TCX.of b157 (Nat.le_of_ble_eq_true rfl) ?_
 unfold k157
 unfold X.code_NewReader at hX
 refine SR fun K2 hK2=>M rfl rfl (TL.nil (hK2 _ _ (SR fun K3 hK3=>M rfl rfl ?_)))
 obtain ⟨r4,hr4,hX⟩:=bind_some hX
 refine TL.cvX rfl rfl rfl (fun _=>⟨rfl,⟨rfl,trivial⟩⟩) (fun e=>ok_slices_Clone_Lbyte_byte b1 _ hr4) ?_
 refine P1 (p_bld (l:=Enc.cl ((Reader_code.mk r4 false):Reader_code)) ty215 rfl all215 rfl (fun _=>⟨⟨rfl,trivial,rfl⟩,trivial⟩)) rfl rfl ?_
 refine TLc.boxO (lu:=[Enc.v ((Reader_code.mk r4 false).b_:(List UInt8)),Enc.v ((Reader_code.mk r4 false).bad_:Bool)]) nd rfl (Cells_v ((Reader_code.mk r4 false):Reader_code)) rfl fun b5 nd=>?_
 refine M rfl rfl (TL.nil (hK3 _ _ ?_))
 refine TK.ret ?_
 try dsimp only[thenQ]
 exact retX (v:= .ref b5 0 2) (res1 rfl) (by obtain rfl:=some_in hX;exact ⟨b5,rfl,rfl⟩) nd (inH_ref nd (j:=0) rfl) ⟨rowIn_RV ⟨inH_val (v_val _),inH_val (v_val _),trivial⟩,trivial⟩
theorem ok_code_Reader_take (n4:Int) (b1:(List UInt8)) (bad2:Bool) (b3:Nat) (nd:Nd [(b3,RV 215 [Enc.v (b1:(List UInt8)),Enc.v (bad2:Bool)])]) (r:((List UInt8)×((List UInt8)×Bool))) (hX:X.code_Reader_take n4 b1 bad2=some r):TCX Try.prog 187 [.ref b3 0 2,Enc.v (n4:Int)] [(b3,RV 215 [Enc.v (b1:(List UInt8)),Enc.v (bad2:Bool)])] (fun rv h'=>rv=Enc.v (r.1:(List UInt8))∧h'=[(b3,RV 215 [Enc.v (r.2.1:(List UInt8)),Enc.v (r.2.2:Bool)])]):=by
 refine TCX.of b187 (Nat.le_of_ble_eq_true rfl) ?_
 unfold k187
 unfold X.code_Reader_take at hX
 refine SR fun K5 hK5=>M rfl rfl (TL.nil (hK5 _ _ ?_))
 refine TK.seq_k fun K6 hK6=>?_
 refine SR fun K7 hK7=>M rfl rfl (P1 (p_eqP kd192 rfl rfl (fun _=>refOK_of nd (j:=0) rfl rfl)) rfl rfl (M rfl rfl ?_))
 refine TL.guardT rfl ?_
 refine M rfl rfl ?_
 refine TL.guardT rfl ?_
 refine P1 (p_ncR rfl (fun _=>refOK_of nd (j:=0) rfl rfl)) rfl rfl ?_
 refine TL.guardT rfl ?_
 refine P1 (p_faV fs215_1 Dc rfl nd (j:=0) rfl rfl) rfl rfl ?_
 refine TL.guardT rfl ?_
 refine P1 (p_ldV (v:=Enc.v bad2) ty4 rfl rfl nd (j:=0) rfl rfl rfl rfl rfl) rfl rfl (P1 (p_or rfl rfl (fun e=>⟨rfl,fun h=>rfl⟩)) rfl rfl (TL.nil (hK7 _ _ ?_)))
 refine TK.cond (b:=bad2) rfl (fun hc=>?_) (fun hc=>?_)
 ·have hX:=ite_t hc hX
  refine SR fun K8 hK8=>M rfl rfl (TL.nil (hK8 _ _ ?_))
  refine TK.wk 4 (L ([]:(List UInt8))) rfl Wk_nil ?_
  refine TK.ret ?_
  try dsimp only[thenQ]
  exact retX (v:=Enc.v (([]:(List UInt8)):(List UInt8))) (res1 rfl) (by obtain rfl:=some_in hX;exact ⟨rfl,rfl⟩) nd (inH_val (v_val _)) ⟨rowIn_RV ⟨inH_val (v_val _),inH_val (v_val _),trivial⟩,trivial⟩
 ·have hX:=ite_f hc hX
  refine TK.skip ?_
  refine hK6 _ _ ?_
  refine TK.seq_k fun K9 hK9=>?_
  refine SR fun K10 hK10=>M rfl rfl (M rfl rfl (P1 (p_ncR rfl (fun _=>refOK_of nd (j:=0) rfl rfl)) rfl rfl (P1 (p_faV fs215_0 Dc rfl nd (j:=0) rfl rfl) rfl rfl (P1 (p_ldV (v:=Enc.v b1) ty25 rfl rfl nd (j:=0) rfl rfl rfl rfl rfl) rfl rfl (P1 (p_lenL (xs:=b1) kd25 rfl) rfl rfl (P1 (p_gtr rfl rfl) rfl rfl (TL.nil (hK10 _ _ ?_))))))))
  refine TK.cond (b:=(decide (n4>(b1.length:Int)))) rfl (fun hc=>?_) (fun hc=>?_)
  ·have hX:=ite_t hc hX
   refine SR fun K11 hK11=>M rfl rfl (M rfl rfl (P1 (p_ncR rfl (fun _=>refOK_of nd (j:=0) rfl rfl)) rfl rfl (P1 (p_faV fs215_0 Dc rfl nd (j:=0) rfl rfl) rfl rfl ?_)))
   refine TLc.stV (lu:=[.nils]) nd ty25 rfl (j:=0) rfl rfl rfl (Cells_one trivial) rfl rfl [.nils,Enc.v bad2] rfl fun nd=>?_
   refine P1 (p_ncR rfl (fun _=>refOK_of nd (j:=0) rfl rfl)) rfl rfl (P1 (p_faV fs215_1 Dc rfl nd (j:=0) rfl rfl) rfl rfl ?_)
   refine TLc.stV (lu:=Enc.cl (true:Bool)) nd ty4 rfl (j:=0) rfl rfl rfl (Cells_v (true:Bool)) rfl rfl [.nils,Enc.v true] rfl fun nd=>?_
   refine TL.nil (hK11 _ _ ?_)
   refine TK.cvR nd (j:=0) rfl (l':=[Enc.v (([]:(List UInt8)):(List UInt8)),Enc.v true]) ⟨Wk_nil,Wk.refl _,trivial⟩ fun nd=>?_
   refine SR fun K12 hK12=>M rfl rfl (TL.nil (hK12 _ _ ?_))
   refine TK.wk 4 (L ([]:(List UInt8))) rfl Wk_nil ?_
   refine TK.ret ?_
   try dsimp only[thenQ]
   exact retX (v:=Enc.v (([]:(List UInt8)):(List UInt8))) (res1 rfl) (by obtain rfl:=some_in hX;exact ⟨rfl,rfl⟩) nd (inH_val (v_val _)) ⟨rowIn_RV ⟨inH_val (v_val _),inH_val (v_val _),trivial⟩,trivial⟩
  ·have hX:=ite_f hc hX
   refine TK.skip ?_
   refine hK9 _ _ (SR fun K13 hK13=>M rfl rfl (P1 (p_ncR rfl (fun _=>refOK_of nd (j:=0) rfl rfl)) rfl rfl (P1 (p_faV fs215_0 Dc rfl nd (j:=0) rfl rfl) rfl rfl (P1 (p_ldV (v:=Enc.v b1) ty25 rfl rfl nd (j:=0) rfl rfl rfl rfl rfl) rfl rfl (M rfl rfl ?_)))))
   obtain ⟨u14,hu14,hX⟩:=bind_some hX
   refine P1 (p_sliL (xs:=b1) (l:=(0:Int)) (k:=n4) kd25 ty5 rfl rfl rfl rfl (fun e=>need_t hu14)) rfl rfl (M rfl rfl (TL.nil (hK13 _ _ (SR fun K15 hK15=>M rfl rfl (M rfl rfl (P1 (p_ncR rfl (fun _=>refOK_of nd (j:=0) rfl rfl)) rfl rfl (P1 (p_faV fs215_0 Dc rfl nd (j:=0) rfl rfl) rfl rfl (P1 (p_ldV (v:=Enc.v b1) ty25 rfl rfl nd (j:=0) rfl rfl rfl rfl rfl) rfl rfl (M rfl rfl ?_)))))))))
   obtain ⟨u16,hu16,hX⟩:=bind_some hX
   refine P1 (p_sliL (xs:=b1) (l:=n4) (k:=(b1.length:Int)) kd25 ty5 rfl rfl rfl rfl (fun e=>need_t hu16)) rfl rfl (P1 (p_ncR rfl (fun _=>refOK_of nd (j:=0) rfl rfl)) rfl rfl (P1 (p_faV fs215_0 Dc rfl nd (j:=0) rfl rfl) rfl rfl ?_))
   refine TLc.stV (lu:=Enc.cl ((slc b1 n4 (b1.length:Int)):(List UInt8))) nd ty25 rfl (j:=0) rfl rfl rfl (Cells_v ((slc b1 n4 (b1.length:Int)):(List UInt8))) rfl rfl [Enc.v ((slc b1 n4 (b1.length:Int)):(List UInt8)),Enc.v bad2] rfl fun nd=>?_
   refine TL.nil (hK15 _ _ (SR fun K17 hK17=>M rfl rfl (M rfl rfl (TL.nil (hK17 _ _ ?_)))))
   refine TK.ret ?_
   try dsimp only[thenQ]
   exact retX (v:=Enc.v ((slc b1 (0:Int) n4):(List UInt8))) (res1 rfl) (by obtain rfl:=some_in hX;exact ⟨rfl,rfl⟩) nd (inH_val (v_val _)) ⟨rowIn_RV ⟨inH_val (v_val _),inH_val (v_val _),trivial⟩,trivial⟩
theorem ok_code_Reader_Byte (b1:(List UInt8)) (bad2:Bool) (b3:Nat) (nd:Nd [(b3,RV 215 [Enc.v (b1:(List UInt8)),Enc.v (bad2:Bool)])]) (r:(UInt8×((List UInt8)×Bool))) (hX:X.code_Reader_Byte b1 bad2=some r):TCX Try.prog 159 [.ref b3 0 2] [(b3,RV 215 [Enc.v (b1:(List UInt8)),Enc.v (bad2:Bool)])] (fun rv h'=>rv=Enc.v (r.1:UInt8)∧h'=[(b3,RV 215 [Enc.v (r.2.1:(List UInt8)),Enc.v (r.2.2:Bool)])]):=by
 refine TCX.of b159 (Nat.le_of_ble_eq_true rfl) ?_
 unfold k159
 unfold X.code_Reader_Byte at hX
 refine SR fun K4 hK4=>M rfl rfl (TL.nil (hK4 _ _ (SR fun K5 hK5=>M rfl rfl ?_)))
 obtain ⟨r6,hr6,hX⟩:=bind_some hX
 refine TL.tcX [(b3,RV 215 [Enc.v b1,Enc.v bad2])] [] rfl nd (dlt rfl) rfl ⟨rfl,⟨rfl,⟨rfl,trivial⟩⟩⟩ (ok_code_Reader_take (1:Int) b1 bad2 b3 (Nd.take nd 1 rfl) _ hr6) ?_
 rintro _ _ hQ nd
 obtain ⟨rfl,rfl⟩:=hQ
 refine M rfl rfl (TL.nil (hK5 _ _ ?_))
 refine TK.seq_k fun K8 hK8=>?_
 refine SR fun K9 hK9=>M rfl rfl (P1 (p_lenL (xs:=r6.1) kd25 rfl) rfl rfl (P1 (p_eql rfl rfl) rfl rfl (TL.nil (hK9 _ _ ?_))))
 refine TK.cond (b:=((r6.1.length:Int)==(0:Int))) rfl (fun hc=>?_) (fun hc=>?_)
 ·have hX:=ite_t hc hX
  refine SR fun K10 hK10=>M rfl rfl (TL.nil (hK10 _ _ ?_))
  refine TK.ret ?_
  try dsimp only[thenQ]
  exact retX (v:=Enc.v ((0:UInt8):UInt8)) (res1 rfl) (by obtain rfl:=some_in hX;exact ⟨rfl,rfl⟩) nd (inH_val (v_val _)) ⟨rowIn_RV ⟨inH_val (v_val _),inH_val (v_val _),trivial⟩,trivial⟩
 ·have hX:=ite_f hc hX
  refine TK.skip ?_
  refine hK8 _ _ (SR fun K11 hK11=>M rfl rfl ?_)
  obtain ⟨e12,he12,hX⟩:=bind_some hX
  refine P1 (p_iaL (xs:=r6.1) kd25 ty5 rfl rfl rfl (fun _=>he12)) rfl rfl (P1 (p_ldE (xs:=r6.1) (a:=e12) (e12:UInt8) ty5 rfl rfl (fun _=>he12) rfl rfl rfl) rfl rfl (M rfl rfl (TL.nil (hK11 _ _ ?_))))
  refine TK.ret ?_
  try dsimp only[thenQ]
  exact retX (v:=Enc.v e12) (res1 rfl) (by obtain rfl:=some_in hX;exact ⟨rfl,rfl⟩) nd (inH_val (v_val _)) ⟨rowIn_RV ⟨inH_val (v_val _),inH_val (v_val _),trivial⟩,trivial⟩
theorem ok_code_Reader_Int (b1:(List UInt8)) (bad2:Bool) (b3:Nat) (nd:Nd [(b3,RV 215 [Enc.v (b1:(List UInt8)),Enc.v (bad2:Bool)])]) (r:(Int×((List UInt8)×Bool))) (hX:X.code_Reader_Int b1 bad2=some r):TCX Try.prog 158 [.ref b3 0 2] [(b3,RV 215 [Enc.v (b1:(List UInt8)),Enc.v (bad2:Bool)])] (fun rv h'=>rv=Enc.v (r.1:Int)∧h'=[(b3,RV 215 [Enc.v (r.2.1:(List UInt8)),Enc.v (r.2.2:Bool)])]):=by
 refine TCX.of b158 (Nat.le_of_ble_eq_true rfl) ?_
 unfold k158
 unfold X.code_Reader_Int at hX
 refine SR fun K4 hK4=>M rfl rfl (TL.nil (hK4 _ _ (SR fun K5 hK5=>M rfl rfl (TL.nil (hK5 _ _ ?_)))))
 refine TK.seq_k fun K6 hK6=>?_
 refine SR fun K7 hK7=>M rfl rfl ?_
 obtain ⟨r8,hr8,hX⟩:=bind_some hX
 refine TL.tcX [(b3,RV 215 [Enc.v b1,Enc.v bad2])] [] rfl nd (dlt rfl) rfl ⟨rfl,⟨rfl,⟨rfl,trivial⟩⟩⟩ (ok_code_Reader_take (4:Int) b1 bad2 b3 (Nd.take nd 1 rfl) _ hr8) ?_
 rintro _ _ hQ nd
 obtain ⟨rfl,rfl⟩:=hQ
 refine P1 (p_lenL (xs:=r8.1) kd25 rfl) rfl rfl (M rfl rfl (TL.nil (hK7 _ _ ?_)))
 refine TK.block ?_
 obtain ⟨o10,hO10,hA10⟩:=bind_some hX
 have E10:∀(n15:UInt32) (env:Env) (h:Hp),(∃_u:Unit,keepE [0,3] env=[(0,true,.ref b3 0 2),(3,true,Enc.v n15)]∧Nd [(b3,RV 215 [Enc.v r8.2.1,Enc.v r8.2.2])]∧HSub [(b3,RV 215 [Enc.v r8.2.1,Enc.v r8.2.2])] h)→X.code_Reader_Int_e10 r8 n15=some r→K6 env h:=by
  intro n15 env h hE hX
  obtain ⟨_u,henv,nd,hs⟩:=hE
  unfold X.code_Reader_Int_e10 at hX
  refine hK6 _ _ (TK.keep [0,3] ?_)
  rw[henv]
  refine TK.subH hs ?_
  refine SR fun K16 hK16=>M rfl rfl (P1 (p_cvt src106 kd3 rfl (cv_32 n15)) rfl rfl (M rfl rfl (TL.nil (hK16 _ _ ?_))))
  refine TK.ret ?_
  try dsimp only[thenQ]
  exact retX (v:=Enc.v ((n15.toNat:Int):Int)) (res1 rfl) (by obtain rfl:=some_in hX;exact ⟨rfl,rfl⟩) nd (inH_val (v_val _)) ⟨rowIn_RV ⟨inH_val (v_val _),inH_val (v_val _),trivial⟩,trivial⟩
 refine TK.iter [0,3,7,8,9] (fun s env h=>match s with|(n12,x13)=>∃_u:Unit,env=[(0,true,.ref b3 0 2),(3,true,Enc.v n12),(7,true,Enc.v r8.1),(8,true,Enc.v ((r8.1.length:Int):Int)),(9,true,Enc.v x13)]∧Nd [(b3,RV 215 [Enc.v r8.2.1,Enc.v r8.2.2])]∧HSub [(b3,RV 215 [Enc.v r8.2.1,Enc.v r8.2.2])] h) hO10 ⟨(),rfl,(Nd.pick nd (is:=[0]) Dc),(HSub.pick nd (is:=[0]) Dc)⟩ ?_
 rintro ⟨n12,x13⟩ env h x10x ⟨_u,rfl,nd,hs⟩ hX hR10
 refine TK.subH hs ?_
 unfold X.code_Reader_Int_s10 at hX
 try dsimp only at hX
 refine SR fun K17 hK17=>P1 (p_lss rfl rfl) rfl rfl (TL.nil (hK17 _ _ ?_))
 refine TK.seq_k fun K18 hK18=>?_
 refine TK.cond (b:=(decide (x13<(r8.1.length:Int)))) rfl (fun hc=>?_) (fun hc=>?_)
 ·have hX:=ite_t hc hX
  refine TK.skip ?_
  refine hK18 _ _ ?_
  refine TK.seq_k fun K19 hK19=>?_
  refine TK.block ?_
  refine SR fun K20 hK20=>?_
  obtain ⟨e21,he21,hX⟩:=bind_some hX
  refine P1 (p_iaL (xs:=r8.1) kd25 ty5 rfl rfl rfl (fun _=>he21)) rfl rfl (P1 (p_ldE (xs:=r8.1) (a:=e21) (e21:UInt8) ty5 rfl rfl (fun _=>he21) rfl rfl rfl) rfl rfl (M rfl rfl (TL.nil (hK20 _ _ ?_))))
  refine TK.reg ?_
  refine M rfl rfl (P1 (p32_shl (a:=n12) (b:=8) rfl rfl) rfl rfl (M rfl rfl (P1 (p_cvt src5 kd106 rfl (cv_u32 _)) rfl rfl (P1 (p32_or (a:=(shl32 n12 8)) (b:=(u32 (e21.toNat:Int))) rfl rfl) rfl rfl (M rfl rfl (TL.nil (hK19 _ _ ?_)))))))
  refine TK.reg ?_
  refine P1 (p_add rfl rfl) rfl rfl (M rfl rfl (TL.nil ?_))
  exact ⟨_,(some_in hX).symm,(),rfl,(Nd.pick nd (is:=[0]) Dc),(HSub.pick nd (is:=[0]) Dc)⟩
 ·have hX:=ite_f hc hX
  refine TK.exit ?_
  obtain rfl:=hR10 _ (some_in hX).symm
  exact E10 n12 _ _ ⟨(),rfl,(Nd.pick nd (is:=[0]) Dc),(HSub.pick nd (is:=[0]) Dc)⟩ hA10
theorem ok_code_Reader_Raw (n4:Int) (b1:(List UInt8)) (bad2:Bool) (b3:Nat) (nd:Nd [(b3,RV 215 [Enc.v (b1:(List UInt8)),Enc.v (bad2:Bool)])]) (r:((List UInt8)×((List UInt8)×Bool))) (hX:X.code_Reader_Raw n4 b1 bad2=some r):TCX Try.prog 185 [.ref b3 0 2,Enc.v (n4:Int)] [(b3,RV 215 [Enc.v (b1:(List UInt8)),Enc.v (bad2:Bool)])] (fun rv h'=>rv=Enc.v (r.1:(List UInt8))∧h'=[(b3,RV 215 [Enc.v (r.2.1:(List UInt8)),Enc.v (r.2.2:Bool)])]):=by
 refine TCX.of b185 (Nat.le_of_ble_eq_true rfl) ?_
 unfold k185
 unfold X.code_Reader_Raw at hX
 refine SR fun K5 hK5=>M rfl rfl (TL.nil (hK5 _ _ (SR fun K6 hK6=>M rfl rfl (M rfl rfl (P1 (p_max rfl rfl) rfl rfl ?_)))))
 obtain ⟨r7,hr7,hX⟩:=bind_some hX
 refine TL.tcX [(b3,RV 215 [Enc.v b1,Enc.v bad2])] [] rfl nd (dlt rfl) rfl ⟨rfl,⟨rfl,⟨rfl,trivial⟩⟩⟩ (ok_code_Reader_take (max (0:Int) n4) b1 bad2 b3 (Nd.take nd 1 rfl) _ hr7) ?_
 rintro _ _ hQ nd
 obtain ⟨rfl,rfl⟩:=hQ
 obtain ⟨r9,hr9,hX⟩:=bind_some hX
 refine TL.cvX rfl rfl rfl (fun _=>⟨rfl,⟨rfl,trivial⟩⟩) (fun e=>ok_slices_Clone_Lbyte_byte r7.1 _ hr9) ?_
 refine M rfl rfl (TL.nil (hK6 _ _ ?_))
 refine TK.ret ?_
 try dsimp only[thenQ]
 exact retX (v:=Enc.v r9) (res1 rfl) (by obtain rfl:=some_in hX;exact ⟨rfl,rfl⟩) nd (inH_val (v_val _)) ⟨rowIn_RV ⟨inH_val (v_val _),inH_val (v_val _),trivial⟩,trivial⟩
theorem ok_code_Reader_Bad (b1:(List UInt8)) (bad2:Bool) (r:Bool) (hX:X.code_Reader_Bad b1 bad2=some r):Fun Try.prog 161 [.vref (ofL [Enc.v (b1:(List UInt8)),Enc.v (bad2:Bool)]) 2 0] (·=Enc.v (r:Bool)):=by
 refine Fun.of b161 (Nat.le_of_ble_eq_true rfl) (allVal.mem ⟨(by exact (vref_val (l:=[Enc.v (b1:(List UInt8)),Enc.v (bad2:Bool)]) rfl ⟨(v_val _),(v_val _),trivial⟩)),trivial⟩) ?_
 unfold k161
 have nd:Nd []:=Nd_nil
 unfold X.code_Reader_Bad at hX
 refine SR fun K3 hK3=>M rfl rfl (TL.nil (hK3 _ _ (SR fun K4 hK4=>M rfl rfl (P1 (p_neV kd192 rfl rfl) rfl rfl (M rfl rfl ?_)))))
 refine TL.guardT rfl ?_
 refine M rfl rfl ?_
 refine TL.guardT rfl ?_
 refine P1 (p_ncV rfl) rfl rfl ?_
 refine TL.guardT rfl ?_
 refine P1 (p_faR fs215_1 Dc rfl) rfl rfl ?_
 refine TL.guardT rfl ?_
 refine P1 (p_ldR (v:=Enc.v bad2) ty4 rfl rfl rfl rfl rfl rfl) rfl rfl (P1 (p_and rfl rfl (fun e=>⟨rfl,fun h=>rfl⟩)) rfl rfl (M rfl rfl (TL.nil (hK4 _ _ ?_))))
 refine TK.ret ?_
 try dsimp only[thenQ]
 exact R1 rfl hX
theorem ok_frame_room (kind1:Int) (r:Int) (hX:X.frame_room kind1=some r):Fun Try.prog 183 [Enc.v (kind1:Int)] (·=Enc.v (r:Int)):=by
 refine Fun.of b183 (Nat.le_of_ble_eq_true rfl) (allVal.mem ⟨(by exact (v_val _)),trivial⟩) ?_
 unfold k183
 have nd:Nd []:=Nd_nil
 unfold X.frame_room at hX
 refine SR fun K2 hK2=>M rfl rfl (TL.nil (hK2 _ _ ?_))
 refine TK.seq_k fun K3 hK3=>?_
 refine SR fun K4 hK4=>M rfl rfl (P1 (p_eql rfl rfl) rfl rfl (TL.nil (hK4 _ _ ?_)))
 refine TK.cond (b:=(kind1==(6:Int))) rfl (fun hc=>?_) (fun hc=>?_)
 ·have hX:=ite_t hc hX
  refine SR fun K5 hK5=>M rfl rfl (TL.nil (hK5 _ _ ?_))
  refine TK.ret ?_
  try dsimp only[thenQ]
  exact R1 rfl hX
 ·have hX:=ite_f hc hX
  refine TK.skip ?_
  refine hK3 _ _ (SR fun K6 hK6=>M rfl rfl (TL.nil (hK6 _ _ ?_)))
  refine TK.ret ?_
  try dsimp only[thenQ]
  exact R1 rfl hX
theorem ok_frame_check (u1:Unit_api) (r:Int) (hX:X.frame_check u1=some r):Fun Try.prog 154 [Enc.v (u1:Unit_api)] (·=Enc.v (r:Int)):=by
 refine Fun.of b154 (Nat.le_of_ble_eq_true rfl) (allVal.mem ⟨(by exact (v_val _)),trivial⟩) ?_
 unfold k154
 have nd:Nd []:=Nd_nil
 unfold X.frame_check at hX
 refine SR fun K2 hK2=>?_
 refine TLc.boxV (lu:=[Enc.v u1.Kind,Enc.v u1.Label,Enc.v u1.Number,Enc.v u1.Load]) nd rfl (Cells_v (u1:Unit_api)) rfl ?_
 refine M rfl rfl (TL.nil (hK2 _ _ ?_))
 refine TK.seq_k fun K3 hK3=>?_
 refine SR fun K4 hK4=>P1 (p_faR fs68_1 Dc rfl) rfl rfl (P1 (p_ldR (v:=Enc.v u1.Label) ty3 rfl rfl rfl rfl rfl rfl) rfl rfl (P1 (p_lss rfl rfl) rfl rfl (M rfl rfl ?_)))
 refine TLc.p (gc:=(!((decide (u1.Label<(1:Int)))))) (p_faR fs68_1 Dc rfl (hg:=fun e=>rfl)) (gcF1 rfl) rfl ?_
 refine TLc.p (gc:=(!((decide (u1.Label<(1:Int)))))) (p_ldR (v:=Enc.v u1.Label) ty3 rfl rfl rfl rfl rfl rfl (hg:=fun e=>e)) (gcF1 rfl) rfl ?_
 refine TLc.p (gc:=(!((decide (u1.Label<(1:Int)))))) (p_gtr rfl rfl (hg:=fun e=>⟨e,rfl⟩)) (gcF1 rfl) rfl ?_
 refine P1 (p_or rfl rfl (fun e=>⟨rfl,fun h=>(not_t h)⟩)) rfl rfl (M rfl rfl ?_)
 refine TLc.p (gc:=(!(((decide (u1.Label<(1:Int)))||(decide (u1.Label>(2147483647:Int))))))) (p_faR fs68_2 Dc rfl (hg:=fun e=>rfl)) (gcF1 rfl) rfl ?_
 refine TLc.p (gc:=(!(((decide (u1.Label<(1:Int)))||(decide (u1.Label>(2147483647:Int))))))) (p_ldR (v:=Enc.v u1.Number) ty3 rfl rfl rfl rfl rfl rfl (hg:=fun e=>e)) (gcF1 rfl) rfl ?_
 refine TLc.p (gc:=(!(((decide (u1.Label<(1:Int)))||(decide (u1.Label>(2147483647:Int))))))) (p_lss rfl rfl (hg:=fun e=>⟨e,rfl⟩)) (gcF1 rfl) rfl ?_
 refine P1 (p_or rfl rfl (fun e=>⟨rfl,fun h=>(not_t h)⟩)) rfl rfl (M rfl rfl ?_)
 refine TLc.p (gc:=(!((((decide (u1.Label<(1:Int)))||(decide (u1.Label>(2147483647:Int))))||(decide (u1.Number<(0:Int))))))) (p_faR fs68_2 Dc rfl (hg:=fun e=>rfl)) (gcF1 rfl) rfl ?_
 refine TLc.p (gc:=(!((((decide (u1.Label<(1:Int)))||(decide (u1.Label>(2147483647:Int))))||(decide (u1.Number<(0:Int))))))) (p_ldR (v:=Enc.v u1.Number) ty3 rfl rfl rfl rfl rfl rfl (hg:=fun e=>e)) (gcF1 rfl) rfl ?_
 refine TLc.p (gc:=(!((((decide (u1.Label<(1:Int)))||(decide (u1.Label>(2147483647:Int))))||(decide (u1.Number<(0:Int))))))) (p_gtr rfl rfl (hg:=fun e=>⟨e,rfl⟩)) (gcF1 rfl) rfl ?_
 refine P1 (p_or rfl rfl (fun e=>⟨rfl,fun h=>(not_t h)⟩)) rfl rfl (TL.nil (hK4 _ _ ?_))
 refine TK.cond (b:=((((decide (u1.Label<(1:Int)))||(decide (u1.Label>(2147483647:Int))))||(decide (u1.Number<(0:Int))))||(decide (u1.Number>(2147483647:Int))))) rfl (fun hc=>?_) (fun hc=>?_)
 ·have hX:=ite_t hc hX
  refine SR fun K5 hK5=>M rfl rfl (TL.nil (hK5 _ _ ?_))
  refine TK.ret ?_
  try dsimp only[thenQ]
  exact R1 rfl hX
 ·have hX:=ite_f hc hX
  refine TK.skip ?_
  refine hK3 _ _ ?_
  refine TK.seq_k fun K6 hK6=>?_
  refine SR fun K7 hK7=>P1 (p_faR fs68_0 Dc rfl) rfl rfl (P1 (p_ldR (v:=Enc.v u1.Kind) ty3 rfl rfl rfl rfl rfl rfl) rfl rfl (TL.nil (hK7 _ _ ?_)))
  refine TK.block ?_
  refine TK.seq_k fun K8 hK8=>?_
  have J8:∀(env:Env) (h:Hp),(∃_u:Unit,keepE [1] env=[(1,true,.vref (ofL [Enc.v u1.Kind,Enc.v u1.Label,Enc.v u1.Number,Enc.v u1.Load]) 4 0)]∧Nd []∧HSub [] h)→X.frame_check_j8 u1=some r→K8 env h:=by
   intro env h hE hX
   obtain ⟨_u,henv,nd,hs⟩:=hE
   unfold X.frame_check_j8 at hX
   refine hK8 _ _ (TK.keep [1] ?_)
   rw[henv]
   refine TK.subH hs ?_
   refine TK.seq_k fun K9 hK9=>?_
   refine TK.seq_k fun K10 hK10=>?_
   refine TK.seq_k fun K11 hK11=>?_
   have ndS:Nd []:=Nd.pick nd (is:=[]) Dc
   refine TK.drwX (h:=[]) (hS:=[]) [(0,0),(0,1),(0,2),(0,3),(0,4),(0,5),(0,6)] mixed (by kernel_rfl) (HSub_app nd) ?_
   refine D0 rfl (p_faR fs68_3 Dc rfl) rfl rfl ?_
   refine D0 rfl (p_ldR (v:=Enc.v u1.Load) ty25 rfl rfl rfl rfl rfl rfl) rfl rfl ?_
   refine D0 rfl (p_lenL (xs:=u1.Load) kd25 rfl) rfl rfl ?_
   refine D0 rfl (p_faR fs68_0 Dc rfl) rfl rfl ?_
   refine D0 rfl (p_ldR (v:=Enc.v u1.Kind) ty3 rfl rfl rfl rfl rfl rfl) rfl rfl ?_
   obtain ⟨r12,hr12,hX⟩:=bind_some hX
   refine DR0 (gc:=true) rfl (vok_c rfl (fun _=>⟨rfl,⟨rfl,trivial⟩⟩) (fun e=>ok_frame_room u1.Kind _ hr12)) rfl rfl ?_
   refine D0 rfl (p_gtr rfl rfl) rfl rfl ?_
   refine DRend ?_
   refine hK11 _ _ ?_
   refine TK.cond (b:=(decide ((u1.Load.length:Int)>r12))) rfl (fun hc=>?_) (fun hc=>?_)
   ·have hX:=ite_t hc hX
    refine SR fun K13 hK13=>M rfl rfl (TL.nil (hK13 _ _ ?_))
    refine TK.ret ?_
    try dsimp only[thenQ]
    exact R1 rfl hX
   ·have hX:=ite_f hc hX
    refine TK.skip ?_
    refine hK10 _ _ (SR fun K14 hK14=>M rfl rfl (TL.nil (hK14 _ _ ?_)))
    refine TK.ret ?_
    try dsimp only[thenQ]
    exact R1 rfl hX
  refine TK.block ?_
  refine TK.block ?_
  refine TK.block ?_
  refine TK.block ?_
  refine TK.block ?_
  refine TK.block ?_
  refine TK.seq_k fun K15 hK15=>?_
  refine TK.seq_k fun K16 hK16=>?_
  refine SR fun K17 hK17=>P1 (p_eql rfl rfl) rfl rfl (M rfl rfl (TL.nil (hK17 _ _ ?_)))
  refine TK.cond (b:=(u1.Kind==(1:Int))) rfl (fun hc=>?_) (fun hc=>?_)
  ·have hX:=ite_t hc hX
   refine TK.exit ?_
   exact J8 _ _ ⟨(),rfl,Nd_nil,HSub.refl _⟩ hX
  ·have hX:=ite_f hc hX
   refine TK.skip ?_
   refine hK16 _ _ ?_
   refine TK.seq_k fun K18 hK18=>?_
   refine SR fun K19 hK19=>P1 (p_eql rfl rfl) rfl rfl (M rfl rfl (TL.nil (hK19 _ _ ?_)))
   refine TK.cond (b:=(u1.Kind==(2:Int))) rfl (fun hc=>?_) (fun hc=>?_)
   ·have hX:=ite_t hc hX
    refine TK.exit ?_
    exact J8 _ _ ⟨(),rfl,Nd_nil,HSub.refl _⟩ hX
   ·have hX:=ite_f hc hX
    refine TK.skip ?_
    refine hK18 _ _ ?_
    refine TK.seq_k fun K20 hK20=>?_
    refine SR fun K21 hK21=>P1 (p_eql rfl rfl) rfl rfl (M rfl rfl (TL.nil (hK21 _ _ ?_)))
    refine TK.cond (b:=(u1.Kind==(3:Int))) rfl (fun hc=>?_) (fun hc=>?_)
    ·have hX:=ite_t hc hX
     refine TK.exit ?_
     exact J8 _ _ ⟨(),rfl,Nd_nil,HSub.refl _⟩ hX
    ·have hX:=ite_f hc hX
     refine TK.skip ?_
     refine hK20 _ _ ?_
     refine TK.seq_k fun K22 hK22=>?_
     refine SR fun K23 hK23=>P1 (p_eql rfl rfl) rfl rfl (M rfl rfl (TL.nil (hK23 _ _ ?_)))
     refine TK.cond (b:=(u1.Kind==(4:Int))) rfl (fun hc=>?_) (fun hc=>?_)
     ·have hX:=ite_t hc hX
      refine TK.exit ?_
      exact J8 _ _ ⟨(),rfl,Nd_nil,HSub.refl _⟩ hX
     ·have hX:=ite_f hc hX
      refine TK.skip ?_
      refine hK22 _ _ ?_
      refine TK.seq_k fun K24 hK24=>?_
      refine SR fun K25 hK25=>P1 (p_eql rfl rfl) rfl rfl (M rfl rfl (TL.nil (hK25 _ _ ?_)))
      refine TK.cond (b:=(u1.Kind==(5:Int))) rfl (fun hc=>?_) (fun hc=>?_)
      ·have hX:=ite_t hc hX
       refine TK.exit ?_
       exact J8 _ _ ⟨(),rfl,Nd_nil,HSub.refl _⟩ hX
      ·have hX:=ite_f hc hX
       refine TK.skip ?_
       refine hK24 _ _ (SR fun K26 hK26=>P1 (p_eql rfl rfl) rfl rfl (M rfl rfl (TL.nil (hK26 _ _ ?_))))
       refine TK.cond (b:=(u1.Kind==(6:Int))) rfl (fun hc=>?_) (fun hc=>?_)
       ·have hX:=ite_t hc hX
        refine TK.exit ?_
        exact J8 _ _ ⟨(),rfl,Nd_nil,HSub.refl _⟩ hX
       ·have hX:=ite_f hc hX
        refine TK.skip ?_
        refine hK15 _ _ ?_
        refine TK.exit ?_
        refine hK6 _ _ (SR fun K27 hK27=>M rfl rfl (TL.nil (hK27 _ _ ?_)))
        refine TK.ret ?_
        try dsimp only[thenQ]
        exact R1 rfl hX
theorem ok_code_Writer_Byte (c4:UInt8) (b1:(List UInt8)) (b2:Nat) (b3:Nat) (nd:Nd [(b2,RV 186 [OL (α:=UInt8) b3 b1]),(b3,RL (α:=UInt8) 5 b1)]) (r:(List UInt8)) (hX:X.code_Writer_Byte c4 b1=some r):TCX Try.prog 152 [.ref b2 0 1,Enc.v (c4:UInt8)] [(b2,RV 186 [OL (α:=UInt8) b3 b1]),(b3,RL (α:=UInt8) 5 b1)] (fun rv h'=>∃b7,rv= .tup 0 (ofL [])∧h'=[(b2,RV 186 [OL (α:=UInt8) b7 r]),(b7,RL (α:=UInt8) 5 r)]):=by
 refine TCX.of b152 (Nat.le_of_ble_eq_true rfl) ?_
 unfold k152
 unfold X.code_Writer_Byte at hX
 refine TK.endK fun KE hKE=>?_
 refine TK.reg ?_
 refine M rfl rfl (M rfl rfl (P1 (p_ncR rfl (fun _=>refOK_of nd (j:=0) rfl rfl)) rfl rfl (P1 (p_faV fs186_0 Dc rfl nd (j:=0) rfl rfl) rfl rfl (P1 (p_ldV (v:=OL b3 b1) ty25 rfl rfl nd (j:=0) rfl rfl rfl rfl rfl) rfl rfl (M rfl rfl ?_)))))
 refine TLc.lit ([c4]:List UInt8) kd25 ty5 rfl ⟨⟨rfl,rfl⟩,trivial⟩ rfl rfl rfl ?_
 obtain ⟨u5,hu5,hX⟩:=bind_some hX
 refine TLc.appO nd kd25 bo25 ty5 rfl rfl (j:=1) rfl rfl (Src_L _) Dc (need_t hu5) rfl fun nd=>?_
 refine P1 (p_ncR rfl (fun _=>refOK_of nd (j:=0) rfl rfl)) rfl rfl (P1 (p_faV fs186_0 Dc rfl nd (j:=0) rfl rfl) rfl rfl ?_)
 refine TLc.stV (lu:=[OL (α:=UInt8) b3 (b1++([c4]:List UInt8))]) nd ty25 rfl (j:=0) rfl rfl rfl (Cells_rs (refOK_of nd (j:=1) rfl rfl)) rfl rfl [OL (α:=UInt8) b3 (b1++([c4]:List UInt8))] rfl fun nd=>?_
 refine TL.nil (hKE _ _ (TL.nil ?_))
 try dsimp only[thenQ]
 refine RetQ_end ?_
 exact retX (v:= .tup 0 (ofL [])) res0 (by obtain rfl:=some_in hX;exact ⟨b3,rfl,rfl⟩) nd (inH_tup (l:=[]) trivial) ⟨rowIn_RV ⟨inH_rs nd (j:=1) rfl,trivial⟩,rowIn_RL,trivial⟩
theorem ok_code_Writer_Int (n4:Int) (b1:(List UInt8)) (b2:Nat) (b3:Nat) (nd:Nd [(b2,RV 186 [OL (α:=UInt8) b3 b1]),(b3,RL (α:=UInt8) 5 b1)]) (r:(List UInt8)) (hX:X.code_Writer_Int n4 b1=some r):TCX Try.prog 151 [.ref b2 0 1,Enc.v (n4:Int)] [(b2,RV 186 [OL (α:=UInt8) b3 b1]),(b3,RL (α:=UInt8) 5 b1)] (fun rv h'=>∃b8,rv= .tup 0 (ofL [])∧h'=[(b2,RV 186 [OL (α:=UInt8) b8 r]),(b8,RL (α:=UInt8) 5 r)]):=by
 refine TCX.of b151 (Nat.le_of_ble_eq_true rfl) ?_
 unfold k151
 unfold X.code_Writer_Int at hX
 refine TK.endK fun KE hKE=>?_
 refine SR fun K5 hK5=>M rfl rfl (P1 (p_cvt src3 kd106 rfl (cv_u32 _)) rfl rfl (M rfl rfl (TL.nil (hK5 _ _ ?_))))
 refine TK.reg ?_
 refine M rfl rfl (M rfl rfl (P1 (p_ncR rfl (fun _=>refOK_of nd (j:=0) rfl rfl)) rfl rfl (P1 (p_faV fs186_0 Dc rfl nd (j:=0) rfl rfl) rfl rfl (P1 (p_ldV (v:=OL b3 b1) ty25 rfl rfl nd (j:=0) rfl rfl rfl rfl rfl) rfl rfl (M rfl rfl (P1 (p32_shr (a:=(u32 n4)) (b:=24) rfl rfl) rfl rfl (P1 (p_cvt src106 kd5 rfl (cv_u8 _)) rfl rfl (M rfl rfl ?_))))))))
 refine P1 (p32_shr (a:=(u32 n4)) (b:=16) rfl rfl) rfl rfl (P1 (p_cvt src106 kd5 rfl (cv_u8 _)) rfl rfl (M rfl rfl (P1 (p32_shr (a:=(u32 n4)) (b:=8) rfl rfl) rfl rfl (P1 (p_cvt src106 kd5 rfl (cv_u8 _)) rfl rfl (M rfl rfl (P1 (p_cvt src106 kd5 rfl (cv_u8 _)) rfl rfl ?_))))))
 refine TLc.lit ([(u8 ((shr32 (u32 n4) 24).toNat:Int)),(u8 ((shr32 (u32 n4) 16).toNat:Int)),(u8 ((shr32 (u32 n4) 8).toNat:Int)),(u8 ((u32 n4).toNat:Int))]:List UInt8) kd25 ty5 rfl ⟨⟨rfl,rfl⟩,⟨rfl,rfl⟩,⟨rfl,rfl⟩,⟨rfl,rfl⟩,trivial⟩ rfl rfl rfl ?_
 obtain ⟨u6,hu6,hX⟩:=bind_some hX
 refine TLc.appO nd kd25 bo25 ty5 rfl rfl (j:=1) rfl rfl (Src_L _) Dc (need_t hu6) rfl fun nd=>?_
 refine P1 (p_ncR rfl (fun _=>refOK_of nd (j:=0) rfl rfl)) rfl rfl (P1 (p_faV fs186_0 Dc rfl nd (j:=0) rfl rfl) rfl rfl ?_)
 refine TLc.stV (lu:=[OL (α:=UInt8) b3 (b1++([(u8 ((shr32 (u32 n4) 24).toNat:Int)),(u8 ((shr32 (u32 n4) 16).toNat:Int)),(u8 ((shr32 (u32 n4) 8).toNat:Int)),(u8 ((u32 n4).toNat:Int))]:List UInt8))]) nd ty25 rfl (j:=0) rfl rfl rfl (Cells_rs (refOK_of nd (j:=1) rfl rfl)) rfl rfl [OL (α:=UInt8) b3 (b1++([(u8 ((shr32 (u32 n4) 24).toNat:Int)),(u8 ((shr32 (u32 n4) 16).toNat:Int)),(u8 ((shr32 (u32 n4) 8).toNat:Int)),(u8 ((u32 n4).toNat:Int))]:List UInt8))] rfl fun nd=>?_
 refine TL.nil (hKE _ _ (TL.nil ?_))
 try dsimp only[thenQ]
 refine RetQ_end ?_
 exact retX (v:= .tup 0 (ofL [])) res0 (by obtain rfl:=some_in hX;exact ⟨b3,rfl,rfl⟩) nd (inH_tup (l:=[]) trivial) ⟨rowIn_RV ⟨inH_rs nd (j:=1) rfl,trivial⟩,rowIn_RL,trivial⟩
theorem ok_slices_Clone_Lbyte_byte_own_or (s1:(List UInt8)) (b2:Nat) (nd:Nd [(b2,RL (α:=UInt8) 5 s1)]) (r:(List UInt8)) (hX:X.slices_Clone_Lbyte_byte_own_or s1=some r):TCX Try.prog 61 [OL (α:=UInt8) b2 s1] [(b2,RL (α:=UInt8) 5 s1)] (fun rv h'=>∃b12,rv=OL (α:=UInt8) b12 r∧h'=[(b2,RL (α:=UInt8) 5 s1),(b12,RL (α:=UInt8) 5 r)]):=by
 refine TCX.of b61 (Nat.le_of_ble_eq_true rfl) ?_
 unfold k61
 unfold X.slices_Clone_Lbyte_byte_own_or at hX
 refine SR fun K3 hK3=>M rfl rfl (TL.nil (hK3 _ _ ?_))
 refine TK.seq_k fun K4 hK4=>?_
 refine SR fun K5 hK5=>M rfl rfl ?_
 refine TLc.eqNilO (xs:=s1) nd kd25 rfl rfl (j:=0) rfl rfl fun z6 hbz6=>?_
 replace hX:=nilU_t hX hbz6
 refine TL.nil (hK5 _ _ ?_)
 refine TK.cond (b:=z6) rfl (fun hc=>?_) (fun hc=>?_)
 ·have hX:=ite_t hc hX
  refine SR fun K7 hK7=>M rfl rfl (TL.nil (hK7 _ _ ?_))
  refine TK.ownL (α:=UInt8) 2 5 nd rfl (.inl rfl) fun b8 nd=>?_
  refine TK.pick [1,0] nd Dc fun nd=>?_
  refine TK.ret ?_
  try dsimp only[thenQ]
  exact retX (v:=OL (α:=UInt8) b8 ([]:List UInt8)) (res1 rfl) (by obtain rfl:=some_in hX;exact ⟨b8,rfl,rfl⟩) nd (inH_rs nd (j:=1) rfl) ⟨rowIn_RL,rowIn_RL,trivial⟩
 ·have hX:=ite_f hc hX
  refine TK.skip ?_
  refine hK4 _ _ (SR fun K9 hK9=>?_)
  refine TLc.litZ kd25 ty5 rfl ?_
  refine M rfl rfl ?_
  obtain ⟨u10,hu10,hX⟩:=bind_some hX
  refine TLc.appN nd kd25 bo25 ty5 rfl rfl (.inr rfl) rfl (Src_OL nd (j:=0) rfl) Dc (need_t hu10) rfl fun b11 nd=>?_
  refine M rfl rfl (TL.nil (hK9 _ _ ?_))
  refine TK.pick [1,0] nd Dc fun nd=>?_
  refine TK.ret ?_
  try dsimp only[thenQ]
  exact retX (v:=OL b11 s1) (res1 rfl) (by obtain rfl:=some_in hX;exact ⟨b11,rfl,rfl⟩) nd (inH_rs nd (j:=1) rfl) ⟨rowIn_RL,rowIn_RL,trivial⟩
theorem ok_code_Writer_Bytes_or (b1:(List UInt8)) (b2:Nat) (b3:Nat) (nd:Nd [(b2,RV 186 [OL (α:=UInt8) b3 b1]),(b3,RL (α:=UInt8) 5 b1)]) (r:(List UInt8)) (hX:X.code_Writer_Bytes_or b1=some r):TCX Try.prog 153 [.ref b2 0 1] [(b2,RV 186 [OL (α:=UInt8) b3 b1]),(b3,RL (α:=UInt8) 5 b1)] (fun rv h'=>∃b8,rv=OL (α:=UInt8) b8 r∧h'=[(b2,RV 186 [OL (α:=UInt8) b3 b1]),(b3,RL (α:=UInt8) 5 b1),(b8,RL (α:=UInt8) 5 r)]):=by
 refine TCX.of b153 (Nat.le_of_ble_eq_true rfl) ?_
 unfold k153
 unfold X.code_Writer_Bytes_or at hX
 refine SR fun K4 hK4=>M rfl rfl (TL.nil (hK4 _ _ (SR fun K5 hK5=>M rfl rfl (P1 (p_ncR rfl (fun _=>refOK_of nd (j:=0) rfl rfl)) rfl rfl (P1 (p_faV fs186_0 Dc rfl nd (j:=0) rfl rfl) rfl rfl (P1 (p_ldV (v:=OL b3 b1) ty25 rfl rfl nd (j:=0) rfl rfl rfl rfl rfl) rfl rfl ?_))))))
 obtain ⟨r6,hr6,hX⟩:=bind_some hX
 refine TL.pick [1,0] nd Dc fun nd=>?_
 refine TL.tcX [(b3,RL (α:=UInt8) 5 b1)] [(b2,RV 186 [OL b3 b1])] rfl nd (dlt rfl) rfl ⟨rfl,⟨rfl,trivial⟩⟩ (ok_slices_Clone_Lbyte_byte_own_or b1 b3 (Nd.take nd 1 rfl) _ hr6) ?_
 rintro _ _ hQ nd
 obtain ⟨b7,rfl,rfl⟩:=hQ
 refine M rfl rfl (TL.nil (hK5 _ _ ?_))
 refine TK.pick [2,0,1] nd Dc fun nd=>?_
 refine TK.ret ?_
 try dsimp only[thenQ]
 exact retX (v:=OL b7 r6) (res1 rfl) (by obtain rfl:=some_in hX;exact ⟨b7,rfl,rfl⟩) nd (inH_rs nd (j:=2) rfl) ⟨rowIn_RV ⟨inH_rs nd (j:=1) rfl,trivial⟩,rowIn_RL,rowIn_RL,trivial⟩
theorem ok_castagnoli_More (sum1:UInt32) (b2:(List UInt8)) (r:UInt32) (hX:X.castagnoli_More sum1 b2=some r):Fun Try.prog 194 [Enc.v (sum1:UInt32),Enc.v (b2:(List UInt8))] (·=Enc.v (r:UInt32)):=by
 refine Fun.of b194 (Nat.le_of_ble_eq_true rfl) (allVal.mem ⟨(by exact (v_val _)),(by exact (v_val _)),trivial⟩) ?_
 unfold k194
 have nd:Nd []:=Nd_nil
 unfold X.castagnoli_More at hX
 refine SR fun K3 hK3=>M rfl rfl (TL.nil (hK3 _ _ (SR fun K4 hK4=>M rfl rfl (P1 (p32_xor (a:=sum1) (b:=(4294967295:UInt32)) rfl rfl) rfl rfl (M rfl rfl (TL.nil (hK4 _ _ ?_)))))))
 refine TK.seq_k fun K5 hK5=>?_
 refine SR fun K6 hK6=>M rfl rfl (P1 (p_lenL (xs:=b2) kd25 rfl) rfl rfl (M rfl rfl (TL.nil (hK6 _ _ ?_))))
 refine TK.block ?_
 obtain ⟨o7,hO7,hA7⟩:=bind_some hX
 have E7:∀(x10:UInt32) (env:Env) (h:Hp),(∃_u:Unit,keepE [5] env=[(5,true,Enc.v x10)]∧Nd []∧HSub [] h)→X.castagnoli_More_e7 x10=some r→K5 env h:=by
  intro x10 env h hE hX
  obtain ⟨_u,henv,nd,hs⟩:=hE
  unfold X.castagnoli_More_e7 at hX
  refine hK5 _ _ (TK.keep [5] ?_)
  rw[henv]
  refine TK.subH hs ?_
  refine SR fun K11 hK11=>M rfl rfl (P1 (p32_xor (a:=x10) (b:=(4294967295:UInt32)) rfl rfl) rfl rfl (M rfl rfl (TL.nil (hK11 _ _ ?_))))
  refine TK.ret ?_
  try dsimp only[thenQ]
  exact R1 rfl hX
 refine TK.iter [5,10,11,12] (fun s env h=>match s with|(x8,x9)=>∃_u:Unit,env=[(5,true,Enc.v x8),(10,true,Enc.v b2),(11,true,Enc.v ((b2.length:Int):Int)),(12,true,Enc.v x9)]∧Nd []∧HSub [] h) hO7 ⟨(),rfl,Nd_nil,HSub.refl _⟩ ?_
 rintro ⟨x8,x9⟩ env h x7x ⟨_u,rfl,nd,hs⟩ hX hR7
 refine TK.subH hs ?_
 unfold X.castagnoli_More_s7 at hX
 try dsimp only at hX
 refine SR fun K12 hK12=>P1 (p_lss rfl rfl) rfl rfl (TL.nil (hK12 _ _ ?_))
 refine TK.seq_k fun K13 hK13=>?_
 refine TK.cond (b:=(decide (x9<(b2.length:Int)))) rfl (fun hc=>?_) (fun hc=>?_)
 ·have hX:=ite_t hc hX
  refine TK.skip ?_
  refine hK13 _ _ ?_
  refine TK.seq_k fun K14 hK14=>?_
  refine TK.block ?_
  refine SR fun K15 hK15=>?_
  obtain ⟨e16,he16,hX⟩:=bind_some hX
  refine P1 (p_iaL (xs:=b2) kd25 ty5 rfl rfl rfl (fun _=>he16)) rfl rfl (P1 (p_ldE (xs:=b2) (a:=e16) (e16:UInt8) ty5 rfl rfl (fun _=>he16) rfl rfl rfl) rfl rfl (M rfl rfl (TL.nil (hK15 _ _ (SR fun K17 hK17=>M rfl rfl (M rfl rfl (P1 (p_cvt src5 kd106 rfl (cv_u32 _)) rfl rfl (P1 (p32_xor (a:=x8) (b:=(u32 (e16.toNat:Int))) rfl rfl) rfl rfl (M rfl rfl (TL.nil (hK17 _ _ ?_)))))))))))
  refine SR fun K18 hK18=>M rfl rfl (TL.nil (hK18 _ _ ?_))
  refine TK.block ?_
  obtain ⟨o19,hO19,hA19⟩:=bind_some hX
  have E19:∀(x22:UInt32) (env:Env) (h:Hp),(∃_u:Unit,keepE [5,10,11,12] env=[(5,true,Enc.v x22),(10,true,Enc.v b2),(11,true,Enc.v ((b2.length:Int):Int)),(12,true,Enc.v x9)]∧Nd []∧HSub [] h)→X.castagnoli_More_e19 x9 x22=some x7x→K14 env h:=by
   intro x22 env h hE hX
   obtain ⟨_u,henv,nd,hs⟩:=hE
   unfold X.castagnoli_More_e19 at hX
   refine hK14 _ _ (TK.keep [5,10,11,12] ?_)
   rw[henv]
   refine TK.subH hs ?_
   refine TK.reg ?_
   refine P1 (p_add rfl rfl) rfl rfl (M rfl rfl (TL.nil ?_))
   exact ⟨_,(some_in hX).symm,(),rfl,Nd_nil,HSub.refl _⟩
  refine TK.iter [5,10,11,12,20] (fun s env h=>match s with|(x20,x21)=>∃_u:Unit,env=[(5,true,Enc.v x20),(10,true,Enc.v b2),(11,true,Enc.v ((b2.length:Int):Int)),(12,true,Enc.v x9),(20,true,Enc.v x21)]∧Nd []∧HSub [] h) hO19 ⟨(),rfl,Nd_nil,HSub.refl _⟩ ?_
  rintro ⟨x20,x21⟩ env h x19x ⟨_u,rfl,nd,hs⟩ hX hR19
  refine TK.subH hs ?_
  unfold X.castagnoli_More_s19 at hX
  try dsimp only at hX
  refine SR fun K23 hK23=>P1 (p_lss rfl rfl) rfl rfl (TL.nil (hK23 _ _ ?_))
  refine TK.seq_k fun K24 hK24=>?_
  refine TK.cond (b:=(decide (x21<(8:Int)))) rfl (fun hc=>?_) (fun hc=>?_)
  ·have hX:=ite_t hc hX
   refine TK.skip ?_
   refine hK24 _ _ ?_
   refine TK.seq_k fun K25 hK25=>?_
   refine TK.block ?_
   refine SR fun K26 hK26=>M rfl rfl (P1 (p32_and (a:=x20) (b:=(1:UInt32)) rfl rfl) rfl rfl (P1 (p32_eql (a:=(x20&&&(1:UInt32))) (b:=(1:UInt32)) rfl rfl) rfl rfl (TL.nil (hK26 _ _ ?_))))
   refine TK.cond (b:=((x20&&&(1:UInt32))==(1:UInt32))) rfl (fun hc=>?_) (fun hc=>?_)
   ·have hX:=ite_t hc hX
    refine TK.reg ?_
    refine M rfl rfl (P1 (p32_shr (a:=x20) (b:=1) rfl rfl) rfl rfl (P1 (p32_xor (a:=(shr32 x20 1)) (b:=(2197175160:UInt32)) rfl rfl) rfl rfl (M rfl rfl (TL.nil (hK25 _ _ ?_)))))
    refine TK.reg ?_
    refine P1 (p_add rfl rfl) rfl rfl (M rfl rfl (TL.nil ?_))
    exact ⟨_,(some_in hX).symm,(),rfl,Nd_nil,HSub.refl _⟩
   ·have hX:=ite_f hc hX
    refine TK.reg ?_
    refine M rfl rfl (P1 (p32_shr (a:=x20) (b:=1) rfl rfl) rfl rfl (M rfl rfl (TL.nil (hK25 _ _ ?_))))
    refine TK.reg ?_
    refine P1 (p_add rfl rfl) rfl rfl (M rfl rfl (TL.nil ?_))
    exact ⟨_,(some_in hX).symm,(),rfl,Nd_nil,HSub.refl _⟩
  ·have hX:=ite_f hc hX
   refine TK.exit ?_
   obtain rfl:=hR19 _ (some_in hX).symm
   exact E19 x20 _ _ ⟨(),rfl,Nd_nil,HSub.refl _⟩ hA19
 ·have hX:=ite_f hc hX
  refine TK.exit ?_
  obtain rfl:=hR7 _ (some_in hX).symm
  exact E7 x8 _ _ ⟨(),rfl,Nd_nil,HSub.refl _⟩ hA7
theorem ok_castagnoli_Sum (b1:(List UInt8)) (r:UInt32) (hX:X.castagnoli_Sum b1=some r):Fun Try.prog 184 [Enc.v (b1:(List UInt8))] (·=Enc.v (r:UInt32)):=by
 refine Fun.of b184 (Nat.le_of_ble_eq_true rfl) (allVal.mem ⟨(by exact (v_val _)),trivial⟩) ?_
 unfold k184
 have nd:Nd []:=Nd_nil
 unfold X.castagnoli_Sum at hX
 refine SR fun K2 hK2=>M rfl rfl (TL.nil (hK2 _ _ (SR fun K3 hK3=>M rfl rfl ?_)))
 obtain ⟨r4,hr4,hX⟩:=bind_some hX
 refine TL.cvX rfl rfl rfl (fun _=>⟨rfl,⟨rfl,⟨rfl,trivial⟩⟩⟩) (fun e=>ok_castagnoli_More (0:UInt32) b1 _ hr4) ?_
 refine M rfl rfl (TL.nil (hK3 _ _ ?_))
 refine TK.ret ?_
 try dsimp only[thenQ]
 exact R1 rfl hX
theorem ok_slices_Clone_Lbyte_byte_own (s1:(List UInt8)) (b2:Nat) (nd:Nd [(b2,RL (α:=UInt8) 5 s1)]) (r:(List UInt8)) (hX:X.slices_Clone_Lbyte_byte_own s1=some r):TCX Try.prog 61 [OL (α:=UInt8) b2 s1] [(b2,RL (α:=UInt8) 5 s1)] (fun rv h'=>rv=Enc.v (r:(List UInt8))∧h'=[(b2,RL (α:=UInt8) 5 s1)]):=by
 refine TCX.of b61 (Nat.le_of_ble_eq_true rfl) ?_
 unfold k61
 unfold X.slices_Clone_Lbyte_byte_own at hX
 refine SR fun K3 hK3=>M rfl rfl (TL.nil (hK3 _ _ ?_))
 refine TK.seq_k fun K4 hK4=>?_
 refine SR fun K5 hK5=>M rfl rfl ?_
 refine TLc.eqNilO (xs:=s1) nd kd25 rfl rfl (j:=0) rfl rfl fun z6 hbz6=>?_
 replace hX:=nilU_t hX hbz6
 refine TL.nil (hK5 _ _ ?_)
 refine TK.cond (b:=z6) rfl (fun hc=>?_) (fun hc=>?_)
 ·have hX:=ite_t hc hX
  refine SR fun K7 hK7=>M rfl rfl (TL.nil (hK7 _ _ ?_))
  refine TK.wk 2 (L ([]:(List UInt8))) rfl Wk_nil ?_
  refine TK.ret ?_
  try dsimp only[thenQ]
  exact retX (v:=Enc.v (([]:(List UInt8)):(List UInt8))) (res1 rfl) (by obtain rfl:=some_in hX;exact ⟨rfl,rfl⟩) nd (inH_val (v_val _)) ⟨rowIn_RL,trivial⟩
 ·have hX:=ite_f hc hX
  refine TK.skip ?_
  refine hK4 _ _ (SR fun K8 hK8=>?_)
  refine TLc.litZ kd25 ty5 rfl ?_
  refine M rfl rfl ?_
  obtain ⟨u9,hu9,hX⟩:=bind_some hX
  refine TLc.appN nd kd25 bo25 ty5 rfl rfl (.inr rfl) rfl (Src_OL nd (j:=0) rfl) Dc (need_t hu9) rfl fun b10 nd=>?_
  refine M rfl rfl (TL.nil (hK8 _ _ ?_))
  refine TK.lay [(2,L s1)] nd (j:=0) rfl ⟨⟨_,rfl,fix_OL nd (j:=0) rfl,rfl⟩,trivial⟩ fun nd=>?_
  refine TK.ret ?_
  try dsimp only[thenQ]
  exact retX (v:=Enc.v s1) (res1 rfl) (by obtain rfl:=some_in hX;exact ⟨rfl,rfl⟩) nd (inH_val (v_val _)) ⟨rowIn_RL,trivial⟩
theorem ok_code_Writer_Bytes (b1:(List UInt8)) (b2:Nat) (b3:Nat) (nd:Nd [(b2,RV 186 [OL (α:=UInt8) b3 b1]),(b3,RL (α:=UInt8) 5 b1)]) (r:(List UInt8)) (hX:X.code_Writer_Bytes b1=some r):TCX Try.prog 153 [.ref b2 0 1] [(b2,RV 186 [OL (α:=UInt8) b3 b1]),(b3,RL (α:=UInt8) 5 b1)] (fun rv h'=>rv=Enc.v (r:(List UInt8))∧h'=[(b2,RV 186 [OL (α:=UInt8) b3 b1]),(b3,RL (α:=UInt8) 5 b1)]):=by
 refine TCX.of b153 (Nat.le_of_ble_eq_true rfl) ?_
 unfold k153
 unfold X.code_Writer_Bytes at hX
 refine SR fun K4 hK4=>M rfl rfl (TL.nil (hK4 _ _ (SR fun K5 hK5=>M rfl rfl (P1 (p_ncR rfl (fun _=>refOK_of nd (j:=0) rfl rfl)) rfl rfl (P1 (p_faV fs186_0 Dc rfl nd (j:=0) rfl rfl) rfl rfl (P1 (p_ldV (v:=OL b3 b1) ty25 rfl rfl nd (j:=0) rfl rfl rfl rfl rfl) rfl rfl ?_))))))
 obtain ⟨r6,hr6,hX⟩:=bind_some hX
 refine TL.pick [1,0] nd Dc fun nd=>?_
 refine TL.tcX [(b3,RL (α:=UInt8) 5 b1)] [(b2,RV 186 [OL b3 b1])] rfl nd (dlt rfl) rfl ⟨rfl,⟨rfl,trivial⟩⟩ (ok_slices_Clone_Lbyte_byte_own b1 b3 (Nd.take nd 1 rfl) _ hr6) ?_
 rintro _ _ hQ nd
 obtain ⟨rfl,rfl⟩:=hQ
 refine M rfl rfl (TL.nil (hK5 _ _ ?_))
 refine TK.pick [1,0] nd Dc fun nd=>?_
 refine TK.ret ?_
 try dsimp only[thenQ]
 exact retX (v:=Enc.v r6) (res1 rfl) (by obtain rfl:=some_in hX;exact ⟨rfl,rfl⟩) nd (inH_val (v_val _)) ⟨rowIn_RV ⟨inH_rs nd (j:=1) rfl,trivial⟩,rowIn_RL,trivial⟩
theorem ok_frame_made (u1:Unit_api) (r:(List UInt8)) (hX:X.frame_made u1=some r):Fun Try.prog 155 [Enc.v (u1:Unit_api)] (·=Enc.v (r:(List UInt8))):=by
 refine Fun.of b155 (Nat.le_of_ble_eq_true rfl) (allVal.mem ⟨(by exact (v_val _)),trivial⟩) ?_
 unfold k155
 have nd:Nd []:=Nd_nil
 unfold X.frame_made at hX
 refine SR fun K2 hK2=>?_
 refine TLc.boxV (lu:=[Enc.v u1.Kind,Enc.v u1.Label,Enc.v u1.Number,Enc.v u1.Load]) nd rfl (Cells_v (u1:Unit_api)) rfl ?_
 refine M rfl rfl (TL.nil (hK2 _ _ (SR fun K3 hK3=>P1 (p_bld (l:=[.nils]) ty186 rfl all186 rfl (fun _=>trivial)) rfl rfl ?_)))
 refine TLc.boxO (lu:=[.nils]) nd rfl (Cells_agg rfl (allA.mem ⟨trivial,trivial⟩)) rfl fun b4 nd=>?_
 refine M rfl rfl (TL.nil (hK3 _ _ ?_))
 refine TK.ownC (α:=UInt8) nd (j:=0) rfl 0 5 (.inl rfl) fun b5 nd=>?_
 refine SR fun K6 hK6=>M rfl rfl (P1 (p_faR fs68_0 Dc rfl) rfl rfl (P1 (p_ldR (v:=Enc.v u1.Kind) ty3 rfl rfl rfl rfl rfl rfl) rfl rfl (P1 (p_cvt src3 kd5 rfl (cv_u8 _)) rfl rfl ?_)))
 obtain ⟨r7,hr7,hX⟩:=bind_some hX
 refine TL.pick [1,0] nd Dc fun nd=>?_
 refine TL.tcX [(b4,RV 186 [OL (α:=UInt8) b5 ([]:List UInt8)]),(b5,RL (α:=UInt8) 5 ([]:List UInt8))] [] rfl nd (dlt rfl) rfl ⟨rfl,⟨rfl,⟨rfl,trivial⟩⟩⟩ (ok_code_Writer_Byte (u8 u1.Kind) ([]:List UInt8) b4 b5 (Nd.take nd 2 rfl) _ hr7) ?_
 rintro _ _ hQ nd
 obtain ⟨b9,rfl,rfl⟩:=hQ
 refine TL.nil (hK6 _ _ (SR fun K10 hK10=>M rfl rfl (P1 (p_faR fs68_1 Dc rfl) rfl rfl (P1 (p_ldR (v:=Enc.v u1.Label) ty3 rfl rfl rfl rfl rfl rfl) rfl rfl ?_))))
 obtain ⟨r11,hr11,hX⟩:=bind_some hX
 refine TL.tcX [(b4,RV 186 [OL b9 r7]),(b9,RL (α:=UInt8) 5 r7)] [] rfl nd (dlt rfl) rfl ⟨rfl,⟨rfl,⟨rfl,trivial⟩⟩⟩ (ok_code_Writer_Int u1.Label r7 b4 b9 (Nd.take nd 2 rfl) _ hr11) ?_
 rintro _ _ hQ nd
 obtain ⟨b13,rfl,rfl⟩:=hQ
 refine TL.nil (hK10 _ _ (SR fun K14 hK14=>M rfl rfl (P1 (p_faR fs68_2 Dc rfl) rfl rfl (P1 (p_ldR (v:=Enc.v u1.Number) ty3 rfl rfl rfl rfl rfl rfl) rfl rfl ?_))))
 obtain ⟨r15,hr15,hX⟩:=bind_some hX
 refine TL.tcX [(b4,RV 186 [OL b13 r11]),(b13,RL (α:=UInt8) 5 r11)] [] rfl nd (dlt rfl) rfl ⟨rfl,⟨rfl,⟨rfl,trivial⟩⟩⟩ (ok_code_Writer_Int u1.Number r11 b4 b13 (Nd.take nd 2 rfl) _ hr15) ?_
 rintro _ _ hQ nd
 obtain ⟨b17,rfl,rfl⟩:=hQ
 refine TL.nil (hK14 _ _ (SR fun K18 hK18=>M rfl rfl (P1 (p_faR fs68_3 Dc rfl) rfl rfl (P1 (p_ldR (v:=Enc.v u1.Load) ty25 rfl rfl rfl rfl rfl rfl) rfl rfl (P1 (p_lenL (xs:=u1.Load) kd25 rfl) rfl rfl (P1 (p_shr rfl rfl (fun _=>by omega)) rfl rfl (P1 (p_cvt src3 kd5 rfl (cv_u8 _)) rfl rfl ?_)))))))
 obtain ⟨r19,hr19,hX⟩:=bind_some hX
 refine TL.tcX [(b4,RV 186 [OL b17 r15]),(b17,RL (α:=UInt8) 5 r15)] [] rfl nd (dlt rfl) rfl ⟨rfl,⟨rfl,⟨rfl,trivial⟩⟩⟩ (ok_code_Writer_Byte (u8 (shr64 (u1.Load.length:Int) ((8:UInt64).toNat:Int))) r15 b4 b17 (Nd.take nd 2 rfl) _ hr19) ?_
 rintro _ _ hQ nd
 obtain ⟨b21,rfl,rfl⟩:=hQ
 refine TL.nil (hK18 _ _ (SR fun K22 hK22=>M rfl rfl (P1 (p_faR fs68_3 Dc rfl) rfl rfl (P1 (p_ldR (v:=Enc.v u1.Load) ty25 rfl rfl rfl rfl rfl rfl) rfl rfl (P1 (p_lenL (xs:=u1.Load) kd25 rfl) rfl rfl (P1 (p_cvt src3 kd5 rfl (cv_u8 _)) rfl rfl ?_))))))
 obtain ⟨r23,hr23,hX⟩:=bind_some hX
 refine TL.tcX [(b4,RV 186 [OL b21 r19]),(b21,RL (α:=UInt8) 5 r19)] [] rfl nd (dlt rfl) rfl ⟨rfl,⟨rfl,⟨rfl,trivial⟩⟩⟩ (ok_code_Writer_Byte (u8 (u1.Load.length:Int)) r19 b4 b21 (Nd.take nd 2 rfl) _ hr23) ?_
 rintro _ _ hQ nd
 obtain ⟨b25,rfl,rfl⟩:=hQ
 refine TL.nil (hK22 _ _ (SR fun K26 hK26=>P1 (p_faR fs68_0 Dc rfl) rfl rfl (P1 (p_ldR (v:=Enc.v u1.Kind) ty3 rfl rfl rfl rfl rfl rfl) rfl rfl ?_)))
 obtain ⟨r27,hr27,hX⟩:=bind_some hX
 refine TL.cvX rfl rfl rfl (fun _=>⟨rfl,⟨rfl,trivial⟩⟩) (fun e=>ok_frame_room u1.Kind _ hr27) ?_
 obtain ⟨u28,hu28,hX⟩:=bind_some hX
 refine TLc.mkO nd (0:UInt8) kd25 ty5 rfl (fun j hj=>by (have:j=0:=by simpa[Enc.sz] using hj);subst this;rfl) rfl rfl Dc (need_t hu28) rfl fun b29 nd=>?_
 refine M rfl rfl (TL.nil (hK26 _ _ (SR fun K30 hK30=>M rfl rfl (P1 (p_faR fs68_3 Dc rfl) rfl rfl (P1 (p_ldR (v:=Enc.v u1.Load) ty25 rfl rfl rfl rfl rfl rfl) rfl rfl ?_)))))
 refine TLc.copyO (xs:=(List.replicate r27.toNat (0:UInt8))) (ys:=u1.Load) nd kd25 ty5 rfl rfl (j:=0) rfl rfl (Src_L _) rfl fun nd=>?_
 refine TL.cv 4 (OL b29 (cpy (List.replicate r27.toNat (0:UInt8)) u1.Load)) rfl (Wk_eq (OL_len (cpy_len))) ?_
 refine TL.nil (hK30 _ _ (SR fun K31 hK31=>M rfl rfl ?_))
 obtain ⟨r32,hr32,hX⟩:=bind_some hX
 refine TL.pick [1,2,0] nd Dc fun nd=>?_
 refine TL.tcX [(b4,RV 186 [OL b25 r23]),(b25,RL (α:=UInt8) 5 r23)] [(b29,RL (α:=UInt8) 5 (cpy (List.replicate r27.toNat (0:UInt8)) u1.Load))] rfl nd (dlt rfl) rfl ⟨rfl,⟨rfl,trivial⟩⟩ (ok_code_Writer_Bytes_or r23 b4 b25 (Nd.take nd 2 rfl) _ hr32) ?_
 rintro _ _ hQ nd
 obtain ⟨b33,rfl,rfl⟩:=hQ
 refine M rfl rfl ?_
 obtain ⟨u34,hu34,hX⟩:=bind_some hX
 refine TLc.appO nd kd25 bo25 ty5 rfl rfl (j:=2) rfl rfl (Src_OL nd (j:=3) rfl) Dc (need_t hu34) rfl fun nd=>?_
 refine M rfl rfl (TL.nil (hK31 _ _ (SR fun K35 hK35=>P1 (p_bld (l:=[.nils]) ty186 rfl all186 rfl (fun _=>trivial)) rfl rfl ?_)))
 refine TLc.boxO (lu:=[.nils]) nd rfl (Cells_agg rfl (allA.mem ⟨trivial,trivial⟩)) rfl fun b36 nd=>?_
 refine M rfl rfl (TL.nil (hK35 _ _ ?_))
 refine TK.ownC (α:=UInt8) nd (j:=0) rfl 0 5 (.inl rfl) fun b37 nd=>?_
 refine SR fun K38 hK38=>M rfl rfl (M rfl rfl ?_)
 obtain ⟨r39,hr39,hX⟩:=bind_some hX
 refine TL.lookX [L (r32++(cpy (List.replicate r27.toNat (0:UInt8)) u1.Load))] rfl rfl rfl (fun _=>⟨rfl,⟨rfl,trivial⟩⟩) ⟨look_OL nd (j:=4) rfl,trivial⟩ (fun e=>ok_castagnoli_Sum (r32++(cpy (List.replicate r27.toNat (0:UInt8)) u1.Load)) _ hr39) (trivial) ?_
 refine P1 (p_cvt src106 kd3 rfl (cv_32 r39)) rfl rfl ?_
 obtain ⟨r40,hr40,hX⟩:=bind_some hX
 refine TL.pick [1,0,2,3,4,5] nd Dc fun nd=>?_
 refine TL.tcX [(b36,RV 186 [OL (α:=UInt8) b37 ([]:List UInt8)]),(b37,RL (α:=UInt8) 5 ([]:List UInt8))] [(b4,RV 186 [OL b25 r23]),(b25,RL (α:=UInt8) 5 r23),(b33,RL (α:=UInt8) 5 (r32++(cpy (List.replicate r27.toNat (0:UInt8)) u1.Load))),(b29,RL (α:=UInt8) 5 (cpy (List.replicate r27.toNat (0:UInt8)) u1.Load))] rfl nd (dlt rfl) rfl ⟨rfl,⟨rfl,⟨rfl,trivial⟩⟩⟩ (ok_code_Writer_Int (r39.toNat:Int) ([]:List UInt8) b36 b37 (Nd.take nd 2 rfl) _ hr40) ?_
 rintro _ _ hQ nd
 obtain ⟨b42,rfl,rfl⟩:=hQ
 refine TL.nil (hK38 _ _ (SR fun K43 hK43=>M rfl rfl (M rfl rfl ?_)))
 obtain ⟨r44,hr44,hX⟩:=bind_some hX
 refine TL.tcX [(b36,RV 186 [OL b42 r40]),(b42,RL (α:=UInt8) 5 r40)] [(b4,RV 186 [OL b25 r23]),(b25,RL (α:=UInt8) 5 r23),(b33,RL (α:=UInt8) 5 (r32++(cpy (List.replicate r27.toNat (0:UInt8)) u1.Load))),(b29,RL (α:=UInt8) 5 (cpy (List.replicate r27.toNat (0:UInt8)) u1.Load))] rfl nd (dlt rfl) rfl ⟨rfl,⟨rfl,trivial⟩⟩ (ok_code_Writer_Bytes r40 b36 b42 (Nd.take nd 2 rfl) _ hr44) ?_
 rintro _ _ hQ nd
 obtain ⟨rfl,rfl⟩:=hQ
 obtain ⟨u45,hu45,hX⟩:=bind_some hX
 refine TLc.appO nd kd25 bo25 ty5 rfl rfl (j:=4) rfl rfl (Src_L _) Dc (need_t hu45) rfl fun nd=>?_
 refine M rfl rfl (TL.nil (hK43 _ _ ?_))
 refine TK.lay [(2,L ((r32++(cpy (List.replicate r27.toNat (0:UInt8)) u1.Load))++r44))] nd (j:=4) rfl ⟨⟨_,rfl,fix_OL nd (j:=4) rfl,rfl⟩,trivial⟩ fun nd=>?_
 refine TK.ret ?_
 try dsimp only[thenQ]
 exact R1 rfl hX
theorem ok_slices_Equal_Lbyte_byte (s11:(List UInt8)) (s22:(List UInt8)) (r:Bool) (hX:X.slices_Equal_Lbyte_byte s11 s22=some r):Fun Try.prog 186 [Enc.v (s11:(List UInt8)),Enc.v (s22:(List UInt8))] (·=Enc.v (r:Bool)):=by
 refine Fun.of b186 (Nat.le_of_ble_eq_true rfl) (allVal.mem ⟨(by exact (v_val _)),(by exact (v_val _)),trivial⟩) ?_
 unfold k186
 have nd:Nd []:=Nd_nil
 unfold X.slices_Equal_Lbyte_byte at hX
 refine SR fun K3 hK3=>M rfl rfl (TL.nil (hK3 _ _ ?_))
 refine TK.seq_k fun K4 hK4=>?_
 refine SR fun K5 hK5=>M rfl rfl (P1 (p_lenL (xs:=s11) kd25 rfl) rfl rfl (M rfl rfl (P1 (p_lenL (xs:=s22) kd25 rfl) rfl rfl (P1 (p_neq rfl rfl) rfl rfl (TL.nil (hK5 _ _ ?_))))))
 refine TK.cond (b:=((s11.length:Int) !=(s22.length:Int))) rfl (fun hc=>?_) (fun hc=>?_)
 ·have hX:=ite_t hc hX
  refine SR fun K6 hK6=>M rfl rfl (TL.nil (hK6 _ _ ?_))
  refine TK.ret ?_
  try dsimp only[thenQ]
  exact R1 rfl hX
 ·have hX:=ite_f hc hX
  refine TK.skip ?_
  refine hK4 _ _ ?_
  refine TK.seq_k fun K7 hK7=>?_
  refine SR fun K8 hK8=>M rfl rfl (P1 (p_lenL (xs:=s11) kd25 rfl) rfl rfl (M rfl rfl (TL.nil (hK8 _ _ ?_))))
  refine TK.block ?_
  obtain ⟨o9,hO9,hA9⟩:=bind_some hX
  have E9:∀(env:Env) (h:Hp),(∃_u:Unit,keepE [] env=[]∧Nd []∧HSub [] h)→X.slices_Equal_Lbyte_byte_e9=some r→K7 env h:=by
   intro env h hE hX
   obtain ⟨_u,henv,nd,hs⟩:=hE
   unfold X.slices_Equal_Lbyte_byte_e9 at hX
   refine hK7 _ _ (TK.keep [] ?_)
   rw[henv]
   refine TK.subH hs ?_
   refine SR fun K11 hK11=>M rfl rfl (TL.nil (hK11 _ _ ?_))
   refine TK.ret ?_
   try dsimp only[thenQ]
   exact R1 rfl hX
  refine TK.iter [0,1,12,13] (fun s env h=>match s with|x10=>∃_u:Unit,env=[(0,true,Enc.v s11),(1,true,Enc.v s22),(12,true,Enc.v ((s11.length:Int):Int)),(13,true,Enc.v x10)]∧Nd []∧HSub [] h) hO9 ⟨(),rfl,Nd_nil,HSub.refl _⟩ ?_
  rintro x10 env h x9x ⟨_u,rfl,nd,hs⟩ hX hR9
  refine TK.subH hs ?_
  unfold X.slices_Equal_Lbyte_byte_s9 at hX
  try dsimp only at hX
  refine SR fun K12 hK12=>P1 (p_lss rfl rfl) rfl rfl (TL.nil (hK12 _ _ ?_))
  refine TK.seq_k fun K13 hK13=>?_
  refine TK.cond (b:=(decide (x10<(s11.length:Int)))) rfl (fun hc=>?_) (fun hc=>?_)
  ·have hX:=ite_t hc hX
   refine TK.skip ?_
   refine hK13 _ _ ?_
   refine TK.seq_k fun K14 hK14=>?_
   refine TK.block ?_
   refine SR fun K15 hK15=>M rfl rfl (M rfl rfl (TL.nil (hK15 _ _ ?_)))
   refine TK.seq_k fun K16 hK16=>?_
   have ndS:Nd []:=Nd.pick nd (is:=[]) Dc
   refine TK.drwX (h:=[]) (hS:=[]) [(0,0),(0,1),(0,2),(0,3),(0,4),(0,5),(0,6),(0,7),(0,8)] mixed (by kernel_rfl) (HSub_app nd) ?_
   refine DM rfl rfl rfl ?_
   refine DM rfl rfl rfl ?_
   obtain ⟨e17,he17,hX⟩:=bind_some hX
   refine D0 rfl (p_iaL (xs:=s11) kd25 ty5 rfl rfl rfl (fun _=>he17)) rfl rfl ?_
   refine D0 rfl (p_ldE (xs:=s11) (a:=e17) (e17:UInt8) ty5 rfl rfl (fun _=>he17) rfl rfl rfl) rfl rfl ?_
   refine DM rfl rfl rfl ?_
   refine DM rfl rfl rfl ?_
   obtain ⟨e18,he18,hX⟩:=bind_some hX
   refine D0 rfl (p_iaL (xs:=s22) kd25 ty5 rfl rfl rfl (fun _=>he18)) rfl rfl ?_
   refine D0 rfl (p_ldE (xs:=s22) (a:=e18) (e18:UInt8) ty5 rfl rfl (fun _=>he18) rfl rfl rfl) rfl rfl ?_
   refine D0 rfl (p8_neq (a:=e17) (b:=e18) rfl rfl) rfl rfl ?_
   refine DRend ?_
   refine hK16 _ _ ?_
   refine TK.cond (b:=(e17 !=e18)) rfl (fun hc=>?_) (fun hc=>?_)
   ·have hX:=ite_t hc hX
    refine SR fun K19 hK19=>M rfl rfl (TL.nil (hK19 _ _ ?_))
    refine TK.ret ?_
    obtain rfl:=hR9 _ (some_in hX).symm
    replace hX:=hA9
    try dsimp only[thenQ]
    exact R1 rfl hX
   ·have hX:=ite_f hc hX
    refine TK.skip ?_
    refine hK14 _ _ ?_
    refine TK.reg ?_
    refine P1 (p_add rfl rfl) rfl rfl (M rfl rfl (TL.nil ?_))
    exact ⟨_,(some_in hX).symm,(),rfl,Nd_nil,HSub.refl _⟩
  ·have hX:=ite_f hc hX
   refine TK.exit ?_
   obtain rfl:=hR9 _ (some_in hX).symm
   exact E9 _ _ ⟨(),rfl,Nd_nil,HSub.refl _⟩ hA9
theorem bc_frame_Get:BodyC cx 156 47 [.c 2 68,.t 3] k156:=⟨Enters.of Try.func156 (by kernel_rfl) (by kernel_rfl),_,_,Try.func156,rfl,by kernel_rfl,rfl,rfl⟩
theorem ok_frame_Get (b1:(List UInt8)) (r:(Unit_api×Int)) (hX:X.frame_Get b1=some r):Fun Try.prog 156 [Enc.v (b1:(List UInt8))] (·= .tup 2 (ofL [Enc.v r.1,Enc.v r.2])):=by
 refine Fun.ofC (C:=cx) bc_frame_Get (Nat.le_of_ble_eq_true rfl) (allVal.mem ⟨(by exact (v_val _)),trivial⟩) ?_
 unfold k156
 have nd:Nd []:=Nd_nil
 unfold X.frame_Get at hX
 refine SR fun K2 hK2=>?_
 refine TLc.alO (l:=[Enc.v ((0:Int):Int),Enc.v ((0:Int):Int),Enc.v ((0:Int):Int),.nils]) nd ty68 ti68_z rfl rfl fun b3 nd=>?_
 refine M rfl rfl (TL.nil (hK2 _ _ ?_))
 refine TK.cvR nd (j:=0) rfl (l':=[Enc.v ((0:Int):Int),Enc.v ((0:Int):Int),Enc.v ((0:Int):Int),Enc.v (([]:(List UInt8)):(List UInt8))]) ⟨Wk.refl _,Wk.refl _,Wk.refl _,Wk_nil,trivial⟩ fun nd=>?_
 refine SR fun K4 hK4=>M rfl rfl ?_
 obtain ⟨r5,hr5,hX⟩:=bind_some hX
 refine TL.tcX [] [(b3,RV 68 [Enc.v ((0:Int):Int),Enc.v ((0:Int):Int),Enc.v ((0:Int):Int),Enc.v (([]:(List UInt8)):(List UInt8))])] rfl nd (dlt rfl) rfl ⟨rfl,⟨rfl,trivial⟩⟩ (ok_code_NewReader b1 (Nd.take nd 0 rfl) _ hr5) ?_
 rintro _ _ hQ nd
 obtain ⟨b6,rfl,rfl⟩:=hQ
 refine M rfl rfl (TL.nil (hK4 _ _ (SR fun K7 hK7=>M rfl rfl ?_)))
 obtain ⟨r8,hr8,hX⟩:=bind_some hX
 refine TL.tcX [(b6,RV 215 [Enc.v r5.1,Enc.v r5.2])] [(b3,RV 68 [Enc.v ((0:Int):Int),Enc.v ((0:Int):Int),Enc.v ((0:Int):Int),Enc.v (([]:(List UInt8)):(List UInt8))])] rfl nd (dlt rfl) rfl ⟨rfl,⟨rfl,trivial⟩⟩ (ok_code_Reader_Byte r5.1 r5.2 b6 (Nd.take nd 1 rfl) _ hr8) ?_
 rintro _ _ hQ nd
 obtain ⟨rfl,rfl⟩:=hQ
 refine P1 (p_cvt src5 kd3 rfl (cv_8 r8.1)) rfl rfl ?_
 refine TLc.p (gc:=true) (p_bld (l:=[Enc.v ((r8.1.toNat:Int):Int),Enc.v ((0:Int):Int),Enc.v ((0:Int):Int),.nils]) ty68 rfl all68 rfl (fun _=>⟨⟨rfl,trivial,rfl⟩,trivial⟩)) rfl rfl (TL.wk (v':=Enc.v ((Unit_api.mk (r8.1.toNat:Int) (0:Int) (0:Int) ([]:(List UInt8))):Unit_api)) (Wk_agg ⟨Wk.refl _,Wk.refl _,Wk.refl _,Wk_nil,trivial⟩) ?_)
 refine TLc.alO (l:=[Enc.v ((0:Int):Int),Enc.v ((0:Int):Int),Enc.v ((0:Int):Int),.nils]) nd ty68 ti68_z rfl rfl fun b10 nd=>?_
 refine TLc.stV (lu:=Enc.cl ((Unit_api.mk (r8.1.toNat:Int) (0:Int) (0:Int) ([]:(List UInt8))):Unit_api)) nd ty68 rfl (j:=0) rfl rfl rfl (Cells_v ((Unit_api.mk (r8.1.toNat:Int) (0:Int) (0:Int) ([]:(List UInt8))):Unit_api)) rfl rfl [Enc.v ((Unit_api.mk (r8.1.toNat:Int) (0:Int) (0:Int) ([]:(List UInt8))).Kind:Int),Enc.v ((Unit_api.mk (r8.1.toNat:Int) (0:Int) (0:Int) ([]:(List UInt8))).Label:Int),Enc.v ((Unit_api.mk (r8.1.toNat:Int) (0:Int) (0:Int) ([]:(List UInt8))).Number:Int),Enc.v ((Unit_api.mk (r8.1.toNat:Int) (0:Int) (0:Int) ([]:(List UInt8))).Load:(List UInt8))] rfl fun nd=>?_
 refine TL.nil (hK7 _ _ (SR fun K11 hK11=>M rfl rfl ?_))
 obtain ⟨r12,hr12,hX⟩:=bind_some hX
 refine TL.pick [1,0,2] nd Dc fun nd=>?_
 refine TL.tcX [(b6,RV 215 [Enc.v r8.2.1,Enc.v r8.2.2])] [(b10,RV 68 [Enc.v ((Unit_api.mk (r8.1.toNat:Int) (0:Int) (0:Int) ([]:(List UInt8))).Kind:Int),Enc.v ((Unit_api.mk (r8.1.toNat:Int) (0:Int) (0:Int) ([]:(List UInt8))).Label:Int),Enc.v ((Unit_api.mk (r8.1.toNat:Int) (0:Int) (0:Int) ([]:(List UInt8))).Number:Int),Enc.v ((Unit_api.mk (r8.1.toNat:Int) (0:Int) (0:Int) ([]:(List UInt8))).Load:(List UInt8))]),(b3,RV 68 [Enc.v ((0:Int):Int),Enc.v ((0:Int):Int),Enc.v ((0:Int):Int),Enc.v (([]:(List UInt8)):(List UInt8))])] rfl nd (dlt rfl) rfl ⟨rfl,⟨rfl,trivial⟩⟩ (ok_code_Reader_Int r8.2.1 r8.2.2 b6 (Nd.take nd 1 rfl) _ hr12) ?_
 rintro _ _ hQ nd
 obtain ⟨rfl,rfl⟩:=hQ
 refine P1 (p_faV fs68_1 Dc rfl nd (j:=1) rfl rfl) rfl rfl ?_
 refine TLc.stV (lu:=Enc.cl (r12.1:Int)) nd ty3 rfl (j:=1) rfl rfl rfl (Cells_v (r12.1:Int)) rfl rfl [Enc.v ((Unit_api.mk (r8.1.toNat:Int) (0:Int) (0:Int) ([]:(List UInt8))).Kind:Int),Enc.v r12.1,Enc.v ((Unit_api.mk (r8.1.toNat:Int) (0:Int) (0:Int) ([]:(List UInt8))).Number:Int),Enc.v ((Unit_api.mk (r8.1.toNat:Int) (0:Int) (0:Int) ([]:(List UInt8))).Load:(List UInt8))] rfl fun nd=>?_
 refine TL.nil (hK11 _ _ (SR fun K14 hK14=>M rfl rfl ?_))
 obtain ⟨r15,hr15,hX⟩:=bind_some hX
 refine TL.tcX [(b6,RV 215 [Enc.v r12.2.1,Enc.v r12.2.2])] [(b10,RV 68 [Enc.v ((Unit_api.mk (r8.1.toNat:Int) (0:Int) (0:Int) ([]:(List UInt8))).Kind:Int),Enc.v r12.1,Enc.v ((Unit_api.mk (r8.1.toNat:Int) (0:Int) (0:Int) ([]:(List UInt8))).Number:Int),Enc.v ((Unit_api.mk (r8.1.toNat:Int) (0:Int) (0:Int) ([]:(List UInt8))).Load:(List UInt8))]),(b3,RV 68 [Enc.v ((0:Int):Int),Enc.v ((0:Int):Int),Enc.v ((0:Int):Int),Enc.v (([]:(List UInt8)):(List UInt8))])] rfl nd (dlt rfl) rfl ⟨rfl,⟨rfl,trivial⟩⟩ (ok_code_Reader_Int r12.2.1 r12.2.2 b6 (Nd.take nd 1 rfl) _ hr15) ?_
 rintro _ _ hQ nd
 obtain ⟨rfl,rfl⟩:=hQ
 refine P1 (p_faV fs68_2 Dc rfl nd (j:=1) rfl rfl) rfl rfl ?_
 refine TLc.stV (lu:=Enc.cl (r15.1:Int)) nd ty3 rfl (j:=1) rfl rfl rfl (Cells_v (r15.1:Int)) rfl rfl [Enc.v ((Unit_api.mk (r8.1.toNat:Int) (0:Int) (0:Int) ([]:(List UInt8))).Kind:Int),Enc.v r12.1,Enc.v r15.1,Enc.v ((Unit_api.mk (r8.1.toNat:Int) (0:Int) (0:Int) ([]:(List UInt8))).Load:(List UInt8))] rfl fun nd=>?_
 refine TL.nil (hK14 _ _ (SR fun K17 hK17=>M rfl rfl ?_))
 obtain ⟨r18,hr18,hX⟩:=bind_some hX
 refine TL.tcX [(b6,RV 215 [Enc.v r15.2.1,Enc.v r15.2.2])] [(b10,RV 68 [Enc.v ((Unit_api.mk (r8.1.toNat:Int) (0:Int) (0:Int) ([]:(List UInt8))).Kind:Int),Enc.v r12.1,Enc.v r15.1,Enc.v ((Unit_api.mk (r8.1.toNat:Int) (0:Int) (0:Int) ([]:(List UInt8))).Load:(List UInt8))]),(b3,RV 68 [Enc.v ((0:Int):Int),Enc.v ((0:Int):Int),Enc.v ((0:Int):Int),Enc.v (([]:(List UInt8)):(List UInt8))])] rfl nd (dlt rfl) rfl ⟨rfl,⟨rfl,trivial⟩⟩ (ok_code_Reader_Byte r15.2.1 r15.2.2 b6 (Nd.take nd 1 rfl) _ hr18) ?_
 rintro _ _ hQ nd
 obtain ⟨rfl,rfl⟩:=hQ
 refine P1 (p_cvt src5 kd3 rfl (cv_8 r18.1)) rfl rfl (P1 (p_shl rfl rfl (fun _=>by omega)) rfl rfl (M rfl rfl ?_))
 obtain ⟨r20,hr20,hX⟩:=bind_some hX
 refine TL.tcX [(b6,RV 215 [Enc.v r18.2.1,Enc.v r18.2.2])] [(b10,RV 68 [Enc.v ((Unit_api.mk (r8.1.toNat:Int) (0:Int) (0:Int) ([]:(List UInt8))).Kind:Int),Enc.v r12.1,Enc.v r15.1,Enc.v ((Unit_api.mk (r8.1.toNat:Int) (0:Int) (0:Int) ([]:(List UInt8))).Load:(List UInt8))]),(b3,RV 68 [Enc.v ((0:Int):Int),Enc.v ((0:Int):Int),Enc.v ((0:Int):Int),Enc.v (([]:(List UInt8)):(List UInt8))])] rfl nd (dlt rfl) rfl ⟨rfl,⟨rfl,trivial⟩⟩ (ok_code_Reader_Byte r18.2.1 r18.2.2 b6 (Nd.take nd 1 rfl) _ hr20) ?_
 rintro _ _ hQ nd
 obtain ⟨rfl,rfl⟩:=hQ
 refine P1 (p_cvt src5 kd3 rfl (cv_8 r20.1)) rfl rfl (P1 (p_or64 rfl rfl) rfl rfl (M rfl rfl (TL.nil (hK17 _ _ (SR fun K22 hK22=>M rfl rfl (M rfl rfl ?_))))))
 obtain ⟨r23,hr23,hX⟩:=bind_some hX
 refine TL.tcX [(b6,RV 215 [Enc.v r20.2.1,Enc.v r20.2.2])] [(b10,RV 68 [Enc.v ((Unit_api.mk (r8.1.toNat:Int) (0:Int) (0:Int) ([]:(List UInt8))).Kind:Int),Enc.v r12.1,Enc.v r15.1,Enc.v ((Unit_api.mk (r8.1.toNat:Int) (0:Int) (0:Int) ([]:(List UInt8))).Load:(List UInt8))]),(b3,RV 68 [Enc.v ((0:Int):Int),Enc.v ((0:Int):Int),Enc.v ((0:Int):Int),Enc.v (([]:(List UInt8)):(List UInt8))])] rfl nd (dlt rfl) rfl ⟨rfl,⟨rfl,⟨rfl,trivial⟩⟩⟩ (ok_code_Reader_Raw (or64 (shl64 (r18.1.toNat:Int) ((8:UInt64).toNat:Int)) (r20.1.toNat:Int)) r20.2.1 r20.2.2 b6 (Nd.take nd 1 rfl) _ hr23) ?_
 rintro _ _ hQ nd
 obtain ⟨rfl,rfl⟩:=hQ
 refine P1 (p_faV fs68_3 Dc rfl nd (j:=1) rfl rfl) rfl rfl ?_
 refine TLc.stV (lu:=Enc.cl (r23.1:(List UInt8))) nd ty25 rfl (j:=1) rfl rfl rfl (Cells_v (r23.1:(List UInt8))) rfl rfl [Enc.v ((Unit_api.mk (r8.1.toNat:Int) (0:Int) (0:Int) ([]:(List UInt8))).Kind:Int),Enc.v r12.1,Enc.v r15.1,Enc.v r23.1] rfl fun nd=>?_
 refine TL.nil (hK22 _ _ ?_)
 refine TK.seq_k fun K25 hK25=>?_
 refine SR fun K26 hK26=>M rfl rfl ?_
 obtain ⟨r27,hr27,hX⟩:=bind_some hX
 refine TL.lookX [.vref (ofL [Enc.v r23.2.1,Enc.v r23.2.2]) 2 0] rfl rfl rfl (fun _=>⟨rfl,⟨rfl,trivial⟩⟩) ⟨look_ref (l:=[Enc.v r23.2.1,Enc.v r23.2.2]) nd (j:=0) rfl ⟨look_v (v:=Enc.v r23.2.1) (v_val _),look_v (v:=Enc.v r23.2.2) (v_val _),trivial⟩,trivial⟩ (fun e=>ok_code_Reader_Bad r23.2.1 r23.2.2 _ hr27) (trivial) ?_
 refine M rfl rfl ?_
 refine TLc.p (gc:=(!r27)) (p_ldVa (l':=Enc.cl ((Unit_api.mk (Unit_api.mk (r8.1.toNat:Int) (0:Int) (0:Int) ([]:(List UInt8))).Kind r12.1 r15.1 r23.1):Unit_api)) ty68 rfl rfl nd (j:=1) rfl rfl rfl rfl (Nat.le_of_ble_eq_true rfl) (hg:=fun e=>rfl)) (gcF1 rfl) rfl ?_
 obtain ⟨r28,hr28,hX⟩:=bind_some hX
 refine TL.cvX (gcF1 rfl) rfl rfl (fun e=>⟨rfl,⟨e,trivial⟩⟩) (fun e=>ok_frame_check (Unit_api.mk (Unit_api.mk (r8.1.toNat:Int) (0:Int) (0:Int) ([]:(List UInt8))).Kind r12.1 r15.1 r23.1) _ (optG_t hr28 e)) ?_
 refine TLc.p (gc:=(!r27)) (p_neq rfl rfl (hg:=fun e=>⟨e,rfl⟩)) (gcF1 rfl) rfl ?_
 refine P1 (p_or rfl rfl (fun e=>⟨rfl,fun h=>(not_t h)⟩)) rfl rfl (M rfl rfl ?_)
 refine TLc.p (gc:=(!((r27||(r28 !=(0:Int)))))) (p_mv rfl (hg:=fun e=>rfl)) (gcF1 rfl) rfl ?_
 refine TLc.p (gc:=(!((r27||(r28 !=(0:Int)))))) (p_ldVa (l':=Enc.cl ((Unit_api.mk (Unit_api.mk (r8.1.toNat:Int) (0:Int) (0:Int) ([]:(List UInt8))).Kind r12.1 r15.1 r23.1):Unit_api)) ty68 rfl rfl nd (j:=1) rfl rfl rfl rfl (Nat.le_of_ble_eq_true rfl) (hg:=fun e=>rfl)) (gcF1 rfl) rfl ?_
 obtain ⟨r29,hr29,hX⟩:=bind_some hX
 refine TL.cvX (gcF1 rfl) rfl rfl (fun e=>⟨rfl,⟨e,trivial⟩⟩) (fun e=>ok_frame_made (Unit_api.mk (Unit_api.mk (r8.1.toNat:Int) (0:Int) (0:Int) ([]:(List UInt8))).Kind r12.1 r15.1 r23.1) _ (optG_t hr29 e)) ?_
 obtain ⟨r30,hr30,hX⟩:=bind_some hX
 refine TL.cvX (gcF1 rfl) rfl rfl (fun e=>⟨rfl,⟨e,⟨e,trivial⟩⟩⟩) (fun e=>ok_slices_Equal_Lbyte_byte b1 r29 _ (optG_t hr30 e)) ?_
 refine TLc.p (gc:=(!((r27||(r28 !=(0:Int)))))) (p_not rfl (hg:=fun e=>e)) (gcF1 rfl) rfl ?_
 refine P1 (p_or rfl rfl (fun e=>⟨rfl,fun h=>(not_t h)⟩)) rfl rfl (TL.nil (hK26 _ _ ?_))
 refine TK.cond (b:=((r27||(r28 !=(0:Int)))||(!r30))) rfl (fun hc=>?_) (fun hc=>?_)
 ·have hX:=ite_t hc hX
  refine SR fun K31 hK31=>?_
  refine TLc.p (gc:=true) (p_bld (l:=[Enc.v ((0:Int):Int),Enc.v ((0:Int):Int),Enc.v ((0:Int):Int),.nils]) ty68 rfl all68 rfl (fun _=>trivial)) rfl rfl (TL.wk (v':=Enc.v ((Unit_api.mk (0:Int) (0:Int) (0:Int) ([]:(List UInt8))):Unit_api)) (Wk_agg ⟨Wk.refl _,Wk.refl _,Wk.refl _,Wk_nil,trivial⟩) ?_)
  refine TLc.stV (lu:=Enc.cl ((Unit_api.mk (0:Int) (0:Int) (0:Int) ([]:(List UInt8))):Unit_api)) nd ty68 rfl (j:=2) rfl rfl rfl (Cells_v ((Unit_api.mk (0:Int) (0:Int) (0:Int) ([]:(List UInt8))):Unit_api)) rfl rfl [Enc.v ((Unit_api.mk (0:Int) (0:Int) (0:Int) ([]:(List UInt8))).Kind:Int),Enc.v ((Unit_api.mk (0:Int) (0:Int) (0:Int) ([]:(List UInt8))).Label:Int),Enc.v ((Unit_api.mk (0:Int) (0:Int) (0:Int) ([]:(List UInt8))).Number:Int),Enc.v ((Unit_api.mk (0:Int) (0:Int) (0:Int) ([]:(List UInt8))).Load:(List UInt8))] rfl fun nd=>?_
  refine M rfl rfl (TL.nil (hK31 _ _ ?_))
  refine TK.ret ?_
  try dsimp only[thenQ]
  exact retC [Enc.v ((Unit_api.mk (0:Int) (0:Int) (0:Int) ([]:(List UInt8))):Unit_api),Enc.v ((2:Int):Int)] ⟨p_ldVa (l':=Enc.cl ((Unit_api.mk (0:Int) (0:Int) (0:Int) ([]:(List UInt8))):Unit_api)) ty68 rfl rfl nd (j:=2) rfl rfl rfl rfl (Nat.le_of_ble_eq_true rfl),p_mv rfl,trivial⟩ (by obtain rfl:=some_in hX;rfl) (tup_val (allVal.mem ⟨v_val _,v_val _,trivial⟩))
 ·have hX:=ite_f hc hX
  refine TK.skip ?_
  refine hK25 _ _ (SR fun K32 hK32=>P1 (p_ldVa (l':=Enc.cl ((Unit_api.mk (Unit_api.mk (r8.1.toNat:Int) (0:Int) (0:Int) ([]:(List UInt8))).Kind r12.1 r15.1 r23.1):Unit_api)) ty68 rfl rfl nd (j:=1) rfl rfl rfl rfl (Nat.le_of_ble_eq_true rfl)) rfl rfl ?_)
  refine TLc.stV (lu:=Enc.cl ((Unit_api.mk (Unit_api.mk (r8.1.toNat:Int) (0:Int) (0:Int) ([]:(List UInt8))).Kind r12.1 r15.1 r23.1):Unit_api)) nd ty68 rfl (j:=2) rfl rfl rfl (Cells_v ((Unit_api.mk (Unit_api.mk (r8.1.toNat:Int) (0:Int) (0:Int) ([]:(List UInt8))).Kind r12.1 r15.1 r23.1):Unit_api)) rfl rfl [Enc.v ((Unit_api.mk (Unit_api.mk (r8.1.toNat:Int) (0:Int) (0:Int) ([]:(List UInt8))).Kind r12.1 r15.1 r23.1).Kind:Int),Enc.v ((Unit_api.mk (Unit_api.mk (r8.1.toNat:Int) (0:Int) (0:Int) ([]:(List UInt8))).Kind r12.1 r15.1 r23.1).Label:Int),Enc.v ((Unit_api.mk (Unit_api.mk (r8.1.toNat:Int) (0:Int) (0:Int) ([]:(List UInt8))).Kind r12.1 r15.1 r23.1).Number:Int),Enc.v ((Unit_api.mk (Unit_api.mk (r8.1.toNat:Int) (0:Int) (0:Int) ([]:(List UInt8))).Kind r12.1 r15.1 r23.1).Load:(List UInt8))] rfl fun nd=>?_
  refine M rfl rfl (TL.nil (hK32 _ _ ?_))
  refine TK.ret ?_
  try dsimp only[thenQ]
  exact retC [Enc.v ((Unit_api.mk (Unit_api.mk (r8.1.toNat:Int) (0:Int) (0:Int) ([]:(List UInt8))).Kind r12.1 r15.1 r23.1):Unit_api),Enc.v ((0:Int):Int)] ⟨p_ldVa (l':=Enc.cl ((Unit_api.mk (Unit_api.mk (r8.1.toNat:Int) (0:Int) (0:Int) ([]:(List UInt8))).Kind r12.1 r15.1 r23.1):Unit_api)) ty68 rfl rfl nd (j:=2) rfl rfl rfl rfl (Nat.le_of_ble_eq_true rfl),p_mv rfl,trivial⟩ (by obtain rfl:=some_in hX;rfl) (tup_val (allVal.mem ⟨v_val _,v_val _,trivial⟩))
theorem bc_volume_Good:BodyC cx 115 48 [.c 4 68,.t 5] k115:=⟨Enters.of Try.func115 (by kernel_rfl) (by kernel_rfl),_,_,Try.func115,rfl,by kernel_rfl,rfl,rfl⟩
theorem ok_volume_Good (t1:Tape_api) (n2:Int) (r:(Unit_api×Bool)) (hX:X.volume_Good t1 n2=some r):Fun Try.prog 115 [Enc.v (t1:Tape_api),Enc.v (n2:Int)] (·= .tup 2 (ofL [Enc.v r.1,Enc.v r.2])):=by
 refine Fun.ofC (C:=cx) bc_volume_Good (Nat.le_of_ble_eq_true rfl) (allVal.mem ⟨(by exact (v_val _)),(by exact (v_val _)),trivial⟩) ?_
 unfold k115
 have nd:Nd []:=Nd_nil
 unfold X.volume_Good at hX
 refine SR fun K3 hK3=>?_
 refine TLc.boxV (lu:=[Enc.v t1.Label,Enc.v t1.Cap,Enc.v t1.Blocks,Enc.v t1.Lost]) nd rfl (Cells_v (t1:Tape_api)) rfl ?_
 refine TLc.alO (l:=[Enc.v ((0:Int):Int),Enc.v ((0:Int):Int),Enc.v ((0:Int):Int),.nils]) nd ty68 ti68_z rfl rfl fun b4 nd=>?_
 refine M rfl rfl (TL.nil (hK3 _ _ ?_))
 refine TK.cvR nd (j:=0) rfl (l':=[Enc.v ((0:Int):Int),Enc.v ((0:Int):Int),Enc.v ((0:Int):Int),Enc.v (([]:(List UInt8)):(List UInt8))]) ⟨Wk.refl _,Wk.refl _,Wk.refl _,Wk_nil,trivial⟩ fun nd=>?_
 refine TK.seq_k fun K5 hK5=>?_
 refine SR fun K6 hK6=>P1 (p_faR fs54_3 Dc rfl) rfl rfl (P1 (p_ldR (v:=Enc.v t1.Lost) ty4 rfl rfl rfl rfl rfl rfl) rfl rfl (M rfl rfl ?_))
 refine TLc.p (gc:=(!(t1.Lost))) (p_mv rfl (hg:=fun e=>rfl)) (gcF1 rfl) rfl ?_
 refine TLc.p (gc:=(!(t1.Lost))) (p_lss rfl rfl (hg:=fun e=>⟨e,rfl⟩)) (gcF1 rfl) rfl ?_
 refine P1 (p_or rfl rfl (fun e=>⟨rfl,fun h=>(not_t h)⟩)) rfl rfl (M rfl rfl ?_)
 refine TLc.p (gc:=(!((t1.Lost||(decide (n2<(0:Int))))))) (p_mv rfl (hg:=fun e=>rfl)) (gcF1 rfl) rfl ?_
 refine TLc.p (gc:=(!((t1.Lost||(decide (n2<(0:Int))))))) (p_faR fs54_2 Dc rfl (hg:=fun e=>rfl)) (gcF1 rfl) rfl ?_
 refine TLc.p (gc:=(!((t1.Lost||(decide (n2<(0:Int))))))) (p_ldR (v:=Enc.v t1.Blocks) ty22 rfl rfl rfl rfl rfl rfl (hg:=fun e=>e)) (gcF1 rfl) rfl ?_
 refine TLc.p (gc:=(!((t1.Lost||(decide (n2<(0:Int))))))) (p_lenL (xs:=t1.Blocks) kd22 rfl (hg:=fun e=>e)) (gcF1 rfl) rfl ?_
 refine TLc.p (gc:=(!((t1.Lost||(decide (n2<(0:Int))))))) (p_geq rfl rfl (hg:=fun e=>⟨e,e⟩)) (gcF1 rfl) rfl ?_
 refine P1 (p_or rfl rfl (fun e=>⟨rfl,fun h=>(not_t h)⟩)) rfl rfl (TL.nil (hK6 _ _ ?_))
 refine TK.cond (b:=((t1.Lost||(decide (n2<(0:Int))))||(decide (n2≥(t1.Blocks.length:Int))))) rfl (fun hc=>?_) (fun hc=>?_)
 ·have hX:=ite_t hc hX
  refine SR fun K7 hK7=>?_
  refine TLc.p (gc:=true) (p_bld (l:=[Enc.v ((0:Int):Int),Enc.v ((0:Int):Int),Enc.v ((0:Int):Int),.nils]) ty68 rfl all68 rfl (fun _=>trivial)) rfl rfl (TL.wk (v':=Enc.v ((Unit_api.mk (0:Int) (0:Int) (0:Int) ([]:(List UInt8))):Unit_api)) (Wk_agg ⟨Wk.refl _,Wk.refl _,Wk.refl _,Wk_nil,trivial⟩) ?_)
  refine TLc.stV (lu:=Enc.cl ((Unit_api.mk (0:Int) (0:Int) (0:Int) ([]:(List UInt8))):Unit_api)) nd ty68 rfl (j:=0) rfl rfl rfl (Cells_v ((Unit_api.mk (0:Int) (0:Int) (0:Int) ([]:(List UInt8))):Unit_api)) rfl rfl [Enc.v ((Unit_api.mk (0:Int) (0:Int) (0:Int) ([]:(List UInt8))).Kind:Int),Enc.v ((Unit_api.mk (0:Int) (0:Int) (0:Int) ([]:(List UInt8))).Label:Int),Enc.v ((Unit_api.mk (0:Int) (0:Int) (0:Int) ([]:(List UInt8))).Number:Int),Enc.v ((Unit_api.mk (0:Int) (0:Int) (0:Int) ([]:(List UInt8))).Load:(List UInt8))] rfl fun nd=>?_
  refine M rfl rfl (TL.nil (hK7 _ _ ?_))
  refine TK.ret ?_
  try dsimp only[thenQ]
  exact retC [Enc.v ((Unit_api.mk (0:Int) (0:Int) (0:Int) ([]:(List UInt8))):Unit_api),Enc.v false] ⟨p_ldVa (l':=Enc.cl ((Unit_api.mk (0:Int) (0:Int) (0:Int) ([]:(List UInt8))):Unit_api)) ty68 rfl rfl nd (j:=0) rfl rfl rfl rfl (Nat.le_of_ble_eq_true rfl),p_mv rfl,trivial⟩ (by obtain rfl:=some_in hX;rfl) (tup_val (allVal.mem ⟨v_val _,v_val _,trivial⟩))
 ·have hX:=ite_f hc hX
  refine TK.skip ?_
  refine hK5 _ _ (SR fun K8 hK8=>P1 (p_faR fs54_2 Dc rfl) rfl rfl (P1 (p_ldR (v:=Enc.v t1.Blocks) ty22 rfl rfl rfl rfl rfl rfl) rfl rfl (M rfl rfl ?_)))
  obtain ⟨e9,he9,hX⟩:=bind_some hX
  refine P1 (p_iaL (xs:=t1.Blocks) kd22 ty25 rfl rfl rfl (fun _=>he9)) rfl rfl (P1 (p_ldE (xs:=t1.Blocks) (a:=e9) (e9:(List UInt8)) ty25 rfl rfl (fun _=>he9) rfl rfl rfl) rfl rfl ?_)
  obtain ⟨r10,hr10,hX⟩:=bind_some hX
  refine TL.cvX rfl rfl rfl (fun _=>⟨rfl,⟨rfl,trivial⟩⟩) (fun e=>ok_frame_Get e9 _ hr10) ?_
  refine M rfl rfl (P1 (p_ex rfl rfl Dc) rfl rfl (P1 (p_ex rfl rfl Dc) rfl rfl ?_))
  refine TLc.alO (l:=[Enc.v ((0:Int):Int),Enc.v ((0:Int):Int),Enc.v ((0:Int):Int),.nils]) nd ty68 ti68_z rfl rfl fun b11 nd=>?_
  refine TLc.stV (lu:=Enc.cl (r10.1:Unit_api)) nd ty68 rfl (j:=0) rfl rfl rfl (Cells_v (r10.1:Unit_api)) rfl rfl [Enc.v r10.1.Kind,Enc.v r10.1.Label,Enc.v r10.1.Number,Enc.v r10.1.Load] rfl fun nd=>?_
  refine M rfl rfl (TL.nil (hK8 _ _ ?_))
  refine TK.seq_k fun K12 hK12=>?_
  refine SR fun K13 hK13=>M rfl rfl (P1 (p_neq rfl rfl) rfl rfl (M rfl rfl ?_))
  refine TLc.p (gc:=(!((r10.2 !=(0:Int))))) (p_faV fs68_1 Dc rfl nd (j:=0) rfl rfl (hg:=fun e=>rfl)) (gcF1 rfl) rfl ?_
  refine TLc.p (gc:=(!((r10.2 !=(0:Int))))) (p_ldV (v:=Enc.v r10.1.Label) ty3 rfl rfl nd (j:=0) rfl rfl rfl rfl rfl (hg:=fun e=>e)) (gcF1 rfl) rfl ?_
  refine TLc.p (gc:=(!((r10.2 !=(0:Int))))) (p_faR fs54_0 Dc rfl (hg:=fun e=>rfl)) (gcF1 rfl) rfl ?_
  refine TLc.p (gc:=(!((r10.2 !=(0:Int))))) (p_ldR (v:=Enc.v t1.Label) ty3 rfl rfl rfl rfl rfl rfl (hg:=fun e=>e)) (gcF1 rfl) rfl ?_
  refine TLc.p (gc:=(!((r10.2 !=(0:Int))))) (p_neq rfl rfl (hg:=fun e=>⟨e,e⟩)) (gcF1 rfl) rfl ?_
  refine P1 (p_or rfl rfl (fun e=>⟨rfl,fun h=>(not_t h)⟩)) rfl rfl (M rfl rfl ?_)
  refine TLc.p (gc:=(!(((r10.2 !=(0:Int))||(r10.1.Label !=t1.Label))))) (p_faV fs68_2 Dc rfl nd (j:=0) rfl rfl (hg:=fun e=>rfl)) (gcF1 rfl) rfl ?_
  refine TLc.p (gc:=(!(((r10.2 !=(0:Int))||(r10.1.Label !=t1.Label))))) (p_ldV (v:=Enc.v r10.1.Number) ty3 rfl rfl nd (j:=0) rfl rfl rfl rfl rfl (hg:=fun e=>e)) (gcF1 rfl) rfl ?_
  refine TLc.p (gc:=(!(((r10.2 !=(0:Int))||(r10.1.Label !=t1.Label))))) (p_mv rfl (hg:=fun e=>rfl)) (gcF1 rfl) rfl ?_
  refine TLc.p (gc:=(!(((r10.2 !=(0:Int))||(r10.1.Label !=t1.Label))))) (p_neq rfl rfl (hg:=fun e=>⟨e,e⟩)) (gcF1 rfl) rfl ?_
  refine P1 (p_or rfl rfl (fun e=>⟨rfl,fun h=>(not_t h)⟩)) rfl rfl (TL.nil (hK13 _ _ ?_))
  refine TK.cond (b:=(((r10.2 !=(0:Int))||(r10.1.Label !=t1.Label))||(r10.1.Number !=n2))) rfl (fun hc=>?_) (fun hc=>?_)
  ·have hX:=ite_t hc hX
   refine SR fun K14 hK14=>?_
   refine TLc.p (gc:=true) (p_bld (l:=[Enc.v ((0:Int):Int),Enc.v ((0:Int):Int),Enc.v ((0:Int):Int),.nils]) ty68 rfl all68 rfl (fun _=>trivial)) rfl rfl (TL.wk (v':=Enc.v ((Unit_api.mk (0:Int) (0:Int) (0:Int) ([]:(List UInt8))):Unit_api)) (Wk_agg ⟨Wk.refl _,Wk.refl _,Wk.refl _,Wk_nil,trivial⟩) ?_)
   refine TLc.stV (lu:=Enc.cl ((Unit_api.mk (0:Int) (0:Int) (0:Int) ([]:(List UInt8))):Unit_api)) nd ty68 rfl (j:=1) rfl rfl rfl (Cells_v ((Unit_api.mk (0:Int) (0:Int) (0:Int) ([]:(List UInt8))):Unit_api)) rfl rfl [Enc.v ((Unit_api.mk (0:Int) (0:Int) (0:Int) ([]:(List UInt8))).Kind:Int),Enc.v ((Unit_api.mk (0:Int) (0:Int) (0:Int) ([]:(List UInt8))).Label:Int),Enc.v ((Unit_api.mk (0:Int) (0:Int) (0:Int) ([]:(List UInt8))).Number:Int),Enc.v ((Unit_api.mk (0:Int) (0:Int) (0:Int) ([]:(List UInt8))).Load:(List UInt8))] rfl fun nd=>?_
   refine M rfl rfl (TL.nil (hK14 _ _ ?_))
   refine TK.ret ?_
   try dsimp only[thenQ]
   exact retC [Enc.v ((Unit_api.mk (0:Int) (0:Int) (0:Int) ([]:(List UInt8))):Unit_api),Enc.v false] ⟨p_ldVa (l':=Enc.cl ((Unit_api.mk (0:Int) (0:Int) (0:Int) ([]:(List UInt8))):Unit_api)) ty68 rfl rfl nd (j:=1) rfl rfl rfl rfl (Nat.le_of_ble_eq_true rfl),p_mv rfl,trivial⟩ (by obtain rfl:=some_in hX;rfl) (tup_val (allVal.mem ⟨v_val _,v_val _,trivial⟩))
  ·have hX:=ite_f hc hX
   refine TK.skip ?_
   refine hK12 _ _ (SR fun K15 hK15=>P1 (p_ldVa (l':=Enc.cl (r10.1:Unit_api)) ty68 rfl rfl nd (j:=0) rfl rfl rfl rfl (Nat.le_of_ble_eq_true rfl)) rfl rfl ?_)
   refine TLc.stV (lu:=Enc.cl (r10.1:Unit_api)) nd ty68 rfl (j:=1) rfl rfl rfl (Cells_v (r10.1:Unit_api)) rfl rfl [Enc.v r10.1.Kind,Enc.v r10.1.Label,Enc.v r10.1.Number,Enc.v r10.1.Load] rfl fun nd=>?_
   refine M rfl rfl (TL.nil (hK15 _ _ ?_))
   refine TK.ret ?_
   try dsimp only[thenQ]
   exact retC [Enc.v r10.1,Enc.v true] ⟨p_ldVa (l':=Enc.cl (r10.1:Unit_api)) ty68 rfl rfl nd (j:=1) rfl rfl rfl rfl (Nat.le_of_ble_eq_true rfl),p_mv rfl,trivial⟩ (by obtain rfl:=some_in hX;rfl) (tup_val (allVal.mem ⟨v_val _,v_val _,trivial⟩))
theorem ok_code_Reader_Left (b1:(List UInt8)) (bad2:Bool) (r:Int) (hX:X.code_Reader_Left b1 bad2=some r):Fun Try.prog 160 [.vref (ofL [Enc.v (b1:(List UInt8)),Enc.v (bad2:Bool)]) 2 0] (·=Enc.v (r:Int)):=by
 refine Fun.of b160 (Nat.le_of_ble_eq_true rfl) (allVal.mem ⟨(by exact (vref_val (l:=[Enc.v (b1:(List UInt8)),Enc.v (bad2:Bool)]) rfl ⟨(v_val _),(v_val _),trivial⟩)),trivial⟩) ?_
 unfold k160
 have nd:Nd []:=Nd_nil
 unfold X.code_Reader_Left at hX
 refine SR fun K3 hK3=>M rfl rfl (TL.nil (hK3 _ _ ?_))
 refine TK.seq_k fun K4 hK4=>?_
 refine SR fun K5 hK5=>M rfl rfl (P1 (p_eqV kd192 rfl rfl) rfl rfl (TL.nil (hK5 _ _ ?_)))
 refine TK.cond (b:=false) rfl (fun hc=>by simp at hc) (fun _=>?_)
 refine TK.skip ?_
 refine hK4 _ _ (SR fun K6 hK6=>M rfl rfl (P1 (p_ncV rfl) rfl rfl (P1 (p_faR fs215_0 Dc rfl) rfl rfl (P1 (p_ldR (v:=Enc.v b1) ty25 rfl rfl rfl rfl rfl rfl) rfl rfl (P1 (p_lenL (xs:=b1) kd25 rfl) rfl rfl (M rfl rfl (TL.nil (hK6 _ _ ?_))))))))
 refine TK.ret ?_
 try dsimp only[thenQ]
 exact R1 rfl hX
theorem bc_record_ReadSeal:BodyC cx 116 47 [.c 2 50,.t 3] k116:=⟨Enters.of Try.func116 (by kernel_rfl) (by kernel_rfl),_,_,Try.func116,rfl,by kernel_rfl,rfl,rfl⟩
theorem ok_record_ReadSeal (b1:(List UInt8)) (r:(Seal_api×Int)) (hX:X.record_ReadSeal b1=some r):Fun Try.prog 116 [Enc.v (b1:(List UInt8))] (·= .tup 2 (ofL [Enc.v r.1,Enc.v r.2])):=by
 refine Fun.ofC (C:=cx) bc_record_ReadSeal (Nat.le_of_ble_eq_true rfl) (allVal.mem ⟨(by exact (v_val _)),trivial⟩) ?_
 unfold k116
 have nd:Nd []:=Nd_nil
 unfold X.record_ReadSeal at hX
 refine SR fun K2 hK2=>?_
 refine TLc.alO (l:=[Enc.v ((0:Int):Int),Enc.v ((0:Int):Int),Enc.v ((0:Int):Int),Enc.v ((0:Int):Int),.nils]) nd ty50 ti50_z rfl rfl fun b3 nd=>?_
 refine M rfl rfl (TL.nil (hK2 _ _ ?_))
 refine TK.ownC (α:=Int) nd (j:=0) rfl 4 3 (.inl rfl) fun b4 nd=>?_
 refine SR fun K5 hK5=>M rfl rfl ?_
 obtain ⟨r6,hr6,hX⟩:=bind_some hX
 refine TL.tcX [] [(b4,RL (α:=Int) 3 ([]:List Int)),(b3,RV 50 [Enc.v ((0:Int):Int),Enc.v ((0:Int):Int),Enc.v ((0:Int):Int),Enc.v ((0:Int):Int),OL (α:=Int) b4 ([]:List Int)])] rfl nd (dlt rfl) rfl ⟨rfl,⟨rfl,trivial⟩⟩ (ok_code_NewReader b1 (Nd.take nd 0 rfl) _ hr6) ?_
 rintro _ _ hQ nd
 obtain ⟨b7,rfl,rfl⟩:=hQ
 refine M rfl rfl (TL.nil (hK5 _ _ (SR fun K8 hK8=>M rfl rfl ?_)))
 obtain ⟨r9,hr9,hX⟩:=bind_some hX
 refine TL.tcX [(b7,RV 215 [Enc.v r6.1,Enc.v r6.2])] [(b4,RL (α:=Int) 3 ([]:List Int)),(b3,RV 50 [Enc.v ((0:Int):Int),Enc.v ((0:Int):Int),Enc.v ((0:Int):Int),Enc.v ((0:Int):Int),OL (α:=Int) b4 ([]:List Int)])] rfl nd (dlt rfl) rfl ⟨rfl,⟨rfl,trivial⟩⟩ (ok_code_Reader_Int r6.1 r6.2 b7 (Nd.take nd 1 rfl) _ hr9) ?_
 rintro _ _ hQ nd
 obtain ⟨rfl,rfl⟩:=hQ
 refine P1 (p_bld (l:=[Enc.v r9.1,Enc.v ((0:Int):Int),Enc.v ((0:Int):Int),Enc.v ((0:Int):Int),.nils]) ty50 rfl all50 rfl (fun _=>⟨⟨rfl,trivial,rfl⟩,trivial⟩)) rfl rfl ?_
 refine TLc.alO (l:=[Enc.v ((0:Int):Int),Enc.v ((0:Int):Int),Enc.v ((0:Int):Int),Enc.v ((0:Int):Int),.nils]) nd ty50 ti50_z rfl rfl fun b11 nd=>?_
 refine TLc.stV (lu:=[Enc.v r9.1,Enc.v ((0:Int):Int),Enc.v ((0:Int):Int),Enc.v ((0:Int):Int),.nils]) nd ty50 rfl (j:=0) rfl rfl rfl (Cells_agg rfl (allA.mem ⟨trivial,trivial,trivial,trivial,trivial,trivial⟩)) rfl rfl [Enc.v r9.1,Enc.v ((0:Int):Int),Enc.v ((0:Int):Int),Enc.v ((0:Int):Int),.nils] rfl fun nd=>?_
 refine TL.nil (hK8 _ _ ?_)
 refine TK.ownC (α:=Int) nd (j:=0) rfl 4 3 (.inl rfl) fun b12 nd=>?_
 refine TK.seq_k fun K13 hK13=>?_
 refine SR fun K14 hK14=>P1 (p_faV fs50_1 Dc rfl nd (j:=1) rfl rfl) rfl rfl (P1 (p_faV fs50_2 Dc rfl nd (j:=1) rfl rfl) rfl rfl (P1 (p_faV fs50_3 Dc rfl nd (j:=1) rfl rfl) rfl rfl ?_))
 refine TLc.litR [.ref b11 1 5,.ref b11 2 5,.ref b11 3 5] kd195 ty194 rfl ⟨⟨rfl,rfl,refOK_of nd (j:=1) rfl rfl⟩,⟨rfl,rfl,refOK_of nd (j:=1) rfl rfl⟩,⟨rfl,rfl,refOK_of nd (j:=1) rfl rfl⟩,trivial⟩ rfl rfl rfl ?_
 refine P1 (p_lenR' kd195 rfl) rfl rfl (M rfl rfl (TL.nil (hK14 _ _ ?_)))
 refine TK.block ?_
 refine TK.unroll 16 ?_
 refine unr_s ?_
 refine SR fun K16 hK16=>P1 (p_lss rfl rfl) rfl rfl (TL.nil (hK16 _ _ ?_))
 refine TK.seq_k fun K17 hK17=>?_
 refine TK.cond (b:=true) rfl (fun _=>?_) (fun hc=>by simp at hc)
 refine TK.skip ?_
 refine hK17 _ _ ?_
 refine TK.seq_k fun K18 hK18=>?_
 refine TK.block ?_
 refine SR fun K19 hK19=>P1 (p_iaR kd195 ty194 rfl rfl rfl Dc Dc) rfl rfl (P1 (p_ldR (v:= .ref b11 1 5) ty194 rfl rfl rfl rfl rfl rfl) rfl rfl (M rfl rfl (TL.nil (hK19 _ _ ?_))))
 refine TK.reg ?_
 refine M rfl rfl (M rfl rfl ?_)
 obtain ⟨r20,hr20,hX⟩:=bind_some hX
 refine TL.pick [2,0,1,3,4] nd Dc fun nd=>?_
 refine TL.tcX [(b7,RV 215 [Enc.v r9.2.1,Enc.v r9.2.2])] [(b12,RL (α:=Int) 3 ([]:List Int)),(b11,RV 50 [Enc.v r9.1,Enc.v ((0:Int):Int),Enc.v ((0:Int):Int),Enc.v ((0:Int):Int),OL (α:=Int) b12 ([]:List Int)]),(b4,RL (α:=Int) 3 ([]:List Int)),(b3,RV 50 [Enc.v ((0:Int):Int),Enc.v ((0:Int):Int),Enc.v ((0:Int):Int),Enc.v ((0:Int):Int),OL (α:=Int) b4 ([]:List Int)])] rfl nd (dlt rfl) rfl ⟨rfl,⟨rfl,trivial⟩⟩ (ok_code_Reader_Byte r9.2.1 r9.2.2 b7 (Nd.take nd 1 rfl) _ hr20) ?_
 rintro _ _ hQ nd
 obtain ⟨rfl,rfl⟩:=hQ
 refine P1 (p_cvt src5 kd3 rfl (cv_8 r20.1)) rfl rfl (P1 (p_ncR rfl (fun _=>refOK_of nd (j:=2) rfl rfl)) rfl rfl ?_)
 refine TLc.stV (lu:=Enc.cl ((r20.1.toNat:Int):Int)) nd ty3 rfl (j:=2) rfl rfl rfl (Cells_v ((r20.1.toNat:Int):Int)) rfl rfl [Enc.v r9.1,Enc.v ((r20.1.toNat:Int):Int),Enc.v ((0:Int):Int),Enc.v ((0:Int):Int),OL (α:=Int) b12 ([]:List Int)] rfl fun nd=>?_
 refine TL.nil (hK18 _ _ ?_)
 refine TK.reg ?_
 refine P1 (p_add rfl rfl) rfl rfl (M rfl rfl (TL.nil ?_))
 try dsimp only[thenQ]
 refine unr_s ?_
 refine SR fun K22 hK22=>P1 (p_lss rfl rfl) rfl rfl (TL.nil (hK22 _ _ ?_))
 refine TK.seq_k fun K23 hK23=>?_
 refine TK.cond (b:=true) rfl (fun _=>?_) (fun hc=>by simp at hc)
 refine TK.skip ?_
 refine hK23 _ _ ?_
 refine TK.seq_k fun K24 hK24=>?_
 refine TK.block ?_
 refine SR fun K25 hK25=>P1 (p_iaR kd195 ty194 rfl rfl rfl Dc Dc) rfl rfl (P1 (p_ldR (v:= .ref b11 2 5) ty194 rfl rfl rfl rfl rfl rfl) rfl rfl (M rfl rfl (TL.nil (hK25 _ _ ?_))))
 refine TK.reg ?_
 refine M rfl rfl (M rfl rfl ?_)
 obtain ⟨r26,hr26,hX⟩:=bind_some hX
 refine TL.tcX [(b7,RV 215 [Enc.v r20.2.1,Enc.v r20.2.2])] [(b12,RL (α:=Int) 3 ([]:List Int)),(b11,RV 50 [Enc.v r9.1,Enc.v ((r20.1.toNat:Int):Int),Enc.v ((0:Int):Int),Enc.v ((0:Int):Int),OL (α:=Int) b12 ([]:List Int)]),(b4,RL (α:=Int) 3 ([]:List Int)),(b3,RV 50 [Enc.v ((0:Int):Int),Enc.v ((0:Int):Int),Enc.v ((0:Int):Int),Enc.v ((0:Int):Int),OL (α:=Int) b4 ([]:List Int)])] rfl nd (dlt rfl) rfl ⟨rfl,⟨rfl,trivial⟩⟩ (ok_code_Reader_Byte r20.2.1 r20.2.2 b7 (Nd.take nd 1 rfl) _ hr26) ?_
 rintro _ _ hQ nd
 obtain ⟨rfl,rfl⟩:=hQ
 refine P1 (p_cvt src5 kd3 rfl (cv_8 r26.1)) rfl rfl (P1 (p_ncR rfl (fun _=>refOK_of nd (j:=2) rfl rfl)) rfl rfl ?_)
 refine TLc.stV (lu:=Enc.cl ((r26.1.toNat:Int):Int)) nd ty3 rfl (j:=2) rfl rfl rfl (Cells_v ((r26.1.toNat:Int):Int)) rfl rfl [Enc.v r9.1,Enc.v ((r20.1.toNat:Int):Int),Enc.v ((r26.1.toNat:Int):Int),Enc.v ((0:Int):Int),OL (α:=Int) b12 ([]:List Int)] rfl fun nd=>?_
 refine TL.nil (hK24 _ _ ?_)
 refine TK.reg ?_
 refine P1 (p_add rfl rfl) rfl rfl (M rfl rfl (TL.nil ?_))
 try dsimp only[thenQ]
 refine unr_s ?_
 refine SR fun K28 hK28=>P1 (p_lss rfl rfl) rfl rfl (TL.nil (hK28 _ _ ?_))
 refine TK.seq_k fun K29 hK29=>?_
 refine TK.cond (b:=true) rfl (fun _=>?_) (fun hc=>by simp at hc)
 refine TK.skip ?_
 refine hK29 _ _ ?_
 refine TK.seq_k fun K30 hK30=>?_
 refine TK.block ?_
 refine SR fun K31 hK31=>P1 (p_iaR kd195 ty194 rfl rfl rfl Dc Dc) rfl rfl (P1 (p_ldR (v:= .ref b11 3 5) ty194 rfl rfl rfl rfl rfl rfl) rfl rfl (M rfl rfl (TL.nil (hK31 _ _ ?_))))
 refine TK.reg ?_
 refine M rfl rfl (M rfl rfl ?_)
 obtain ⟨r32,hr32,hX⟩:=bind_some hX
 refine TL.tcX [(b7,RV 215 [Enc.v r26.2.1,Enc.v r26.2.2])] [(b12,RL (α:=Int) 3 ([]:List Int)),(b11,RV 50 [Enc.v r9.1,Enc.v ((r20.1.toNat:Int):Int),Enc.v ((r26.1.toNat:Int):Int),Enc.v ((0:Int):Int),OL (α:=Int) b12 ([]:List Int)]),(b4,RL (α:=Int) 3 ([]:List Int)),(b3,RV 50 [Enc.v ((0:Int):Int),Enc.v ((0:Int):Int),Enc.v ((0:Int):Int),Enc.v ((0:Int):Int),OL (α:=Int) b4 ([]:List Int)])] rfl nd (dlt rfl) rfl ⟨rfl,⟨rfl,trivial⟩⟩ (ok_code_Reader_Byte r26.2.1 r26.2.2 b7 (Nd.take nd 1 rfl) _ hr32) ?_
 rintro _ _ hQ nd
 obtain ⟨rfl,rfl⟩:=hQ
 refine P1 (p_cvt src5 kd3 rfl (cv_8 r32.1)) rfl rfl (P1 (p_ncR rfl (fun _=>refOK_of nd (j:=2) rfl rfl)) rfl rfl ?_)
 refine TLc.stV (lu:=Enc.cl ((r32.1.toNat:Int):Int)) nd ty3 rfl (j:=2) rfl rfl rfl (Cells_v ((r32.1.toNat:Int):Int)) rfl rfl [Enc.v r9.1,Enc.v ((r20.1.toNat:Int):Int),Enc.v ((r26.1.toNat:Int):Int),Enc.v ((r32.1.toNat:Int):Int),OL (α:=Int) b12 ([]:List Int)] rfl fun nd=>?_
 refine TL.nil (hK30 _ _ ?_)
 refine TK.reg ?_
 refine P1 (p_add rfl rfl) rfl rfl (M rfl rfl (TL.nil ?_))
 try dsimp only[thenQ]
 refine unr_s ?_
 refine SR fun K34 hK34=>P1 (p_lss rfl rfl) rfl rfl (TL.nil (hK34 _ _ ?_))
 refine TK.seq_k fun K35 hK35=>?_
 refine TK.cond (b:=false) rfl (fun hc=>by simp at hc) (fun _=>?_)
 refine TK.exit ?_
 refine hK13 _ _ ?_
 refine TK.seq_k fun K36 hK36=>?_
 refine TK.block ?_
 obtain ⟨o37,hO37,hA37⟩:=bind_some hX
 have E37:∀(c53:(List UInt8)) (c54:Bool) (c56:Int) (c57:Int) (c58:Int) (c59:Int) (l61:List Int) (env:Env) (h:Hp),(∃b51 b50 b52 b60 b55,keepE [2,4,5] env=[(2,true,.ref b50 0 5),(4,true,.ref b52 0 2),(5,true,.ref b55 0 5)]∧Nd [(b51,RL (α:=Int) 3 ([]:List Int)),(b50,RV 50 [Enc.v ((0:Int):Int),Enc.v ((0:Int):Int),Enc.v ((0:Int):Int),Enc.v ((0:Int):Int),OL (α:=Int) b51 ([]:List Int)]),(b52,RV 215 [Enc.v c53,Enc.v c54]),(b60,RL (α:=Int) 3 l61),(b55,RV 50 [Enc.v c56,Enc.v c57,Enc.v c58,Enc.v c59,OL b60 l61])]∧HSub [(b51,RL (α:=Int) 3 ([]:List Int)),(b50,RV 50 [Enc.v ((0:Int):Int),Enc.v ((0:Int):Int),Enc.v ((0:Int):Int),Enc.v ((0:Int):Int),OL (α:=Int) b51 ([]:List Int)]),(b52,RV 215 [Enc.v c53,Enc.v c54]),(b60,RL (α:=Int) 3 l61),(b55,RV 50 [Enc.v c56,Enc.v c57,Enc.v c58,Enc.v c59,OL b60 l61])] h)→X.record_ReadSeal_e37 c53 c54 c56 c57 c58 c59 l61=some r→K36 env h:=by
  intro c53 c54 c56 c57 c58 c59 l61 env h hE hX
  obtain ⟨b51,b50,b52,b60,b55,henv,nd,hs⟩:=hE
  unfold X.record_ReadSeal_e37 at hX
  refine hK36 _ _ (TK.keep [2,4,5] ?_)
  rw[henv]
  refine TK.subH hs ?_
  refine TK.seq_k fun K62 hK62=>?_
  refine SR fun K63 hK63=>M rfl rfl ?_
  obtain ⟨r64,hr64,hX⟩:=bind_some hX
  refine TL.lookX [.vref (ofL [Enc.v c53,Enc.v c54]) 2 0] rfl rfl rfl (fun _=>⟨rfl,⟨rfl,trivial⟩⟩) ⟨look_ref (l:=[Enc.v c53,Enc.v c54]) nd (j:=2) rfl ⟨look_v (v:=Enc.v c53) (v_val _),look_v (v:=Enc.v c54) (v_val _),trivial⟩,trivial⟩ (fun e=>ok_code_Reader_Bad c53 c54 _ hr64) (trivial) ?_
  refine M rfl rfl ?_
  refine TL.layR (l2':=[Enc.v c56,Enc.v c57,Enc.v c58,Enc.v c59,Enc.v l61]) [] nd (j:=3) rfl 4 rfl rfl ⟨fix_id _,fix_id _,fix_id _,fix_id _,fix_OL nd (j:=3) rfl,trivial⟩ trivial fun nd=>?_
  refine TLc.p (gc:=(!r64)) (p_ldVa (l':=Enc.cl ((Seal_api.mk c56 c57 c58 c59 l61):Seal_api)) ty50 rfl rfl nd (j:=3) rfl rfl rfl rfl (Nat.le_of_ble_eq_true rfl) (hg:=fun e=>rfl)) (gcF1 rfl) rfl ?_
  obtain ⟨r65,hr65,hX⟩:=bind_some hX
  refine TL.cvX (gcF1 rfl) rfl rfl (fun e=>⟨rfl,⟨e,trivial⟩⟩) (fun e=>ok_record_RightSeal (Seal_api.mk c56 c57 c58 c59 l61) _ (optG_t hr65 e)) ?_
  refine TLc.p (gc:=(!r64)) (p_not rfl (hg:=fun e=>e)) (gcF1 rfl) rfl ?_
  refine P1 (p_or rfl rfl (fun e=>⟨rfl,fun h=>(not_t h)⟩)) rfl rfl (TL.nil (hK63 _ _ ?_))
  refine TK.cond (b:=(r64||(!r65))) rfl (fun hc=>?_) (fun hc=>?_)
  ·have hX:=ite_t hc hX
   refine SR fun K66 hK66=>P1 (p_bld (l:=[Enc.v ((0:Int):Int),Enc.v ((0:Int):Int),Enc.v ((0:Int):Int),Enc.v ((0:Int):Int),.nils]) ty50 rfl all50 rfl (fun _=>trivial)) rfl rfl ?_
   refine TLc.stV (lu:=[Enc.v ((0:Int):Int),Enc.v ((0:Int):Int),Enc.v ((0:Int):Int),Enc.v ((0:Int):Int),.nils]) nd ty50 rfl (j:=1) rfl rfl rfl (Cells_agg rfl (allA.mem ⟨trivial,trivial,trivial,trivial,trivial,trivial⟩)) rfl rfl [Enc.v ((0:Int):Int),Enc.v ((0:Int):Int),Enc.v ((0:Int):Int),Enc.v ((0:Int):Int),.nils] rfl fun nd=>?_
   refine M rfl rfl (TL.nil (hK66 _ _ ?_))
   refine TK.ownC (α:=Int) nd (j:=1) rfl 4 3 (.inl rfl) fun b67 nd=>?_
   refine TK.layR (l2':=[Enc.v ((0:Int):Int),Enc.v ((0:Int):Int),Enc.v ((0:Int):Int),Enc.v ((0:Int):Int),Enc.v (([]:List Int):(List Int))]) [] nd (j:=0) rfl 2 rfl rfl ⟨fix_id _,fix_id _,fix_id _,fix_id _,fix_OL nd (j:=0) rfl,trivial⟩ trivial fun nd=>?_
   refine TK.ret ?_
   try dsimp only[thenQ]
   exact retC [Enc.v ((Seal_api.mk (0:Int) (0:Int) (0:Int) (0:Int) ([]:List Int)):Seal_api),Enc.v ((2:Int):Int)] ⟨p_ldVa (l':=Enc.cl ((Seal_api.mk (0:Int) (0:Int) (0:Int) (0:Int) ([]:List Int)):Seal_api)) ty50 rfl rfl nd (j:=1) rfl rfl rfl rfl (Nat.le_of_ble_eq_true rfl),p_mv rfl,trivial⟩ (by obtain rfl:=some_in hX;rfl) (tup_val (allVal.mem ⟨v_val _,v_val _,trivial⟩))
  ·have hX:=ite_f hc hX
   refine TK.skip ?_
   refine hK62 _ _ (SR fun K68 hK68=>P1 (p_ldVa (l':=Enc.cl ((Seal_api.mk c56 c57 c58 c59 l61):Seal_api)) ty50 rfl rfl nd (j:=3) rfl rfl rfl rfl (Nat.le_of_ble_eq_true rfl)) rfl rfl ?_)
   refine TLc.stV (lu:=Enc.cl ((Seal_api.mk c56 c57 c58 c59 l61):Seal_api)) nd ty50 rfl (j:=1) rfl rfl rfl (Cells_v ((Seal_api.mk c56 c57 c58 c59 l61):Seal_api)) rfl rfl [Enc.v ((Seal_api.mk c56 c57 c58 c59 l61).Number:Int),Enc.v ((Seal_api.mk c56 c57 c58 c59 l61).Index:Int),Enc.v ((Seal_api.mk c56 c57 c58 c59 l61).Data:Int),Enc.v ((Seal_api.mk c56 c57 c58 c59 l61).Parity:Int),Enc.v ((Seal_api.mk c56 c57 c58 c59 l61).Labels:(List Int))] rfl fun nd=>?_
   refine M rfl rfl (TL.nil (hK68 _ _ ?_))
   refine TK.ret ?_
   try dsimp only[thenQ]
   exact retC [Enc.v ((Seal_api.mk c56 c57 c58 c59 l61):Seal_api),Enc.v ((0:Int):Int)] ⟨p_ldVa (l':=Enc.cl ((Seal_api.mk c56 c57 c58 c59 l61):Seal_api)) ty50 rfl rfl nd (j:=1) rfl rfl rfl rfl (Nat.le_of_ble_eq_true rfl),p_mv rfl,trivial⟩ (by obtain rfl:=some_in hX;rfl) (tup_val (allVal.mem ⟨v_val _,v_val _,trivial⟩))
 refine TK.iter [2,4,5] (fun s env h=>match s with|(c41,c42,c44,c45,c46,c47,l49)=>∃b39 b38 b40 b48 b43,env=[(2,true,.ref b38 0 5),(4,true,.ref b40 0 2),(5,true,.ref b43 0 5)]∧Nd [(b39,RL (α:=Int) 3 ([]:List Int)),(b38,RV 50 [Enc.v ((0:Int):Int),Enc.v ((0:Int):Int),Enc.v ((0:Int):Int),Enc.v ((0:Int):Int),OL (α:=Int) b39 ([]:List Int)]),(b40,RV 215 [Enc.v c41,Enc.v c42]),(b48,RL (α:=Int) 3 l49),(b43,RV 50 [Enc.v c44,Enc.v c45,Enc.v c46,Enc.v c47,OL b48 l49])]∧HSub [(b39,RL (α:=Int) 3 ([]:List Int)),(b38,RV 50 [Enc.v ((0:Int):Int),Enc.v ((0:Int):Int),Enc.v ((0:Int):Int),Enc.v ((0:Int):Int),OL (α:=Int) b39 ([]:List Int)]),(b40,RV 215 [Enc.v c41,Enc.v c42]),(b48,RL (α:=Int) 3 l49),(b43,RV 50 [Enc.v c44,Enc.v c45,Enc.v c46,Enc.v c47,OL b48 l49])] h) hO37 ⟨b4,b3,b7,b12,b11,rfl,(Nd.pick nd (is:=[3,4,0,1,2]) Dc),(HSub.pick nd (is:=[3,4,0,1,2]) Dc)⟩ ?_
 rintro ⟨c41,c42,c44,c45,c46,c47,l49⟩ env h x37x ⟨b39,b38,b40,b48,b43,rfl,nd,hs⟩ hX hR37
 refine TK.subH hs ?_
 unfold X.record_ReadSeal_s37 at hX
 try dsimp only at hX
 refine TK.seq_k fun K69 hK69=>?_
 refine SR fun K70 hK70=>M rfl rfl ?_
 obtain ⟨r71,hr71,hX⟩:=bind_some hX
 refine TL.lookX [.vref (ofL [Enc.v c41,Enc.v c42]) 2 0] rfl rfl rfl (fun _=>⟨rfl,⟨rfl,trivial⟩⟩) ⟨look_ref (l:=[Enc.v c41,Enc.v c42]) nd (j:=2) rfl ⟨look_v (v:=Enc.v c41) (v_val _),look_v (v:=Enc.v c42) (v_val _),trivial⟩,trivial⟩ (fun e=>ok_code_Reader_Left c41 c42 _ hr71) (trivial) ?_
 refine P1 (p_gtr rfl rfl) rfl rfl (TL.nil (hK70 _ _ ?_))
 refine TK.cond (b:=(decide (r71>(0:Int)))) rfl (fun hc=>?_) (fun hc=>?_)
 ·have hX:=ite_t hc hX
  refine TK.skip ?_
  refine hK69 _ _ ?_
  refine TK.block ?_
  refine TK.pick [2,3,0,1,4] nd Dc fun nd=>?_
  have ndS:Nd [(b39,RL (α:=Int) 3 ([]:List Int)),(b38,RV 50 [Enc.v ((0:Int):Int),Enc.v ((0:Int):Int),Enc.v ((0:Int):Int),Enc.v ((0:Int):Int),OL (α:=Int) b39 ([]:List Int)]),(b43,RV 50 [Enc.v c44,Enc.v c45,Enc.v c46,Enc.v c47,OL b48 l49])]:=Nd.pick nd (is:=[2,3,4]) Dc
  refine TK.drwX (h:=[(b40,RV 215 [Enc.v c41,Enc.v c42]),(b48,RL (α:=Int) 3 l49)]) (hS:=[(b39,RL (α:=Int) 3 ([]:List Int)),(b38,RV 50 [Enc.v ((0:Int):Int),Enc.v ((0:Int):Int),Enc.v ((0:Int):Int),Enc.v ((0:Int):Int),OL (α:=Int) b39 ([]:List Int)]),(b43,RV 50 [Enc.v c44,Enc.v c45,Enc.v c46,Enc.v c47,OL b48 l49])]) [(0,0),(0,1),(0,2),(2,3),(0,4),(2,5),(0,6),(3,7)] mixed (by kernel_rfl) (HSub_app nd) ?_
  refine D0 rfl (p_faV fs50_4 Dc rfl ndS (j:=2) rfl rfl) rfl rfl ?_
  refine D0 rfl (p_ldV (v:=OL b48 l49) ty47 rfl rfl ndS (j:=2) rfl rfl rfl rfl rfl) rfl rfl ?_
  refine DM rfl rfl rfl ?_
  obtain ⟨r72,hr72,hX⟩:=bind_some hX
  refine DR2 rfl rfl ?_
  refine TL.tcX [(b40,RV 215 [Enc.v c41,Enc.v c42])] [(b48,RL (α:=Int) 3 l49),(b39,RL (α:=Int) 3 ([]:List Int)),(b38,RV 50 [Enc.v ((0:Int):Int),Enc.v ((0:Int):Int),Enc.v ((0:Int):Int),Enc.v ((0:Int):Int),OL (α:=Int) b39 ([]:List Int)]),(b43,RV 50 [Enc.v c44,Enc.v c45,Enc.v c46,Enc.v c47,OL b48 l49])] rfl nd (dlt rfl) rfl ⟨rfl,⟨rfl,trivial⟩⟩ (ok_code_Reader_Int c41 c42 b40 (Nd.take nd 1 rfl) _ hr72) ?_
  rintro _ _ hQ nd
  obtain ⟨rfl,rfl⟩:=hQ
  refine TL.nil ⟨_,[(b40,RV 215 [Enc.v r72.2.1,Enc.v r72.2.2]),(b48,RL (α:=Int) 3 l49)],rfl,rfl,HSub_app nd,?_⟩
  refine DR0 (gc:=true) rfl (vok_lit (C:=cx) ([r72.1]:List Int) kd47 ty3 rfl ⟨⟨rfl,rfl⟩,trivial⟩ rfl rfl) rfl rfl ?_
  obtain ⟨u74,hu74,hX⟩:=bind_some hX
  refine DR2 rfl rfl ?_
  refine TLc.appO nd kd47 bo47 ty3 rfl rfl (j:=1) rfl rfl (Src_L _) Dc (need_t hu74) rfl fun nd=>?_
  refine TL.nil ⟨_,[(b40,RV 215 [Enc.v r72.2.1,Enc.v r72.2.2]),(b48,RL (α:=Int) 3 (l49++([r72.1]:List Int)))],rfl,rfl,HSub_app nd,?_⟩
  refine D0 rfl (p_faV fs50_4 Dc rfl ndS (j:=2) rfl rfl) rfl rfl ?_
  refine DR3n rfl ?_
  refine TLc.stV (lu:=[OL (α:=Int) b48 (l49++([r72.1]:List Int))]) nd ty47 rfl (j:=4) rfl rfl rfl (Cells_rs (refOK_of nd (j:=1) rfl rfl)) rfl rfl [Enc.v c44,Enc.v c45,Enc.v c46,Enc.v c47,OL (α:=Int) b48 (l49++([r72.1]:List Int))] rfl fun nd=>?_
  refine TL.nil ⟨rfl,?_⟩
  refine DRende ?_
  exact ⟨_,(some_in hX).symm,b39,b38,b40,b48,b43,rfl,(Nd.pick nd (is:=[2,3,0,1,4]) Dc),(HSub.pick nd (is:=[2,3,0,1,4]) Dc)⟩
 ·have hX:=ite_f hc hX
  refine TK.exit ?_
  obtain rfl:=hR37 _ (some_in hX).symm
  exact E37 c41 c42 c44 c45 c46 c47 l49 _ _ ⟨b39,b38,b40,b48,b43,rfl,(Nd.pick nd (is:=[0,1,2,3,4]) Dc),(HSub.pick nd (is:=[0,1,2,3,4]) Dc)⟩ hA37
theorem bc_volume_Sealed:BodyC cx 70 34 [.c 2 50,.t 3] k70:=⟨Enters.of Try.func70 (by kernel_rfl) (by kernel_rfl),_,_,Try.func70,rfl,by kernel_rfl,rfl,rfl⟩
theorem ok_volume_Sealed (t1:Tape_api) (r:(Seal_api×Bool)) (hX:X.volume_Sealed t1=some r):Fun Try.prog 70 [Enc.v (t1:Tape_api)] (·= .tup 2 (ofL [Enc.v r.1,Enc.v r.2])):=by
 refine Fun.ofC (C:=cx) bc_volume_Sealed (Nat.le_of_ble_eq_true rfl) (allVal.mem ⟨(by exact (v_val _)),trivial⟩) ?_
 unfold k70
 have nd:Nd []:=Nd_nil
 unfold X.volume_Sealed at hX
 refine SR fun K2 hK2=>?_
 refine TLc.boxV (lu:=[Enc.v t1.Label,Enc.v t1.Cap,Enc.v t1.Blocks,Enc.v t1.Lost]) nd rfl (Cells_v (t1:Tape_api)) rfl ?_
 refine TLc.alO (l:=[Enc.v ((0:Int):Int),Enc.v ((0:Int):Int),Enc.v ((0:Int):Int),Enc.v ((0:Int):Int),.nils]) nd ty50 ti50_z rfl rfl fun b3 nd=>?_
 refine M rfl rfl (TL.nil (hK2 _ _ ?_))
 refine TK.cvR nd (j:=0) rfl (l':=[Enc.v ((0:Int):Int),Enc.v ((0:Int):Int),Enc.v ((0:Int):Int),Enc.v ((0:Int):Int),Enc.v (([]:(List Int)):(List Int))]) ⟨Wk.refl _,Wk.refl _,Wk.refl _,Wk.refl _,Wk_nil,trivial⟩ fun nd=>?_
 refine SR fun K4 hK4=>P1 (p_ldRa (l':=Enc.cl (t1:Tape_api)) ty54 rfl rfl rfl rfl rfl (Nat.le_of_ble_eq_true rfl)) rfl rfl (P1 (p_faR fs54_2 Dc rfl) rfl rfl (P1 (p_ldR (v:=Enc.v t1.Blocks) ty22 rfl rfl rfl rfl rfl rfl) rfl rfl (P1 (p_lenL (xs:=t1.Blocks) kd22 rfl) rfl rfl (P1 (p_sub rfl rfl) rfl rfl ?_))))
 obtain ⟨r5,hr5,hX⟩:=bind_some hX
 refine TL.cvX rfl rfl rfl (fun _=>⟨rfl,⟨rfl,⟨rfl,trivial⟩⟩⟩) (fun e=>ok_volume_Good t1 (wr ((t1.Blocks.length:Int)-(1:Int))) _ hr5) ?_
 refine M rfl rfl (P1 (p_ex rfl rfl Dc) rfl rfl (P1 (p_ex rfl rfl Dc) rfl rfl ?_))
 refine TLc.alO (l:=[Enc.v ((0:Int):Int),Enc.v ((0:Int):Int),Enc.v ((0:Int):Int),.nils]) nd ty68 ti68_z rfl rfl fun b6 nd=>?_
 refine TLc.stV (lu:=Enc.cl (r5.1:Unit_api)) nd ty68 rfl (j:=0) rfl rfl rfl (Cells_v (r5.1:Unit_api)) rfl rfl [Enc.v r5.1.Kind,Enc.v r5.1.Label,Enc.v r5.1.Number,Enc.v r5.1.Load] rfl fun nd=>?_
 refine M rfl rfl (TL.nil (hK4 _ _ ?_))
 refine TK.seq_k fun K7 hK7=>?_
 refine SR fun K8 hK8=>M rfl rfl (P1 (p_not rfl) rfl rfl (M rfl rfl ?_))
 refine TLc.p (gc:=(!((!r5.2)))) (p_faV fs68_0 Dc rfl nd (j:=0) rfl rfl (hg:=fun e=>rfl)) (gcF1 rfl) rfl ?_
 refine TLc.p (gc:=(!((!r5.2)))) (p_ldV (v:=Enc.v r5.1.Kind) ty3 rfl rfl nd (j:=0) rfl rfl rfl rfl rfl (hg:=fun e=>e)) (gcF1 rfl) rfl ?_
 refine TLc.p (gc:=(!((!r5.2)))) (p_neq rfl rfl (hg:=fun e=>⟨e,rfl⟩)) (gcF1 rfl) rfl ?_
 refine P1 (p_or rfl rfl (fun e=>⟨rfl,fun h=>(not_t h)⟩)) rfl rfl (TL.nil (hK8 _ _ ?_))
 refine TK.cond (b:=((!r5.2)||(r5.1.Kind !=(5:Int)))) rfl (fun hc=>?_) (fun hc=>?_)
 ·have hX:=ite_t hc hX
  refine SR fun K9 hK9=>?_
  refine TLc.p (gc:=true) (p_bld (l:=[Enc.v ((0:Int):Int),Enc.v ((0:Int):Int),Enc.v ((0:Int):Int),Enc.v ((0:Int):Int),.nils]) ty50 rfl all50 rfl (fun _=>trivial)) rfl rfl (TL.wk (v':=Enc.v ((Seal_api.mk (0:Int) (0:Int) (0:Int) (0:Int) ([]:(List Int))):Seal_api)) (Wk_agg ⟨Wk.refl _,Wk.refl _,Wk.refl _,Wk.refl _,Wk_nil,trivial⟩) ?_)
  refine TLc.stV (lu:=Enc.cl ((Seal_api.mk (0:Int) (0:Int) (0:Int) (0:Int) ([]:(List Int))):Seal_api)) nd ty50 rfl (j:=1) rfl rfl rfl (Cells_v ((Seal_api.mk (0:Int) (0:Int) (0:Int) (0:Int) ([]:(List Int))):Seal_api)) rfl rfl [Enc.v ((Seal_api.mk (0:Int) (0:Int) (0:Int) (0:Int) ([]:(List Int))).Number:Int),Enc.v ((Seal_api.mk (0:Int) (0:Int) (0:Int) (0:Int) ([]:(List Int))).Index:Int),Enc.v ((Seal_api.mk (0:Int) (0:Int) (0:Int) (0:Int) ([]:(List Int))).Data:Int),Enc.v ((Seal_api.mk (0:Int) (0:Int) (0:Int) (0:Int) ([]:(List Int))).Parity:Int),Enc.v ((Seal_api.mk (0:Int) (0:Int) (0:Int) (0:Int) ([]:(List Int))).Labels:(List Int))] rfl fun nd=>?_
  refine M rfl rfl (TL.nil (hK9 _ _ ?_))
  refine TK.ret ?_
  try dsimp only[thenQ]
  exact retC [Enc.v ((Seal_api.mk (0:Int) (0:Int) (0:Int) (0:Int) ([]:(List Int))):Seal_api),Enc.v false] ⟨p_ldVa (l':=Enc.cl ((Seal_api.mk (0:Int) (0:Int) (0:Int) (0:Int) ([]:(List Int))):Seal_api)) ty50 rfl rfl nd (j:=1) rfl rfl rfl rfl (Nat.le_of_ble_eq_true rfl),p_mv rfl,trivial⟩ (by obtain rfl:=some_in hX;rfl) (tup_val (allVal.mem ⟨v_val _,v_val _,trivial⟩))
 ·have hX:=ite_f hc hX
  refine TK.skip ?_
  refine hK7 _ _ (SR fun K10 hK10=>P1 (p_faV fs68_3 Dc rfl nd (j:=0) rfl rfl) rfl rfl (P1 (p_ldV (v:=Enc.v r5.1.Load) ty25 rfl rfl nd (j:=0) rfl rfl rfl rfl rfl) rfl rfl ?_))
  obtain ⟨r11,hr11,hX⟩:=bind_some hX
  refine TL.cvX rfl rfl rfl (fun _=>⟨rfl,⟨rfl,trivial⟩⟩) (fun e=>ok_record_ReadSeal r5.1.Load _ hr11) ?_
  refine M rfl rfl (P1 (p_ex rfl rfl Dc) rfl rfl (P1 (p_ex rfl rfl Dc) rfl rfl ?_))
  refine TLc.alO (l:=[Enc.v ((0:Int):Int),Enc.v ((0:Int):Int),Enc.v ((0:Int):Int),Enc.v ((0:Int):Int),.nils]) nd ty50 ti50_z rfl rfl fun b12 nd=>?_
  refine TLc.stV (lu:=Enc.cl (r11.1:Seal_api)) nd ty50 rfl (j:=0) rfl rfl rfl (Cells_v (r11.1:Seal_api)) rfl rfl [Enc.v r11.1.Number,Enc.v r11.1.Index,Enc.v r11.1.Data,Enc.v r11.1.Parity,Enc.v r11.1.Labels] rfl fun nd=>?_
  refine M rfl rfl (TL.nil (hK10 _ _ (SR fun K13 hK13=>P1 (p_ldVa (l':=Enc.cl (r11.1:Seal_api)) ty50 rfl rfl nd (j:=0) rfl rfl rfl rfl (Nat.le_of_ble_eq_true rfl)) rfl rfl (M rfl rfl (P1 (p_eql rfl rfl) rfl rfl ?_)))))
  refine TLc.stV (lu:=Enc.cl (r11.1:Seal_api)) nd ty50 rfl (j:=2) rfl rfl rfl (Cells_v (r11.1:Seal_api)) rfl rfl [Enc.v r11.1.Number,Enc.v r11.1.Index,Enc.v r11.1.Data,Enc.v r11.1.Parity,Enc.v r11.1.Labels] rfl fun nd=>?_
  refine M rfl rfl (TL.nil (hK13 _ _ ?_))
  refine TK.ret ?_
  try dsimp only[thenQ]
  exact retC [Enc.v r11.1,Enc.v ((r11.2==(0:Int)):Bool)] ⟨p_ldVa (l':=Enc.cl (r11.1:Seal_api)) ty50 rfl rfl nd (j:=2) rfl rfl rfl rfl (Nat.le_of_ble_eq_true rfl),p_mv rfl,trivial⟩ (by obtain rfl:=some_in hX;rfl) (tup_val (allVal.mem ⟨v_val _,v_val _,trivial⟩))
theorem ok_mend_rows (l1:(List Tape_api)) (s2:Seal_api) (r:(Int×Bool)) (hX:X.mend_rows l1 s2=some r):Fun Try.prog 55 [Enc.v (l1:(List Tape_api)),Enc.v (s2:Seal_api)] (·= .tup 2 (ofL [Enc.v r.1,Enc.v r.2])):=by
 refine Fun.of b55 (Nat.le_of_ble_eq_true rfl) (allVal.mem ⟨(by exact (v_val _)),(by exact (v_val _)),trivial⟩) ?_
 unfold k55
 have nd:Nd []:=Nd_nil
 unfold X.mend_rows at hX
 refine SR fun K3 hK3=>?_
 refine TLc.boxV (lu:=[Enc.v s2.Number,Enc.v s2.Index,Enc.v s2.Data,Enc.v s2.Parity,Enc.v s2.Labels]) nd rfl (Cells_v (s2:Seal_api)) rfl ?_
 refine M rfl rfl (M rfl rfl (TL.nil (hK3 _ _ ?_)))
 refine TK.seq_k fun K4 hK4=>?_
 refine SR fun K5 hK5=>P1 (p_faR fs50_4 Dc rfl) rfl rfl (P1 (p_ldR (v:=Enc.v s2.Labels) ty47 rfl rfl rfl rfl rfl rfl) rfl rfl (P1 (p_faR fs50_2 Dc rfl) rfl rfl (P1 (p_ldR (v:=Enc.v s2.Data) ty3 rfl rfl rfl rfl rfl rfl) rfl rfl ?_)))
 obtain ⟨u6,hu6,hX⟩:=bind_some hX
 refine P1 (p_sliL (xs:=s2.Labels) (l:=s2.Data) (k:=(s2.Labels.length:Int)) kd47 ty3 rfl rfl rfl rfl (fun e=>need_t hu6)) rfl rfl (P1 (p_lenL (xs:=(slc s2.Labels s2.Data (s2.Labels.length:Int))) kd47 rfl) rfl rfl (M rfl rfl (TL.nil (hK5 _ _ ?_))))
 refine TK.block ?_
 obtain ⟨o7,hO7,hA7⟩:=bind_some hX
 have E7:∀(env:Env) (h:Hp),(∃_u:Unit,keepE [] env=[]∧Nd []∧HSub [] h)→X.mend_rows_e7=some r→K4 env h:=by
  intro env h hE hX
  obtain ⟨_u,henv,nd,hs⟩:=hE
  unfold X.mend_rows_e7 at hX
  refine hK4 _ _ (TK.keep [] ?_)
  rw[henv]
  refine TK.subH hs ?_
  refine SR fun K9 hK9=>M rfl rfl (M rfl rfl (TL.nil (hK9 _ _ ?_)))
  refine TK.ret ?_
  try dsimp only[thenQ]
  exact retN (vs:=[Enc.v ((0:Int):Int),Enc.v false]) ⟨rfl,rfl,trivial⟩ (by obtain rfl:=some_in hX;rfl) (allVal.mem ⟨v_val _,v_val _,trivial⟩)
 refine TK.iter [0,16,17,18] (fun s env h=>match s with|x8=>∃_u:Unit,env=[(0,true,Enc.v l1),(16,true,Enc.v ((slc s2.Labels s2.Data (s2.Labels.length:Int)):(List Int))),(17,true,Enc.v (((slc s2.Labels s2.Data (s2.Labels.length:Int)).length:Int):Int)),(18,true,Enc.v x8)]∧Nd []∧HSub [] h) hO7 ⟨(),rfl,Nd_nil,HSub.refl _⟩ ?_
 rintro x8 env h x7x ⟨_u,rfl,nd,hs⟩ hX hR7
 refine TK.subH hs ?_
 unfold X.mend_rows_s7 at hX
 try dsimp only at hX
 refine SR fun K10 hK10=>P1 (p_lss rfl rfl) rfl rfl (TL.nil (hK10 _ _ ?_))
 refine TK.seq_k fun K11 hK11=>?_
 refine TK.cond (b:=(decide (x8<((slc s2.Labels s2.Data (s2.Labels.length:Int)).length:Int)))) rfl (fun hc=>?_) (fun hc=>?_)
 ·have hX:=ite_t hc hX
  refine TK.skip ?_
  refine hK11 _ _ ?_
  refine TK.seq_k fun K12 hK12=>?_
  refine TK.block ?_
  refine SR fun K13 hK13=>?_
  obtain ⟨e14,he14,hX⟩:=bind_some hX
  refine P1 (p_iaL (xs:=(slc s2.Labels s2.Data (s2.Labels.length:Int))) kd47 ty3 rfl rfl rfl (fun _=>he14)) rfl rfl (P1 (p_ldE (xs:=(slc s2.Labels s2.Data (s2.Labels.length:Int))) (a:=e14) (e14:Int) ty3 rfl rfl (fun _=>he14) rfl rfl rfl) rfl rfl (M rfl rfl (TL.nil (hK13 _ _ (SR fun K15 hK15=>M rfl rfl (M rfl rfl ?_))))))
  obtain ⟨r16,hr16,hX⟩:=bind_some hX
  refine TL.cvX rfl rfl rfl (fun _=>⟨rfl,⟨rfl,⟨rfl,trivial⟩⟩⟩) (fun e=>ok_mend_member l1 e14 _ hr16) ?_
  refine TLc.alO (l:=[Enc.v ((0:Int):Int),Enc.v ((0:Int):Int),.nils,Enc.v false]) nd ty54 ti54_z rfl rfl fun b17 nd=>?_
  refine TLc.stV (lu:=Enc.cl (r16:Tape_api)) nd ty54 rfl (j:=0) rfl rfl rfl (Cells_v (r16:Tape_api)) rfl rfl [Enc.v r16.Label,Enc.v r16.Cap,Enc.v r16.Blocks,Enc.v r16.Lost] rfl fun nd=>?_
  refine TL.nil (hK15 _ _ (SR fun K18 hK18=>P1 (p_ldVa (l':=Enc.cl (r16:Tape_api)) ty54 rfl rfl nd (j:=0) rfl rfl rfl rfl (Nat.le_of_ble_eq_true rfl)) rfl rfl ?_))
  obtain ⟨r19,hr19,hX⟩:=bind_some hX
  refine TL.cvX rfl rfl rfl (fun _=>⟨rfl,⟨rfl,trivial⟩⟩) (fun e=>ok_volume_Sealed r16 _ hr19) ?_
  refine M rfl rfl (P1 (p_ex rfl rfl Dc) rfl rfl (P1 (p_ex rfl rfl Dc) rfl rfl ?_))
  refine TLc.alO (l:=[Enc.v ((0:Int):Int),Enc.v ((0:Int):Int),Enc.v ((0:Int):Int),Enc.v ((0:Int):Int),.nils]) nd ty50 ti50_z rfl rfl fun b20 nd=>?_
  refine TLc.stV (lu:=Enc.cl (r19.1:Seal_api)) nd ty50 rfl (j:=0) rfl rfl rfl (Cells_v (r19.1:Seal_api)) rfl rfl [Enc.v r19.1.Number,Enc.v r19.1.Index,Enc.v r19.1.Data,Enc.v r19.1.Parity,Enc.v r19.1.Labels] rfl fun nd=>?_
  refine M rfl rfl (TL.nil (hK18 _ _ (SR fun K21 hK21=>M rfl rfl (TL.nil (hK21 _ _ ?_)))))
  refine TK.cond (b:=r19.2) rfl (fun hc=>?_) (fun hc=>?_)
  ·have hX:=ite_t hc hX
   refine SR fun K22 hK22=>P1 (p_faV fs54_2 Dc rfl nd (j:=1) rfl rfl) rfl rfl (P1 (p_ldV (v:=Enc.v r16.Blocks) ty22 rfl rfl nd (j:=1) rfl rfl rfl rfl rfl) rfl rfl (P1 (p_lenL (xs:=r16.Blocks) kd22 rfl) rfl rfl (P1 (p_sub rfl rfl) rfl rfl (M rfl rfl (TL.nil (hK22 _ _ (SR fun K23 hK23=>M rfl rfl (M rfl rfl (P1 (p_geq rfl rfl) rfl rfl (M rfl rfl (M rfl rfl (TL.nil (hK23 _ _ ?_)))))))))))))
   refine TK.ret ?_
   obtain rfl:=hR7 _ (some_in hX).symm
   replace hX:=hA7
   try dsimp only[thenQ]
   exact retN (vs:=[Enc.v ((wr ((r16.Blocks.length:Int)-(2:Int))):Int),Enc.v ((decide ((wr ((r16.Blocks.length:Int)-(2:Int)))≥(0:Int))):Bool)]) ⟨rfl,rfl,trivial⟩ (by obtain rfl:=some_in hX;rfl) (allVal.mem ⟨v_val _,v_val _,trivial⟩)
  ·have hX:=ite_f hc hX
   refine TK.skip ?_
   refine hK12 _ _ ?_
   refine TK.reg ?_
   refine P1 (p_add rfl rfl) rfl rfl (M rfl rfl (TL.nil ?_))
   exact ⟨_,(some_in hX).symm,(),rfl,(Nd.pick nd (is:=[]) Dc),(HSub.pick nd (is:=[]) Dc)⟩
 ·have hX:=ite_f hc hX
  refine TK.exit ?_
  obtain rfl:=hR7 _ (some_in hX).symm
  exact E7 _ _ ⟨(),rfl,Nd_nil,HSub.refl _⟩ hA7
theorem ok_mend_ofData (t1:Tape_api) (n2:Int) (r:(List UInt8)) (hX:X.mend_ofData t1 n2=some r):Fun Try.prog 100 [Enc.v (t1:Tape_api),Enc.v (n2:Int)] (·=Enc.v (r:(List UInt8))):=by
 refine Fun.of b100 (Nat.le_of_ble_eq_true rfl) (allVal.mem ⟨(by exact (v_val _)),(by exact (v_val _)),trivial⟩) ?_
 unfold k100
 have nd:Nd []:=Nd_nil
 unfold X.mend_ofData at hX
 refine SR fun K3 hK3=>?_
 refine TLc.boxV (lu:=[Enc.v t1.Label,Enc.v t1.Cap,Enc.v t1.Blocks,Enc.v t1.Lost]) nd rfl (Cells_v (t1:Tape_api)) rfl ?_
 refine M rfl rfl (TL.nil (hK3 _ _ ?_))
 refine TK.seq_k fun K4 hK4=>?_
 refine SR fun K5 hK5=>P1 (p_faR fs54_3 Dc rfl) rfl rfl (P1 (p_ldR (v:=Enc.v t1.Lost) ty4 rfl rfl rfl rfl rfl rfl) rfl rfl (P1 (p_not rfl) rfl rfl (M rfl rfl ?_)))
 refine TLc.p (gc:=((!t1.Lost))) (p_mv rfl (hg:=fun e=>rfl)) (gcT1 rfl) rfl ?_
 refine TLc.p (gc:=((!t1.Lost))) (p_faR fs54_2 Dc rfl (hg:=fun e=>rfl)) (gcT1 rfl) rfl ?_
 refine TLc.p (gc:=((!t1.Lost))) (p_ldR (v:=Enc.v t1.Blocks) ty22 rfl rfl rfl rfl rfl rfl (hg:=fun e=>e)) (gcT1 rfl) rfl ?_
 refine TLc.p (gc:=((!t1.Lost))) (p_lenL (xs:=t1.Blocks) kd22 rfl (hg:=fun e=>e)) (gcT1 rfl) rfl ?_
 refine TLc.p (gc:=((!t1.Lost))) (p_geq rfl rfl (hg:=fun e=>⟨e,e⟩)) (gcT1 rfl) rfl ?_
 refine P1 (p_and rfl rfl (fun e=>⟨rfl,fun h=>h⟩)) rfl rfl (TL.nil (hK5 _ _ ?_))
 refine TK.cond (b:=((!t1.Lost)&&(decide (n2≥(t1.Blocks.length:Int))))) rfl (fun hc=>?_) (fun hc=>?_)
 ·have hX:=ite_t hc hX
  refine SR fun K6 hK6=>?_
  obtain ⟨u7,hu7,hX⟩:=bind_some hX
  refine TLc.mkV nd (0:UInt8) kd25 ty5 rfl (fun j hj=>by (have:j=0:=by simpa[Enc.sz] using hj);subst this;rfl) rfl rfl Dc (need_t hu7) rfl ?_
  refine M rfl rfl (TL.nil (hK6 _ _ ?_))
  refine TK.ret ?_
  try dsimp only[thenQ]
  exact R1 rfl hX
 ·have hX:=ite_f hc hX
  refine TK.skip ?_
  refine hK4 _ _ ?_
  refine TK.seq_k fun K8 hK8=>?_
  refine SR fun K9 hK9=>P1 (p_ldRa (l':=Enc.cl (t1:Tape_api)) ty54 rfl rfl rfl rfl rfl (Nat.le_of_ble_eq_true rfl)) rfl rfl (M rfl rfl ?_)
  obtain ⟨r10,hr10,hX⟩:=bind_some hX
  refine TL.cvX rfl rfl rfl (fun _=>⟨rfl,⟨rfl,⟨rfl,trivial⟩⟩⟩) (fun e=>ok_volume_Good t1 n2 _ hr10) ?_
  refine M rfl rfl (P1 (p_ex rfl rfl Dc) rfl rfl (P1 (p_ex rfl rfl Dc) rfl rfl ?_))
  refine TLc.alO (l:=[Enc.v ((0:Int):Int),Enc.v ((0:Int):Int),Enc.v ((0:Int):Int),.nils]) nd ty68 ti68_z rfl rfl fun b11 nd=>?_
  refine TLc.stV (lu:=Enc.cl (r10.1:Unit_api)) nd ty68 rfl (j:=0) rfl rfl rfl (Cells_v (r10.1:Unit_api)) rfl rfl [Enc.v r10.1.Kind,Enc.v r10.1.Label,Enc.v r10.1.Number,Enc.v r10.1.Load] rfl fun nd=>?_
  refine M rfl rfl (TL.nil (hK9 _ _ (SR fun K12 hK12=>M rfl rfl (P1 (p_not rfl) rfl rfl (M rfl rfl ?_)))))
  refine TLc.p (gc:=(!((!r10.2)))) (p_faR fs54_2 Dc rfl (hg:=fun e=>rfl)) (gcF1 rfl) rfl ?_
  refine TLc.p (gc:=(!((!r10.2)))) (p_ldR (v:=Enc.v t1.Blocks) ty22 rfl rfl rfl rfl rfl rfl (hg:=fun e=>e)) (gcF1 rfl) rfl ?_
  refine TLc.p (gc:=(!((!r10.2)))) (p_mv rfl (hg:=fun e=>rfl)) (gcF1 rfl) rfl ?_
  obtain ⟨e13,he13,hX⟩:=bind_some hX
  refine TLc.p (gc:=(!((!r10.2)))) (p_iaL (xs:=t1.Blocks) kd22 ty25 rfl rfl rfl (fun e=>optG_t he13 e) (hg:=fun e=>⟨e,e⟩)) (gcF1 rfl) rfl ?_
  refine TLc.p (gc:=(!((!r10.2)))) (p_ldE (xs:=t1.Blocks) (a:=e13) (e13:(List UInt8)) ty25 rfl rfl (fun e=>optG_t he13 e) rfl rfl rfl (hg:=fun e=>e)) (gcF1 rfl) rfl ?_
  refine TLc.p (gc:=(!((!r10.2)))) (p_lenL (xs:=e13) kd25 rfl (hg:=fun e=>e)) (gcF1 rfl) rfl ?_
  refine TLc.p (gc:=(!((!r10.2)))) (p_neq rfl rfl (hg:=fun e=>⟨e,rfl⟩)) (gcF1 rfl) rfl ?_
  refine P1 (p_or rfl rfl (fun e=>⟨rfl,fun h=>(not_t h)⟩)) rfl rfl (TL.nil (hK12 _ _ ?_))
  refine TK.cond (b:=((!r10.2)||((e13.length:Int) !=(79:Int)))) rfl (fun hc=>?_) (fun hc=>?_)
  ·have hX:=ite_t hc hX
   refine SR fun K14 hK14=>M rfl rfl (TL.nil (hK14 _ _ ?_))
   refine TK.wk 4 (L ([]:(List UInt8))) rfl Wk_nil ?_
   refine TK.ret ?_
   try dsimp only[thenQ]
   exact R1 rfl hX
  ·have hX:=ite_f hc hX
   refine TK.skip ?_
   refine hK8 _ _ (SR fun K15 hK15=>P1 (p_faR fs54_2 Dc rfl) rfl rfl (P1 (p_ldR (v:=Enc.v t1.Blocks) ty22 rfl rfl rfl rfl rfl rfl) rfl rfl (M rfl rfl ?_)))
   obtain ⟨e16,he16,hX⟩:=bind_some hX
   refine P1 (p_iaL (xs:=t1.Blocks) kd22 ty25 rfl rfl rfl (fun _=>he16)) rfl rfl (P1 (p_ldE (xs:=t1.Blocks) (a:=e16) (e16:(List UInt8)) ty25 rfl rfl (fun _=>he16) rfl rfl rfl) rfl rfl (M rfl rfl (TL.nil (hK15 _ _ ?_))))
   refine TK.ret ?_
   try dsimp only[thenQ]
   exact R1 rfl hX
theorem ok_mend_ofParity (t1:Tape_api) (n2:Int) (r:(List UInt8)) (hX:X.mend_ofParity t1 n2=some r):Fun Try.prog 101 [Enc.v (t1:Tape_api),Enc.v (n2:Int)] (·=Enc.v (r:(List UInt8))):=by
 refine Fun.of b101 (Nat.le_of_ble_eq_true rfl) (allVal.mem ⟨(by exact (v_val _)),(by exact (v_val _)),trivial⟩) ?_
 unfold k101
 have nd:Nd []:=Nd_nil
 unfold X.mend_ofParity at hX
 refine SR fun K3 hK3=>?_
 refine TLc.boxV (lu:=[Enc.v t1.Label,Enc.v t1.Cap,Enc.v t1.Blocks,Enc.v t1.Lost]) nd rfl (Cells_v (t1:Tape_api)) rfl ?_
 refine M rfl rfl (TL.nil (hK3 _ _ (SR fun K4 hK4=>P1 (p_ldRa (l':=Enc.cl (t1:Tape_api)) ty54 rfl rfl rfl rfl rfl (Nat.le_of_ble_eq_true rfl)) rfl rfl (M rfl rfl (P1 (p_add rfl rfl) rfl rfl ?_)))))
 obtain ⟨r5,hr5,hX⟩:=bind_some hX
 refine TL.cvX rfl rfl rfl (fun _=>⟨rfl,⟨rfl,⟨rfl,trivial⟩⟩⟩) (fun e=>ok_volume_Good t1 (wr (n2+(1:Int))) _ hr5) ?_
 refine M rfl rfl (P1 (p_ex rfl rfl Dc) rfl rfl (P1 (p_ex rfl rfl Dc) rfl rfl ?_))
 refine TLc.alO (l:=[Enc.v ((0:Int):Int),Enc.v ((0:Int):Int),Enc.v ((0:Int):Int),.nils]) nd ty68 ti68_z rfl rfl fun b6 nd=>?_
 refine TLc.stV (lu:=Enc.cl (r5.1:Unit_api)) nd ty68 rfl (j:=0) rfl rfl rfl (Cells_v (r5.1:Unit_api)) rfl rfl [Enc.v r5.1.Kind,Enc.v r5.1.Label,Enc.v r5.1.Number,Enc.v r5.1.Load] rfl fun nd=>?_
 refine M rfl rfl (TL.nil (hK4 _ _ ?_))
 refine TK.seq_k fun K7 hK7=>?_
 refine SR fun K8 hK8=>M rfl rfl (P1 (p_not rfl) rfl rfl (M rfl rfl ?_))
 refine TLc.p (gc:=(!((!r5.2)))) (p_faV fs68_0 Dc rfl nd (j:=0) rfl rfl (hg:=fun e=>rfl)) (gcF1 rfl) rfl ?_
 refine TLc.p (gc:=(!((!r5.2)))) (p_ldV (v:=Enc.v r5.1.Kind) ty3 rfl rfl nd (j:=0) rfl rfl rfl rfl rfl (hg:=fun e=>e)) (gcF1 rfl) rfl ?_
 refine TLc.p (gc:=(!((!r5.2)))) (p_neq rfl rfl (hg:=fun e=>⟨e,rfl⟩)) (gcF1 rfl) rfl ?_
 refine P1 (p_or rfl rfl (fun e=>⟨rfl,fun h=>(not_t h)⟩)) rfl rfl (M rfl rfl ?_)
 refine TLc.p (gc:=(!(((!r5.2)||(r5.1.Kind !=(6:Int)))))) (p_faV fs68_3 Dc rfl nd (j:=0) rfl rfl (hg:=fun e=>rfl)) (gcF1 rfl) rfl ?_
 refine TLc.p (gc:=(!(((!r5.2)||(r5.1.Kind !=(6:Int)))))) (p_ldV (v:=Enc.v r5.1.Load) ty25 rfl rfl nd (j:=0) rfl rfl rfl rfl rfl (hg:=fun e=>e)) (gcF1 rfl) rfl ?_
 refine TLc.p (gc:=(!(((!r5.2)||(r5.1.Kind !=(6:Int)))))) (p_lenL (xs:=r5.1.Load) kd25 rfl (hg:=fun e=>e)) (gcF1 rfl) rfl ?_
 refine TLc.p (gc:=(!(((!r5.2)||(r5.1.Kind !=(6:Int)))))) (p_neq rfl rfl (hg:=fun e=>⟨e,rfl⟩)) (gcF1 rfl) rfl ?_
 refine P1 (p_or rfl rfl (fun e=>⟨rfl,fun h=>(not_t h)⟩)) rfl rfl (TL.nil (hK8 _ _ ?_))
 refine TK.cond (b:=(((!r5.2)||(r5.1.Kind !=(6:Int)))||((r5.1.Load.length:Int) !=(79:Int)))) rfl (fun hc=>?_) (fun hc=>?_)
 ·have hX:=ite_t hc hX
  refine SR fun K9 hK9=>M rfl rfl (TL.nil (hK9 _ _ ?_))
  refine TK.wk 4 (L ([]:(List UInt8))) rfl Wk_nil ?_
  refine TK.ret ?_
  try dsimp only[thenQ]
  exact R1 rfl hX
 ·have hX:=ite_f hc hX
  refine TK.skip ?_
  refine hK7 _ _ (SR fun K10 hK10=>P1 (p_faV fs68_3 Dc rfl nd (j:=0) rfl rfl) rfl rfl (P1 (p_ldV (v:=Enc.v r5.1.Load) ty25 rfl rfl nd (j:=0) rfl rfl rfl rfl rfl) rfl rfl (M rfl rfl (TL.nil (hK10 _ _ ?_)))))
  refine TK.ret ?_
  try dsimp only[thenQ]
  exact R1 rfl hX
theorem ok_mend_row (l1:(List Tape_api)) (s2:Seal_api) (n3:Int) (r:(List (List UInt8))) (hX:X.mend_row l1 s2 n3=some r):Fun Try.prog 60 [Enc.v (l1:(List Tape_api)),Enc.v (s2:Seal_api),Enc.v (n3:Int)] (·=Enc.v (r:(List (List UInt8)))):=by
 refine Fun.of b60 (Nat.le_of_ble_eq_true rfl) (allVal.mem ⟨(by exact (v_val _)),(by exact (v_val _)),(by exact (v_val _)),trivial⟩) ?_
 unfold k60
 have nd:Nd []:=Nd_nil
 unfold X.mend_row at hX
 refine SR fun K4 hK4=>?_
 refine TLc.boxV (lu:=[Enc.v s2.Number,Enc.v s2.Index,Enc.v s2.Data,Enc.v s2.Parity,Enc.v s2.Labels]) nd rfl (Cells_v (s2:Seal_api)) rfl ?_
 refine M rfl rfl (TL.nil (hK4 _ _ (SR fun K5 hK5=>M rfl rfl (TL.nil (hK5 _ _ ?_)))))
 refine TK.ownL (α:=(List UInt8)) 7 25 nd rfl (.inl rfl) fun b6 nd=>?_
 refine TK.seq_k fun K7 hK7=>?_
 refine SR fun K8 hK8=>P1 (p_faR fs50_4 Dc rfl) rfl rfl (P1 (p_ldR (v:=Enc.v s2.Labels) ty47 rfl rfl rfl rfl rfl rfl) rfl rfl (P1 (p_lenL (xs:=s2.Labels) kd47 rfl) rfl rfl (M rfl rfl (TL.nil (hK8 _ _ ?_)))))
 refine TK.block ?_
 obtain ⟨o9,hO9,hA9⟩:=bind_some hX
 have E9:∀(l14:List (List UInt8)) (env:Env) (h:Hp),(∃b13,keepE [7] env=[(7,true,OL b13 l14)]∧Nd [(b13,RL (α:=(List UInt8)) 25 l14)]∧HSub [(b13,RL (α:=(List UInt8)) 25 l14)] h)→X.mend_row_e9 l14=some r→K7 env h:=by
  intro l14 env h hE hX
  obtain ⟨b13,henv,nd,hs⟩:=hE
  unfold X.mend_row_e9 at hX
  refine hK7 _ _ (TK.keep [7] ?_)
  rw[henv]
  refine TK.subH hs ?_
  refine SR fun K15 hK15=>M rfl rfl (M rfl rfl (TL.nil (hK15 _ _ ?_)))
  refine TK.lay [(6,L l14)] nd (j:=0) rfl ⟨⟨_,rfl,fix_OL nd (j:=0) rfl,rfl⟩,trivial⟩ fun nd=>?_
  refine TK.ret ?_
  try dsimp only[thenQ]
  exact R1 rfl hX
 refine TK.iter [0,2,4,7,12,13,14] (fun s env h=>match s with|(out11,x12)=>∃b10,env=[(0,true,Enc.v l1),(2,true,Enc.v n3),(4,true,.vref (ofL [Enc.v s2.Number,Enc.v s2.Index,Enc.v s2.Data,Enc.v s2.Parity,Enc.v s2.Labels]) 5 0),(7,true,OL b10 out11),(12,true,Enc.v s2.Labels),(13,true,Enc.v ((s2.Labels.length:Int):Int)),(14,true,Enc.v x12)]∧Nd [(b10,RL (α:=(List UInt8)) 25 out11)]∧HSub [(b10,RL (α:=(List UInt8)) 25 out11)] h) hO9 ⟨b6,rfl,(Nd.pick nd (is:=[0]) Dc),(HSub.pick nd (is:=[0]) Dc)⟩ ?_
 rintro ⟨out11,x12⟩ env h x9x ⟨b10,rfl,nd,hs⟩ hX hR9
 refine TK.subH hs ?_
 unfold X.mend_row_s9 at hX
 try dsimp only at hX
 refine SR fun K16 hK16=>P1 (p_lss rfl rfl) rfl rfl (TL.nil (hK16 _ _ ?_))
 refine TK.seq_k fun K17 hK17=>?_
 refine TK.cond (b:=(decide (x12<(s2.Labels.length:Int)))) rfl (fun hc=>?_) (fun hc=>?_)
 ·have hX:=ite_t hc hX
  refine TK.skip ?_
  refine hK17 _ _ ?_
  refine TK.seq_k fun K18 hK18=>?_
  refine TK.block ?_
  refine SR fun K19 hK19=>M rfl rfl ?_
  obtain ⟨e20,he20,hX⟩:=bind_some hX
  refine P1 (p_iaL (xs:=s2.Labels) kd47 ty3 rfl rfl rfl (fun _=>he20)) rfl rfl (P1 (p_ldE (xs:=s2.Labels) (a:=e20) (e20:Int) ty3 rfl rfl (fun _=>he20) rfl rfl rfl) rfl rfl (M rfl rfl (M rfl rfl (TL.nil (hK19 _ _ (SR fun K21 hK21=>M rfl rfl (M rfl rfl ?_)))))))
  obtain ⟨r22,hr22,hX⟩:=bind_some hX
  refine TL.cvX rfl rfl rfl (fun _=>⟨rfl,⟨rfl,⟨rfl,trivial⟩⟩⟩) (fun e=>ok_mend_member l1 e20 _ hr22) ?_
  refine TLc.alO (l:=[Enc.v ((0:Int):Int),Enc.v ((0:Int):Int),.nils,Enc.v false]) nd ty54 ti54_z rfl rfl fun b23 nd=>?_
  refine TLc.stV (lu:=Enc.cl (r22:Tape_api)) nd ty54 rfl (j:=0) rfl rfl rfl (Cells_v (r22:Tape_api)) rfl rfl [Enc.v r22.Label,Enc.v r22.Cap,Enc.v r22.Blocks,Enc.v r22.Lost] rfl fun nd=>?_
  refine TL.nil (hK21 _ _ (SR fun K24 hK24=>M rfl rfl (P1 (p_faR fs50_2 Dc rfl) rfl rfl (P1 (p_ldR (v:=Enc.v s2.Data) ty3 rfl rfl rfl rfl rfl rfl) rfl rfl (P1 (p_lss rfl rfl) rfl rfl (TL.nil (hK24 _ _ ?_)))))))
  refine TK.cond (b:=(decide (x12<s2.Data))) rfl (fun hc=>?_) (fun hc=>?_)
  ·have hX:=ite_t hc hX
   refine TK.reg ?_
   refine M rfl rfl (P1 (p_ldVa (l':=Enc.cl (r22:Tape_api)) ty54 rfl rfl nd (j:=0) rfl rfl rfl rfl (Nat.le_of_ble_eq_true rfl)) rfl rfl (M rfl rfl ?_))
   obtain ⟨r25,hr25,hX⟩:=bind_some hX
   refine TL.cvX rfl rfl rfl (fun _=>⟨rfl,⟨rfl,⟨rfl,trivial⟩⟩⟩) (fun e=>ok_mend_ofData r22 n3 _ hr25) ?_
   refine TLc.lit ([r25]:List (List UInt8)) kd22 ty25 rfl ⟨⟨rfl,rfl⟩,trivial⟩ rfl rfl rfl ?_
   obtain ⟨u26,hu26,hX⟩:=bind_some hX
   refine TLc.appO nd kd22 bo22 ty25 rfl rfl (j:=1) rfl rfl (Src_L _) Dc (need_t hu26) rfl fun nd=>?_
   refine M rfl rfl (TL.nil (hK18 _ _ ?_))
   refine TK.reg ?_
   refine P1 (p_add rfl rfl) rfl rfl (M rfl rfl (TL.nil ?_))
   exact ⟨_,(some_in hX).symm,b10,rfl,(Nd.pick nd (is:=[1]) Dc),(HSub.pick nd (is:=[1]) Dc)⟩
  ·have hX:=ite_f hc hX
   refine TK.reg ?_
   refine M rfl rfl (P1 (p_ldVa (l':=Enc.cl (r22:Tape_api)) ty54 rfl rfl nd (j:=0) rfl rfl rfl rfl (Nat.le_of_ble_eq_true rfl)) rfl rfl (M rfl rfl ?_))
   obtain ⟨r27,hr27,hX⟩:=bind_some hX
   refine TL.cvX rfl rfl rfl (fun _=>⟨rfl,⟨rfl,⟨rfl,trivial⟩⟩⟩) (fun e=>ok_mend_ofParity r22 n3 _ hr27) ?_
   refine TLc.lit ([r27]:List (List UInt8)) kd22 ty25 rfl ⟨⟨rfl,rfl⟩,trivial⟩ rfl rfl rfl ?_
   obtain ⟨u28,hu28,hX⟩:=bind_some hX
   refine TLc.appO nd kd22 bo22 ty25 rfl rfl (j:=1) rfl rfl (Src_L _) Dc (need_t hu28) rfl fun nd=>?_
   refine M rfl rfl (TL.nil (hK18 _ _ ?_))
   refine TK.reg ?_
   refine P1 (p_add rfl rfl) rfl rfl (M rfl rfl (TL.nil ?_))
   exact ⟨_,(some_in hX).symm,b10,rfl,(Nd.pick nd (is:=[1]) Dc),(HSub.pick nd (is:=[1]) Dc)⟩
 ·have hX:=ite_f hc hX
  refine TK.exit ?_
  obtain rfl:=hR9 _ (some_in hX).symm
  exact E9 out11 _ _ ⟨b10,rfl,(Nd.pick nd (is:=[0]) Dc),(HSub.pick nd (is:=[0]) Dc)⟩ hA9
theorem ok_slices_IndexFunc_LLbyte_Lbyte (s1:(List (List UInt8))) (g2:(List UInt8)→Option Bool) (r:Int) (hX:X.slices_IndexFunc_LLbyte_Lbyte s1 g2=some r) {g2V:AV} (hg2V:∃f m c,g2V= .fn f m c∧(∀i,i<m→(c i).val)∧∀(a0:(List UInt8)) r,g2 a0=some r→Fun Try.prog f ([Enc.v a0]++(List.range m).map c) (·=Enc.v r)):Fun Try.prog 122 [Enc.v (s1:(List (List UInt8))),g2V] (·=Enc.v (r:Int)):=by
 obtain ⟨g2f,g2m,g2c,rfl,hg2v,hg2⟩:=hg2V
 refine Fun.of b122 (Nat.le_of_ble_eq_true rfl) (allVal.mem ⟨(by exact (v_val _)),hg2v,trivial⟩) ?_
 unfold k122
 have nd:Nd []:=Nd_nil
 unfold X.slices_IndexFunc_LLbyte_Lbyte at hX
 refine SR fun K3 hK3=>M rfl rfl (TL.nil (hK3 _ _ ?_))
 refine TK.seq_k fun K4 hK4=>?_
 refine SR fun K5 hK5=>M rfl rfl (P1 (p_lenL (xs:=s1) kd22 rfl) rfl rfl (M rfl rfl (TL.nil (hK5 _ _ ?_))))
 refine TK.block ?_
 obtain ⟨o6,hO6,hA6⟩:=bind_some hX
 have E6:∀(env:Env) (h:Hp),(∃_u:Unit,keepE [] env=[]∧Nd []∧HSub [] h)→X.slices_IndexFunc_LLbyte_Lbyte_e6=some r→K4 env h:=by
  intro env h hE hX
  obtain ⟨_u,henv,nd,hs⟩:=hE
  unfold X.slices_IndexFunc_LLbyte_Lbyte_e6 at hX
  refine hK4 _ _ (TK.keep [] ?_)
  rw[henv]
  refine TK.subH hs ?_
  refine SR fun K8 hK8=>M rfl rfl (TL.nil (hK8 _ _ ?_))
  refine TK.ret ?_
  try dsimp only[thenQ]
  exact R1 rfl hX
 refine TK.iter [0,1,7,8] (fun s env h=>match s with|x7=>∃_u:Unit,env=[(0,true,Enc.v s1),(1,true,.fn g2f g2m g2c),(7,true,Enc.v ((s1.length:Int):Int)),(8,true,Enc.v x7)]∧Nd []∧HSub [] h) hO6 ⟨(),rfl,Nd_nil,HSub.refl _⟩ ?_
 rintro x7 env h x6x ⟨_u,rfl,nd,hs⟩ hX hR6
 refine TK.subH hs ?_
 unfold X.slices_IndexFunc_LLbyte_Lbyte_s6 at hX
 try dsimp only at hX
 refine SR fun K9 hK9=>P1 (p_lss rfl rfl) rfl rfl (TL.nil (hK9 _ _ ?_))
 refine TK.seq_k fun K10 hK10=>?_
 refine TK.cond (b:=(decide (x7<(s1.length:Int)))) rfl (fun hc=>?_) (fun hc=>?_)
 ·have hX:=ite_t hc hX
  refine TK.skip ?_
  refine hK10 _ _ ?_
  refine TK.seq_k fun K11 hK11=>?_
  refine TK.block ?_
  refine SR fun K12 hK12=>M rfl rfl (M rfl rfl (TL.nil (hK12 _ _ (SR fun K13 hK13=>M rfl rfl (M rfl rfl (M rfl rfl ?_))))))
  obtain ⟨e14,he14,hX⟩:=bind_some hX
  refine P1 (p_iaL (xs:=s1) kd22 ty25 rfl rfl rfl (fun _=>he14)) rfl rfl (P1 (p_ldE (xs:=s1) (a:=e14) (e14:(List UInt8)) ty25 rfl rfl (fun _=>he14) rfl rfl rfl) rfl rfl ?_)
  obtain ⟨r15,hr15,hX⟩:=bind_some hX
  refine TL.cvX rfl rfl rfl (fun _=>⟨rfl,⟨rfl,trivial⟩⟩) (fun e=>hg2 e14 _ hr15) ?_
  refine TL.nil (hK13 _ _ ?_)
  refine TK.cond (b:=r15) rfl (fun hc=>?_) (fun hc=>?_)
  ·have hX:=ite_t hc hX
   refine SR fun K16 hK16=>M rfl rfl (M rfl rfl (TL.nil (hK16 _ _ ?_)))
   refine TK.ret ?_
   obtain rfl:=hR6 _ (some_in hX).symm
   replace hX:=hA6
   try dsimp only[thenQ]
   exact R1 rfl hX
  ·have hX:=ite_f hc hX
   refine TK.skip ?_
   refine hK11 _ _ ?_
   refine TK.reg ?_
   refine P1 (p_add rfl rfl) rfl rfl (M rfl rfl (TL.nil ?_))
   exact ⟨_,(some_in hX).symm,(),rfl,Nd_nil,HSub.refl _⟩
 ·have hX:=ite_f hc hX
  refine TK.exit ?_
  obtain rfl:=hR6 _ (some_in hX).symm
  exact E6 _ _ ⟨(),rfl,Nd_nil,HSub.refl _⟩ hA6
theorem ok_slices_ContainsFunc_LLbyte_Lbyte (s1:(List (List UInt8))) (g2:(List UInt8)→Option Bool) (r:Bool) (hX:X.slices_ContainsFunc_LLbyte_Lbyte s1 g2=some r) {g2V:AV} (hg2V:∃f m c,g2V= .fn f m c∧(∀i,i<m→(c i).val)∧∀(a0:(List UInt8)) r,g2 a0=some r→Fun Try.prog f ([Enc.v a0]++(List.range m).map c) (·=Enc.v r)):Fun Try.prog 80 [Enc.v (s1:(List (List UInt8))),g2V] (·=Enc.v (r:Bool)):=by
 obtain ⟨g2f,g2m,g2c,rfl,hg2v,hg2⟩:=hg2V
 refine Fun.of b80 (Nat.le_of_ble_eq_true rfl) (allVal.mem ⟨(by exact (v_val _)),hg2v,trivial⟩) ?_
 unfold k80
 have nd:Nd []:=Nd_nil
 unfold X.slices_ContainsFunc_LLbyte_Lbyte at hX
 refine SR fun K3 hK3=>M rfl rfl (TL.nil (hK3 _ _ (SR fun K4 hK4=>M rfl rfl (M rfl rfl ?_))))
 obtain ⟨r5,hr5,hX⟩:=bind_some hX
 refine TL.cvX rfl rfl rfl (fun _=>⟨rfl,⟨rfl,⟨rfl,trivial⟩⟩⟩) (fun e=>ok_slices_IndexFunc_LLbyte_Lbyte s1 g2 _ hr5 ⟨_,_,_,rfl,hg2v,hg2⟩) ?_
 refine P1 (p_geq rfl rfl) rfl rfl (M rfl rfl (TL.nil (hK4 _ _ ?_)))
 refine TK.ret ?_
 try dsimp only[thenQ]
 exact R1 rfl hX
theorem ok_erasure_alike_c1 (r1:(List UInt8)) (c2:(List (List UInt8))) (r:Bool) (hX:X.erasure_alike_c1 r1 c2=some r):Fun Try.prog 81 [Enc.v (r1:(List UInt8)),.vref (ofL [Enc.v (c2:(List (List UInt8)))]) 1 0] (·=Enc.v (r:Bool)):=by
 refine Fun.of b81 (Nat.le_of_ble_eq_true rfl) (allVal.mem ⟨(by exact (v_val _)),(by exact (vref_val (l:=[Enc.v (c2:(List (List UInt8)))]) rfl ⟨(v_val _),trivial⟩)),trivial⟩) ?_
 unfold k81
 have nd:Nd []:=Nd_nil
 unfold X.erasure_alike_c1 at hX
 refine SR fun K3 hK3=>M rfl rfl (TL.nil (hK3 _ _ (SR fun K4 hK4=>M rfl rfl (P1 (p_lenL (xs:=r1) kd25 rfl) rfl rfl (P1 (p_ldR (v:=Enc.v c2) ty22 rfl rfl rfl rfl rfl rfl) rfl rfl ?_)))))
 obtain ⟨e5,he5,hX⟩:=bind_some hX
 refine P1 (p_iaL (xs:=c2) kd22 ty25 rfl rfl rfl (fun _=>he5)) rfl rfl (P1 (p_ldE (xs:=c2) (a:=e5) (e5:(List UInt8)) ty25 rfl rfl (fun _=>he5) rfl rfl rfl) rfl rfl (P1 (p_lenL (xs:=e5) kd25 rfl) rfl rfl (P1 (p_neq rfl rfl) rfl rfl (M rfl rfl (TL.nil (hK4 _ _ ?_))))))
 refine TK.ret ?_
 try dsimp only[thenQ]
 exact R1 rfl hX
theorem ok_erasure_alike (l1:(List (List UInt8))) (r:Bool) (hX:X.erasure_alike l1=some r):Fun Try.prog 43 [Enc.v (l1:(List (List UInt8)))] (·=Enc.v (r:Bool)):=by
 refine Fun.of b43 (Nat.le_of_ble_eq_true rfl) (allVal.mem ⟨(by exact (v_val _)),trivial⟩) ?_
 unfold k43
 have nd:Nd []:=Nd_nil
 unfold X.erasure_alike at hX
 refine SR fun K2 hK2=>?_
 refine TLc.boxV (lu:=[Enc.v l1]) nd rfl (Cells_v (l1:(List (List UInt8)))) rfl ?_
 refine M rfl rfl (TL.nil (hK2 _ _ (SR fun K3 hK3=>P1 (p_ldR (v:=Enc.v l1) ty22 rfl rfl rfl rfl rfl rfl) rfl rfl (P1 (p_mf (l:=[.vref (ofL [Enc.v l1]) 1 0]) rfl (fun _=>⟨rfl,trivial⟩)) rfl rfl ?_))))
 obtain ⟨r4,hr4,hX⟩:=bind_some hX
 refine TL.cvX rfl rfl rfl (fun _=>⟨rfl,⟨rfl,⟨rfl,trivial⟩⟩⟩) (fun e=>ok_slices_ContainsFunc_LLbyte_Lbyte l1 (fun a1=>X.erasure_alike_c1 a1 l1) _ hr4 ⟨81,1,ofL [.vref (ofL [Enc.v l1]) 1 0],rfl,(caps_val rfl ⟨(vref_val (l:=[Enc.v l1]) rfl ⟨(v_val _),trivial⟩),trivial⟩),fun a1 r hr=>ok_erasure_alike_c1 a1 l1 r hr⟩) ?_
 refine P1 (p_not rfl) rfl rfl (M rfl rfl (TL.nil (hK3 _ _ ?_)))
 refine TK.ret ?_
 try dsimp only[thenQ]
 exact R1 rfl hX
theorem ok_gf_Add (a1:UInt8) (b2:UInt8) (r:UInt8) (hX:X.gf_Add a1 b2=some r):Fun Try.prog 83 [Enc.v (a1:UInt8),Enc.v (b2:UInt8)] (·=Enc.v (r:UInt8)):=by
 refine Fun.of b83 (Nat.le_of_ble_eq_true rfl) (allVal.mem ⟨(by exact (v_val _)),(by exact (v_val _)),trivial⟩) ?_
 unfold k83
 have nd:Nd []:=Nd_nil
 unfold X.gf_Add at hX
 refine SR fun K3 hK3=>M rfl rfl (TL.nil (hK3 _ _ (SR fun K4 hK4=>M rfl rfl (M rfl rfl (P1 (p8_xor (a:=a1) (b:=b2) rfl rfl) rfl rfl (M rfl rfl (TL.nil (hK4 _ _ ?_))))))))
 refine TK.ret ?_
 try dsimp only[thenQ]
 exact R1 rfl hX
theorem ok_gf_Mul (a1:UInt8) (b2:UInt8) (r:UInt8) (hX:X.gf_Mul a1 b2=some r):Fun Try.prog 172 [Enc.v (a1:UInt8),Enc.v (b2:UInt8)] (·=Enc.v (r:UInt8)):=by
 refine Fun.of b172 (Nat.le_of_ble_eq_true rfl) (allVal.mem ⟨(by exact (v_val _)),(by exact (v_val _)),trivial⟩) ?_
 unfold k172
 have nd:Nd []:=Nd_nil
 unfold X.gf_Mul at hX
 refine SR fun K3 hK3=>M rfl rfl (TL.nil (hK3 _ _ (SR fun K4 hK4=>M rfl rfl (TL.nil (hK4 _ _ ?_)))))
 refine TK.seq_k fun K5 hK5=>?_
 refine TK.block ?_
 obtain ⟨o6,hO6,hA6⟩:=bind_some hX
 have E6:∀(out10:UInt8) (env:Env) (h:Hp),(∃_u:Unit,keepE [5] env=[(5,true,Enc.v out10)]∧Nd []∧HSub [] h)→X.gf_Mul_e6 out10=some r→K5 env h:=by
  intro out10 env h hE hX
  obtain ⟨_u,henv,nd,hs⟩:=hE
  unfold X.gf_Mul_e6 at hX
  refine hK5 _ _ (TK.keep [5] ?_)
  rw[henv]
  refine TK.subH hs ?_
  refine SR fun K11 hK11=>M rfl rfl (M rfl rfl (TL.nil (hK11 _ _ ?_)))
  refine TK.ret ?_
  try dsimp only[thenQ]
  exact R1 rfl hX
 refine TK.iter [0,1,5] (fun s env h=>match s with|(a7,b8,out9)=>∃_u:Unit,env=[(0,true,Enc.v a7),(1,true,Enc.v b8),(5,true,Enc.v out9)]∧Nd []∧HSub [] h) hO6 ⟨(),rfl,Nd_nil,HSub.refl _⟩ ?_
 rintro ⟨a7,b8,out9⟩ env h x6x ⟨_u,rfl,nd,hs⟩ hX hR6
 refine TK.subH hs ?_
 unfold X.gf_Mul_s6 at hX
 try dsimp only at hX
 refine TK.seq_k fun K12 hK12=>?_
 refine SR fun K13 hK13=>M rfl rfl (P1 (p8_neq (a:=b8) (b:=(0:UInt8)) rfl rfl) rfl rfl (TL.nil (hK13 _ _ ?_)))
 refine TK.cond (b:=(b8 !=(0:UInt8))) rfl (fun hc=>?_) (fun hc=>?_)
 ·have hX:=ite_t hc hX
  refine TK.skip ?_
  refine hK12 _ _ ?_
  refine TK.seq_k fun K14 hK14=>?_
  have J14:∀(a15:UInt8) (out16:UInt8) (env:Env) (h:Hp),(∃_u:Unit,keepE [0,1,5] env=[(0,true,Enc.v a15),(1,true,Enc.v b8),(5,true,Enc.v out16)]∧Nd []∧HSub [] h)→X.gf_Mul_j14 b8 a15 out16=some x6x→K14 env h:=by
   intro a15 out16 env h hE hX
   obtain ⟨_u,henv,nd,hs⟩:=hE
   unfold X.gf_Mul_j14 at hX
   refine hK14 _ _ (TK.keep [0,1,5] ?_)
   rw[henv]
   refine TK.subH hs ?_
   refine TK.reg ?_
   refine M rfl rfl (P1 (p8_shr (a:=b8) (b:=1) rfl rfl) rfl rfl (M rfl rfl (TL.nil ?_)))
   exact ⟨_,(some_in hX).symm,(),rfl,Nd_nil,HSub.refl _⟩
  refine TK.block ?_
  refine TK.seq_k fun K17 hK17=>?_
  have J17:∀(out18:UInt8) (env:Env) (h:Hp),(∃_u:Unit,keepE [0,1,5] env=[(0,true,Enc.v a7),(1,true,Enc.v b8),(5,true,Enc.v out18)]∧Nd []∧HSub [] h)→X.gf_Mul_j17 a7 b8 out18=some x6x→K17 env h:=by
   intro out18 env h hE hX
   obtain ⟨_u,henv,nd,hs⟩:=hE
   unfold X.gf_Mul_j17 at hX
   refine hK17 _ _ (TK.keep [0,1,5] ?_)
   rw[henv]
   refine TK.subH hs ?_
   refine SR fun K19 hK19=>M rfl rfl (P1 (p8_and (a:=a7) (b:=(128:UInt8)) rfl rfl) rfl rfl (P1 (p8_neq (a:=(a7&&&(128:UInt8))) (b:=(0:UInt8)) rfl rfl) rfl rfl (M rfl rfl (TL.nil (hK19 _ _ (SR fun K20 hK20=>M rfl rfl (P1 (p8_shl (a:=a7) (b:=1) rfl rfl) rfl rfl (M rfl rfl (TL.nil (hK20 _ _ (SR fun K21 hK21=>M rfl rfl (TL.nil (hK21 _ _ ?_)))))))))))))
   refine TK.cond (b:=((a7&&&(128:UInt8)) !=(0:UInt8))) rfl (fun hc=>?_) (fun hc=>?_)
   ·have hX:=ite_t hc hX
    refine TK.reg ?_
    refine M rfl rfl (P1 (p8_xor (a:=(shl8 a7 1)) (b:=(29:UInt8)) rfl rfl) rfl rfl (M rfl rfl (TL.nil ?_)))
    exact J14 ((shl8 a7 1)^^^(29:UInt8)) out18 _ _ ⟨(),rfl,Nd_nil,HSub.refl _⟩ hX
   ·have hX:=ite_f hc hX
    refine TK.skip ?_
    exact J14 (shl8 a7 1) out18 _ _ ⟨(),rfl,Nd_nil,HSub.refl _⟩ hX
  refine SR fun K22 hK22=>M rfl rfl (P1 (p8_and (a:=b8) (b:=(1:UInt8)) rfl rfl) rfl rfl (P1 (p8_eql (a:=(b8&&&(1:UInt8))) (b:=(1:UInt8)) rfl rfl) rfl rfl (TL.nil (hK22 _ _ ?_))))
  refine TK.cond (b:=((b8&&&(1:UInt8))==(1:UInt8))) rfl (fun hc=>?_) (fun hc=>?_)
  ·have hX:=ite_t hc hX
   refine TK.reg ?_
   refine M rfl rfl (M rfl rfl (P1 (p8_xor (a:=out9) (b:=a7) rfl rfl) rfl rfl (M rfl rfl (TL.nil ?_))))
   exact J17 (out9^^^a7) _ _ ⟨(),rfl,Nd_nil,HSub.refl _⟩ hX
  ·have hX:=ite_f hc hX
   refine TK.skip ?_
   exact J17 out9 _ _ ⟨(),rfl,Nd_nil,HSub.refl _⟩ hX
 ·have hX:=ite_f hc hX
  refine TK.exit ?_
  obtain rfl:=hR6 _ (some_in hX).symm
  exact E6 out9 _ _ ⟨(),rfl,Nd_nil,HSub.refl _⟩ hA6
theorem ok_gf_power (a1:UInt8) (n2:Int) (r:UInt8) (hX:X.gf_power a1 n2=some r):Fun Try.prog 126 [Enc.v (a1:UInt8),Enc.v (n2:Int)] (·=Enc.v (r:UInt8)):=by
 refine Fun.of b126 (Nat.le_of_ble_eq_true rfl) (allVal.mem ⟨(by exact (v_val _)),(by exact (v_val _)),trivial⟩) ?_
 unfold k126
 have nd:Nd []:=Nd_nil
 unfold X.gf_power at hX
 refine SR fun K3 hK3=>M rfl rfl (TL.nil (hK3 _ _ (SR fun K4 hK4=>M rfl rfl (TL.nil (hK4 _ _ ?_)))))
 refine TK.seq_k fun K5 hK5=>?_
 refine TK.block ?_
 obtain ⟨o6,hO6,hA6⟩:=bind_some hX
 have E6:∀(out10:UInt8) (env:Env) (h:Hp),(∃_u:Unit,keepE [5] env=[(5,true,Enc.v out10)]∧Nd []∧HSub [] h)→X.gf_power_e6 out10=some r→K5 env h:=by
  intro out10 env h hE hX
  obtain ⟨_u,henv,nd,hs⟩:=hE
  unfold X.gf_power_e6 at hX
  refine hK5 _ _ (TK.keep [5] ?_)
  rw[henv]
  refine TK.subH hs ?_
  refine SR fun K11 hK11=>M rfl rfl (M rfl rfl (TL.nil (hK11 _ _ ?_)))
  refine TK.ret ?_
  try dsimp only[thenQ]
  exact R1 rfl hX
 refine TK.iter [0,1,5] (fun s env h=>match s with|(a7,n8,out9)=>∃_u:Unit,env=[(0,true,Enc.v a7),(1,true,Enc.v n8),(5,true,Enc.v out9)]∧Nd []∧HSub [] h) hO6 ⟨(),rfl,Nd_nil,HSub.refl _⟩ ?_
 rintro ⟨a7,n8,out9⟩ env h x6x ⟨_u,rfl,nd,hs⟩ hX hR6
 refine TK.subH hs ?_
 unfold X.gf_power_s6 at hX
 try dsimp only at hX
 refine TK.seq_k fun K12 hK12=>?_
 refine SR fun K13 hK13=>M rfl rfl (P1 (p_gtr rfl rfl) rfl rfl (TL.nil (hK13 _ _ ?_)))
 refine TK.cond (b:=(decide (n8>(0:Int)))) rfl (fun hc=>?_) (fun hc=>?_)
 ·have hX:=ite_t hc hX
  refine TK.skip ?_
  refine hK12 _ _ ?_
  refine TK.seq_k fun K14 hK14=>?_
  refine TK.block ?_
  refine TK.seq_k fun K15 hK15=>?_
  have J15:∀(out16:UInt8) (env:Env) (h:Hp),(∃_u:Unit,keepE [0,1,5] env=[(0,true,Enc.v a7),(1,true,Enc.v n8),(5,true,Enc.v out16)]∧Nd []∧HSub [] h)→X.gf_power_j15 a7 n8 out16=some x6x→K15 env h:=by
   intro out16 env h hE hX
   obtain ⟨_u,henv,nd,hs⟩:=hE
   unfold X.gf_power_j15 at hX
   refine hK15 _ _ (TK.keep [0,1,5] ?_)
   rw[henv]
   refine TK.subH hs ?_
   refine TK.reg ?_
   refine M rfl rfl (M rfl rfl ?_)
   obtain ⟨r17,hr17,hX⟩:=bind_some hX
   refine TL.cvX rfl rfl rfl (fun _=>⟨rfl,⟨rfl,⟨rfl,trivial⟩⟩⟩) (fun e=>ok_gf_Mul a7 a7 _ hr17) ?_
   refine M rfl rfl (TL.nil (hK14 _ _ ?_))
   refine TK.reg ?_
   refine M rfl rfl (P1 (p_shr rfl rfl (fun _=>by omega)) rfl rfl (M rfl rfl (TL.nil ?_)))
   exact ⟨_,(some_in hX).symm,(),rfl,Nd_nil,HSub.refl _⟩
  refine SR fun K18 hK18=>M rfl rfl (P1 (p_and64 rfl rfl) rfl rfl (P1 (p_eql rfl rfl) rfl rfl (TL.nil (hK18 _ _ ?_))))
  refine TK.cond (b:=((and64 n8 (1:Int))==(1:Int))) rfl (fun hc=>?_) (fun hc=>?_)
  ·have hX:=ite_t hc hX
   refine TK.reg ?_
   refine M rfl rfl (M rfl rfl ?_)
   obtain ⟨r19,hr19,hX⟩:=bind_some hX
   refine TL.cvX rfl rfl rfl (fun _=>⟨rfl,⟨rfl,⟨rfl,trivial⟩⟩⟩) (fun e=>ok_gf_Mul out9 a7 _ hr19) ?_
   refine M rfl rfl (TL.nil ?_)
   exact J15 r19 _ _ ⟨(),rfl,Nd_nil,HSub.refl _⟩ hX
  ·have hX:=ite_f hc hX
   refine TK.skip ?_
   exact J15 out9 _ _ ⟨(),rfl,Nd_nil,HSub.refl _⟩ hX
 ·have hX:=ite_f hc hX
  refine TK.exit ?_
  obtain rfl:=hR6 _ (some_in hX).symm
  exact E6 out9 _ _ ⟨(),rfl,Nd_nil,HSub.refl _⟩ hA6
theorem ok_gf_Inv (a1:UInt8) (r:UInt8) (hX:X.gf_Inv a1=some r):Fun Try.prog 82 [Enc.v (a1:UInt8)] (·=Enc.v (r:UInt8)):=by
 refine Fun.of b82 (Nat.le_of_ble_eq_true rfl) (allVal.mem ⟨(by exact (v_val _)),trivial⟩) ?_
 unfold k82
 have nd:Nd []:=Nd_nil
 unfold X.gf_Inv at hX
 refine SR fun K2 hK2=>M rfl rfl (TL.nil (hK2 _ _ (SR fun K3 hK3=>M rfl rfl ?_)))
 obtain ⟨r4,hr4,hX⟩:=bind_some hX
 refine TL.cvX rfl rfl rfl (fun _=>⟨rfl,⟨rfl,⟨rfl,trivial⟩⟩⟩) (fun e=>ok_gf_power a1 (254:Int) _ hr4) ?_
 refine M rfl rfl (TL.nil (hK3 _ _ ?_))
 refine TK.ret ?_
 try dsimp only[thenQ]
 exact R1 rfl hX
theorem ok_matrix_Cauchy (data1:Int) (parity2:Int) (r:((List (List UInt8))×Int)) (hX:X.matrix_Cauchy data1 parity2=some r):Fun Try.prog 44 [Enc.v (data1:Int),Enc.v (parity2:Int)] (·= .tup 2 (ofL [Enc.v r.1,Enc.v r.2])):=by
 refine Fun.of b44 (Nat.le_of_ble_eq_true rfl) (allVal.mem ⟨(by exact (v_val _)),(by exact (v_val _)),trivial⟩) ?_
 unfold k44
 have nd:Nd []:=Nd_nil
 unfold X.matrix_Cauchy at hX
 refine SR fun K3 hK3=>M rfl rfl (M rfl rfl (TL.nil (hK3 _ _ ?_)))
 refine TK.seq_k fun K4 hK4=>?_
 refine SR fun K5 hK5=>M rfl rfl (P1 (p_lss rfl rfl) rfl rfl (M rfl rfl ?_))
 refine TLc.p (gc:=(!((decide (data1<(1:Int)))))) (p_mv rfl (hg:=fun e=>rfl)) (gcF1 rfl) rfl ?_
 refine TLc.p (gc:=(!((decide (data1<(1:Int)))))) (p_lss rfl rfl (hg:=fun e=>⟨e,rfl⟩)) (gcF1 rfl) rfl ?_
 refine P1 (p_or rfl rfl (fun e=>⟨rfl,fun h=>(not_t h)⟩)) rfl rfl (M rfl rfl ?_)
 refine TLc.p (gc:=(!(((decide (data1<(1:Int)))||(decide (parity2<(1:Int))))))) (p_mv rfl (hg:=fun e=>rfl)) (gcF1 rfl) rfl ?_
 refine TLc.p (gc:=(!(((decide (data1<(1:Int)))||(decide (parity2<(1:Int))))))) (p_gtr rfl rfl (hg:=fun e=>⟨e,rfl⟩)) (gcF1 rfl) rfl ?_
 refine P1 (p_or rfl rfl (fun e=>⟨rfl,fun h=>(not_t h)⟩)) rfl rfl (M rfl rfl ?_)
 refine TLc.p (gc:=(!((((decide (data1<(1:Int)))||(decide (parity2<(1:Int))))||(decide (data1>(255:Int))))))) (p_mv rfl (hg:=fun e=>rfl)) (gcF1 rfl) rfl ?_
 refine TLc.p (gc:=(!((((decide (data1<(1:Int)))||(decide (parity2<(1:Int))))||(decide (data1>(255:Int))))))) (p_mv rfl (hg:=fun e=>rfl)) (gcF1 rfl) rfl ?_
 refine TLc.p (gc:=(!((((decide (data1<(1:Int)))||(decide (parity2<(1:Int))))||(decide (data1>(255:Int))))))) (p_sub rfl rfl (hg:=fun e=>⟨rfl,e⟩)) (gcF1 rfl) rfl ?_
 refine TLc.p (gc:=(!((((decide (data1<(1:Int)))||(decide (parity2<(1:Int))))||(decide (data1>(255:Int))))))) (p_gtr rfl rfl (hg:=fun e=>⟨e,e⟩)) (gcF1 rfl) rfl ?_
 refine P1 (p_or rfl rfl (fun e=>⟨rfl,fun h=>(not_t h)⟩)) rfl rfl (TL.nil (hK5 _ _ ?_))
 refine TK.cond (b:=((((decide (data1<(1:Int)))||(decide (parity2<(1:Int))))||(decide (data1>(255:Int))))||(decide (parity2>(wr ((255:Int)-data1)))))) rfl (fun hc=>?_) (fun hc=>?_)
 ·have hX:=ite_t hc hX
  refine SR fun K6 hK6=>M rfl rfl (M rfl rfl (TL.nil (hK6 _ _ ?_)))
  refine TK.wk 4 (L ([]:(List (List UInt8)))) rfl Wk_nil ?_
  refine TK.ret ?_
  try dsimp only[thenQ]
  exact retN (vs:=[Enc.v (([]:(List (List UInt8))):(List (List UInt8))),Enc.v ((1:Int):Int)]) ⟨rfl,rfl,trivial⟩ (by obtain rfl:=some_in hX;rfl) (allVal.mem ⟨v_val _,v_val _,trivial⟩)
 ·have hX:=ite_f hc hX
  refine TK.skip ?_
  refine hK4 _ _ (SR fun K7 hK7=>M rfl rfl (TL.nil (hK7 _ _ ?_)))
  refine TK.ownL (α:=(List UInt8)) 6 25 nd rfl (.inl rfl) fun b8 nd=>?_
  refine TK.seq_k fun K9 hK9=>?_
  refine SR fun K10 hK10=>M rfl rfl (M rfl rfl (TL.nil (hK10 _ _ ?_)))
  refine TK.block ?_
  obtain ⟨o11,hO11,hA11⟩:=bind_some hX
  have E11:∀(l16:List (List UInt8)) (env:Env) (h:Hp),(∃b15,keepE [6] env=[(6,true,OL b15 l16)]∧Nd [(b15,RL (α:=(List UInt8)) 25 l16)]∧HSub [(b15,RL (α:=(List UInt8)) 25 l16)] h)→X.matrix_Cauchy_e11 l16=some r→K9 env h:=by
   intro l16 env h hE hX
   obtain ⟨b15,henv,nd,hs⟩:=hE
   unfold X.matrix_Cauchy_e11 at hX
   refine hK9 _ _ (TK.keep [6] ?_)
   rw[henv]
   refine TK.subH hs ?_
   refine SR fun K17 hK17=>M rfl rfl (M rfl rfl (M rfl rfl (TL.nil (hK17 _ _ ?_))))
   refine TK.lay [(4,L l16)] nd (j:=0) rfl ⟨⟨_,rfl,fix_OL nd (j:=0) rfl,rfl⟩,trivial⟩ fun nd=>?_
   refine TK.ret ?_
   try dsimp only[thenQ]
   exact retN (vs:=[Enc.v l16,Enc.v ((0:Int):Int)]) ⟨rfl,rfl,trivial⟩ (by obtain rfl:=some_in hX;rfl) (allVal.mem ⟨v_val _,v_val _,trivial⟩)
  refine TK.iter [0,1,6,26,27] (fun s env h=>match s with|(out13,x14)=>∃b12,env=[(0,true,Enc.v data1),(1,true,Enc.v parity2),(6,true,OL b12 out13),(26,true,Enc.v parity2),(27,true,Enc.v x14)]∧Nd [(b12,RL (α:=(List UInt8)) 25 out13)]∧HSub [(b12,RL (α:=(List UInt8)) 25 out13)] h) hO11 ⟨b8,rfl,(Nd.pick nd (is:=[0]) Dc),(HSub.pick nd (is:=[0]) Dc)⟩ ?_
  rintro ⟨out13,x14⟩ env h x11x ⟨b12,rfl,nd,hs⟩ hX hR11
  refine TK.subH hs ?_
  unfold X.matrix_Cauchy_s11 at hX
  try dsimp only at hX
  refine SR fun K18 hK18=>P1 (p_lss rfl rfl) rfl rfl (TL.nil (hK18 _ _ ?_))
  refine TK.seq_k fun K19 hK19=>?_
  refine TK.cond (b:=(decide (x14<parity2))) rfl (fun hc=>?_) (fun hc=>?_)
  ·have hX:=ite_t hc hX
   refine TK.skip ?_
   refine hK19 _ _ ?_
   refine TK.seq_k fun K20 hK20=>?_
   refine TK.block ?_
   refine SR fun K21 hK21=>M rfl rfl (M rfl rfl (TL.nil (hK21 _ _ (SR fun K22 hK22=>M rfl rfl (TL.nil (hK22 _ _ ?_))))))
   refine TK.ownL (α:=UInt8) 8 5 nd rfl (.inl rfl) fun b23 nd=>?_
   refine TK.seq_k fun K24 hK24=>?_
   refine SR fun K25 hK25=>M rfl rfl (M rfl rfl (TL.nil (hK25 _ _ ?_)))
   refine TK.block ?_
   obtain ⟨o26,hO26,hA26⟩:=bind_some hX
   have E26:∀(l33:List UInt8) (env:Env) (h:Hp),(∃b31 b32,keepE [0,1,6,8,26,27] env=[(0,true,Enc.v data1),(1,true,Enc.v parity2),(6,true,OL b31 out13),(8,true,OL b32 l33),(26,true,Enc.v parity2),(27,true,Enc.v x14)]∧Nd [(b31,RL (α:=(List UInt8)) 25 out13),(b32,RL (α:=UInt8) 5 l33)]∧HSub [(b31,RL (α:=(List UInt8)) 25 out13),(b32,RL (α:=UInt8) 5 l33)] h)→X.matrix_Cauchy_e26 out13 x14 l33=some x11x→K24 env h:=by
    intro l33 env h hE hX
    obtain ⟨b31,b32,henv,nd,hs⟩:=hE
    unfold X.matrix_Cauchy_e26 at hX
    refine hK24 _ _ (TK.keep [0,1,6,8,26,27] ?_)
    rw[henv]
    refine TK.subH hs ?_
    refine TK.reg ?_
    refine M rfl rfl (M rfl rfl ?_)
    refine TL.lay [(47,L l33)] nd (j:=1) rfl ⟨⟨_,rfl,fix_OL nd (j:=1) rfl,rfl⟩,trivial⟩ fun nd=>?_
    refine TLc.lit ([l33]:List (List UInt8)) kd22 ty25 rfl ⟨⟨rfl,rfl⟩,trivial⟩ rfl rfl rfl ?_
    obtain ⟨u34,hu34,hX⟩:=bind_some hX
    refine TLc.appO nd kd22 bo22 ty25 rfl rfl (j:=0) rfl rfl (Src_L _) Dc (need_t hu34) rfl fun nd=>?_
    refine M rfl rfl (TL.nil (hK20 _ _ ?_))
    refine TK.reg ?_
    refine P1 (p_add rfl rfl) rfl rfl (M rfl rfl (TL.nil ?_))
    exact ⟨_,(some_in hX).symm,b31,rfl,(Nd.pick nd (is:=[0]) Dc),(HSub.pick nd (is:=[0]) Dc)⟩
   refine TK.iter [0,1,6,7,8,26,27,30,31] (fun s env h=>match s with|(r29,x30)=>∃b27 b28,env=[(0,true,Enc.v data1),(1,true,Enc.v parity2),(6,true,OL b27 out13),(7,true,Enc.v x14),(8,true,OL b28 r29),(26,true,Enc.v parity2),(27,true,Enc.v x14),(30,true,Enc.v data1),(31,true,Enc.v x30)]∧Nd [(b27,RL (α:=(List UInt8)) 25 out13),(b28,RL (α:=UInt8) 5 r29)]∧HSub [(b27,RL (α:=(List UInt8)) 25 out13),(b28,RL (α:=UInt8) 5 r29)] h) hO26 ⟨b12,b23,rfl,(Nd.pick nd (is:=[1,0]) Dc),(HSub.pick nd (is:=[1,0]) Dc)⟩ ?_
   rintro ⟨r29,x30⟩ env h x26x ⟨b27,b28,rfl,nd,hs⟩ hX hR26
   refine TK.subH hs ?_
   unfold X.matrix_Cauchy_s26 at hX
   try dsimp only at hX
   refine SR fun K35 hK35=>P1 (p_lss rfl rfl) rfl rfl (TL.nil (hK35 _ _ ?_))
   refine TK.seq_k fun K36 hK36=>?_
   refine TK.cond (b:=(decide (x30<data1))) rfl (fun hc=>?_) (fun hc=>?_)
   ·have hX:=ite_t hc hX
    refine TK.skip ?_
    refine hK36 _ _ ?_
    refine TK.seq_k fun K37 hK37=>?_
    refine TK.block ?_
    refine SR fun K38 hK38=>M rfl rfl (M rfl rfl (TL.nil (hK38 _ _ ?_)))
    refine TK.reg ?_
    refine M rfl rfl (M rfl rfl (P1 (p_cvt src3 kd5 rfl (cv_u8 _)) rfl rfl (M rfl rfl (M rfl rfl (P1 (p_add rfl rfl) rfl rfl (P1 (p_cvt src3 kd5 rfl (cv_u8 _)) rfl rfl ?_))))))
    obtain ⟨r39,hr39,hX⟩:=bind_some hX
    refine TL.cvX rfl rfl rfl (fun _=>⟨rfl,⟨rfl,⟨rfl,trivial⟩⟩⟩) (fun e=>ok_gf_Add (u8 x14) (u8 (wr (parity2+x30))) _ hr39) ?_
    obtain ⟨r40,hr40,hX⟩:=bind_some hX
    refine TL.cvX rfl rfl rfl (fun _=>⟨rfl,⟨rfl,trivial⟩⟩) (fun e=>ok_gf_Inv r39 _ hr40) ?_
    refine TLc.lit ([r40]:List UInt8) kd25 ty5 rfl ⟨⟨rfl,rfl⟩,trivial⟩ rfl rfl rfl ?_
    obtain ⟨u41,hu41,hX⟩:=bind_some hX
    refine TLc.appO nd kd25 bo25 ty5 rfl rfl (j:=1) rfl rfl (Src_L _) Dc (need_t hu41) rfl fun nd=>?_
    refine M rfl rfl (TL.nil (hK37 _ _ ?_))
    refine TK.reg ?_
    refine P1 (p_add rfl rfl) rfl rfl (M rfl rfl (TL.nil ?_))
    exact ⟨_,(some_in hX).symm,b27,b28,rfl,(Nd.pick nd (is:=[0,1]) Dc),(HSub.pick nd (is:=[0,1]) Dc)⟩
   ·have hX:=ite_f hc hX
    refine TK.exit ?_
    obtain rfl:=hR26 _ (some_in hX).symm
    exact E26 r29 _ _ ⟨b27,b28,rfl,(Nd.pick nd (is:=[0,1]) Dc),(HSub.pick nd (is:=[0,1]) Dc)⟩ hA26
  ·have hX:=ite_f hc hX
   refine TK.exit ?_
   obtain rfl:=hR11 _ (some_in hX).symm
   exact E11 out13 _ _ ⟨b12,rfl,(Nd.pick nd (is:=[0]) Dc),(HSub.pick nd (is:=[0]) Dc)⟩ hA11
theorem ok_erasure_rows (data1:Int) (all2:Int) (r:(List (List UInt8))) (hX:X.erasure_rows data1 all2=some r):Fun Try.prog 78 [Enc.v (data1:Int),Enc.v (all2:Int)] (·=Enc.v (r:(List (List UInt8)))):=by
 refine Fun.of b78 (Nat.le_of_ble_eq_true rfl) (allVal.mem ⟨(by exact (v_val _)),(by exact (v_val _)),trivial⟩) ?_
 unfold k78
 have nd:Nd []:=Nd_nil
 unfold X.erasure_rows at hX
 refine SR fun K3 hK3=>M rfl rfl (TL.nil (hK3 _ _ (SR fun K4 hK4=>M rfl rfl (TL.nil (hK4 _ _ ?_)))))
 refine TK.ownL (α:=(List UInt8)) 5 25 nd rfl (.inl rfl) fun b5 nd=>?_
 refine TK.seq_k fun K6 hK6=>?_
 refine SR fun K7 hK7=>M rfl rfl (M rfl rfl (TL.nil (hK7 _ _ ?_)))
 refine TK.block ?_
 obtain ⟨o8,hO8,hA8⟩:=bind_some hX
 have E8:∀(l13:List (List UInt8)) (env:Env) (h:Hp),(∃b12,keepE [0,1,5] env=[(0,true,Enc.v data1),(1,true,Enc.v all2),(5,true,OL b12 l13)]∧Nd [(b12,RL (α:=(List UInt8)) 25 l13)]∧HSub [(b12,RL (α:=(List UInt8)) 25 l13)] h)→X.erasure_rows_e8 all2 data1 l13=some r→K6 env h:=by
  intro l13 env h hE hX
  obtain ⟨b12,henv,nd,hs⟩:=hE
  unfold X.erasure_rows_e8 at hX
  refine hK6 _ _ (TK.keep [0,1,5] ?_)
  rw[henv]
  refine TK.subH hs ?_
  refine TK.seq_k fun K14 hK14=>?_
  have J14:∀(l16:List (List UInt8)) (env:Env) (h:Hp),(∃b15,keepE [5] env=[(5,true,OL b15 l16)]∧Nd [(b15,RL (α:=(List UInt8)) 25 l16)]∧HSub [(b15,RL (α:=(List UInt8)) 25 l16)] h)→X.erasure_rows_j14 l16=some r→K14 env h:=by
   intro l16 env h hE hX
   obtain ⟨b15,henv,nd,hs⟩:=hE
   unfold X.erasure_rows_j14 at hX
   refine hK14 _ _ (TK.keep [5] ?_)
   rw[henv]
   refine TK.subH hs ?_
   refine SR fun K17 hK17=>M rfl rfl (M rfl rfl (TL.nil (hK17 _ _ ?_)))
   refine TK.lay [(4,L l16)] nd (j:=0) rfl ⟨⟨_,rfl,fix_OL nd (j:=0) rfl,rfl⟩,trivial⟩ fun nd=>?_
   refine TK.ret ?_
   try dsimp only[thenQ]
   exact R1 rfl hX
  refine SR fun K18 hK18=>M rfl rfl (M rfl rfl (P1 (p_gtr rfl rfl) rfl rfl (TL.nil (hK18 _ _ ?_))))
  refine TK.cond (b:=(decide (all2>data1))) rfl (fun hc=>?_) (fun hc=>?_)
  ·have hX:=ite_t hc hX
   refine SR fun K19 hK19=>M rfl rfl (M rfl rfl (M rfl rfl (P1 (p_sub rfl rfl) rfl rfl ?_)))
   obtain ⟨r20,hr20,hX⟩:=bind_some hX
   refine TL.cvX rfl rfl rfl (fun _=>⟨rfl,⟨rfl,⟨rfl,trivial⟩⟩⟩) (fun e=>ok_matrix_Cauchy data1 (wr (all2-data1)) _ hr20) ?_
   refine M rfl rfl (P1 (p_ex rfl rfl Dc) rfl rfl (P1 (p_ex rfl rfl Dc) rfl rfl (M rfl rfl (M rfl rfl (TL.nil (hK19 _ _ ?_))))))
   refine TK.reg ?_
   refine M rfl rfl (M rfl rfl ?_)
   obtain ⟨u21,hu21,hX⟩:=bind_some hX
   refine TLc.appO nd kd22 bo22 ty25 rfl rfl (j:=0) rfl rfl (Src_L _) Dc (need_t hu21) rfl fun nd=>?_
   refine M rfl rfl (TL.nil ?_)
   exact J14 (l13++r20.1) _ _ ⟨b12,rfl,(Nd.pick nd (is:=[0]) Dc),(HSub.pick nd (is:=[0]) Dc)⟩ hX
  ·have hX:=ite_f hc hX
   refine TK.skip ?_
   exact J14 l13 _ _ ⟨b12,rfl,(Nd.pick nd (is:=[0]) Dc),(HSub.pick nd (is:=[0]) Dc)⟩ hX
 refine TK.iter [0,1,5,10,11] (fun s env h=>match s with|(out10,x11)=>∃b9,env=[(0,true,Enc.v data1),(1,true,Enc.v all2),(5,true,OL b9 out10),(10,true,Enc.v data1),(11,true,Enc.v x11)]∧Nd [(b9,RL (α:=(List UInt8)) 25 out10)]∧HSub [(b9,RL (α:=(List UInt8)) 25 out10)] h) hO8 ⟨b5,rfl,(Nd.pick nd (is:=[0]) Dc),(HSub.pick nd (is:=[0]) Dc)⟩ ?_
 rintro ⟨out10,x11⟩ env h x8x ⟨b9,rfl,nd,hs⟩ hX hR8
 refine TK.subH hs ?_
 unfold X.erasure_rows_s8 at hX
 try dsimp only at hX
 refine SR fun K22 hK22=>P1 (p_lss rfl rfl) rfl rfl (TL.nil (hK22 _ _ ?_))
 refine TK.seq_k fun K23 hK23=>?_
 refine TK.cond (b:=(decide (x11<data1))) rfl (fun hc=>?_) (fun hc=>?_)
 ·have hX:=ite_t hc hX
  refine TK.skip ?_
  refine hK23 _ _ ?_
  refine TK.seq_k fun K24 hK24=>?_
  refine TK.block ?_
  refine SR fun K25 hK25=>M rfl rfl (M rfl rfl (TL.nil (hK25 _ _ (SR fun K26 hK26=>M rfl rfl ?_))))
  obtain ⟨u27,hu27,hX⟩:=bind_some hX
  refine TLc.mkO nd (0:UInt8) kd25 ty5 rfl (fun j hj=>by (have:j=0:=by simpa[Enc.sz] using hj);subst this;rfl) rfl rfl Dc (need_t hu27) rfl fun b28 nd=>?_
  refine M rfl rfl (TL.nil (hK26 _ _ (SR fun K29 hK29=>M rfl rfl (M rfl rfl ?_))))
  obtain ⟨e30,he30,hX⟩:=bind_some hX
  refine P1 (p_iaO (xs:=(List.replicate data1.toNat (0:UInt8))) kd25 ty5 rfl rfl rfl nd (j:=0) rfl (fun _=>he30)) rfl rfl ?_
  refine TLc.stW (xs:=(List.replicate data1.toNat (0:UInt8))) (i:=x11) (lu:=Enc.cl ((1:UInt8):UInt8)) (a':=(1:UInt8)) nd ty5 rfl (j:=0) rfl (by simp[Enc.sz]) (inb_of he30 (by simp)) rfl (Cells_v ((1:UInt8):UInt8)) rfl (WkL_refl _) fun nd=>?_
  refine TL.cv 7 (OL b28 ((List.replicate data1.toNat (0:UInt8)).set x11.toNat (1:UInt8))) rfl (Wk_eq (OL_len (by simp))) ?_
  refine TL.nil (hK29 _ _ ?_)
  refine TK.reg ?_
  refine M rfl rfl (M rfl rfl ?_)
  refine TL.lay [(20,L ((List.replicate data1.toNat (0:UInt8)).set x11.toNat (1:UInt8)))] nd (j:=0) rfl ⟨⟨_,rfl,fix_OL nd (j:=0) rfl,rfl⟩,trivial⟩ fun nd=>?_
  refine TLc.lit ([((List.replicate data1.toNat (0:UInt8)).set x11.toNat (1:UInt8))]:List (List UInt8)) kd22 ty25 rfl ⟨⟨rfl,rfl⟩,trivial⟩ rfl rfl rfl ?_
  obtain ⟨u31,hu31,hX⟩:=bind_some hX
  refine TLc.appO nd kd22 bo22 ty25 rfl rfl (j:=0) rfl rfl (Src_L _) Dc (need_t hu31) rfl fun nd=>?_
  refine M rfl rfl (TL.nil (hK24 _ _ ?_))
  refine TK.reg ?_
  refine P1 (p_add rfl rfl) rfl rfl (M rfl rfl (TL.nil ?_))
  exact ⟨_,(some_in hX).symm,b9,rfl,(Nd.pick nd (is:=[0]) Dc),(HSub.pick nd (is:=[0]) Dc)⟩
 ·have hX:=ite_f hc hX
  refine TK.exit ?_
  obtain rfl:=hR8 _ (some_in hX).symm
  exact E8 out10 _ _ ⟨b9,rfl,(Nd.pick nd (is:=[0]) Dc),(HSub.pick nd (is:=[0]) Dc)⟩ hA8
theorem ok_matrix_Right_c1 (r1:(List UInt8)) (c2:(List (List UInt8))) (r:Bool) (hX:X.matrix_Right_c1 r1 c2=some r):Fun Try.prog 170 [Enc.v (r1:(List UInt8)),.vref (ofL [Enc.v (c2:(List (List UInt8)))]) 1 0] (·=Enc.v (r:Bool)):=by
 refine Fun.of b170 (Nat.le_of_ble_eq_true rfl) (allVal.mem ⟨(by exact (v_val _)),(by exact (vref_val (l:=[Enc.v (c2:(List (List UInt8)))]) rfl ⟨(v_val _),trivial⟩)),trivial⟩) ?_
 unfold k170
 have nd:Nd []:=Nd_nil
 unfold X.matrix_Right_c1 at hX
 refine SR fun K3 hK3=>M rfl rfl (TL.nil (hK3 _ _ (SR fun K4 hK4=>M rfl rfl (P1 (p_lenL (xs:=r1) kd25 rfl) rfl rfl (P1 (p_ldR (v:=Enc.v c2) ty22 rfl rfl rfl rfl rfl rfl) rfl rfl ?_)))))
 obtain ⟨e5,he5,hX⟩:=bind_some hX
 refine P1 (p_iaL (xs:=c2) kd22 ty25 rfl rfl rfl (fun _=>he5)) rfl rfl (P1 (p_ldE (xs:=c2) (a:=e5) (e5:(List UInt8)) ty25 rfl rfl (fun _=>he5) rfl rfl rfl) rfl rfl (P1 (p_lenL (xs:=e5) kd25 rfl) rfl rfl (P1 (p_neq rfl rfl) rfl rfl (M rfl rfl (TL.nil (hK4 _ _ ?_))))))
 refine TK.ret ?_
 try dsimp only[thenQ]
 exact R1 rfl hX
theorem ok_matrix_Right (m1:(List (List UInt8))) (r:Bool) (hX:X.matrix_Right m1=some r):Fun Try.prog 120 [Enc.v (m1:(List (List UInt8)))] (·=Enc.v (r:Bool)):=by
 refine Fun.of b120 (Nat.le_of_ble_eq_true rfl) (allVal.mem ⟨(by exact (v_val _)),trivial⟩) ?_
 unfold k120
 have nd:Nd []:=Nd_nil
 unfold X.matrix_Right at hX
 refine SR fun K2 hK2=>?_
 refine TLc.boxV (lu:=[Enc.v m1]) nd rfl (Cells_v (m1:(List (List UInt8)))) rfl ?_
 refine M rfl rfl (TL.nil (hK2 _ _ ?_))
 refine TK.seq_k fun K3 hK3=>?_
 refine SR fun K4 hK4=>P1 (p_ldR (v:=Enc.v m1) ty22 rfl rfl rfl rfl rfl rfl) rfl rfl (P1 (p_lenL (xs:=m1) kd22 rfl) rfl rfl (P1 (p_lss rfl rfl) rfl rfl (M rfl rfl ?_)))
 refine TLc.p (gc:=(!((decide ((m1.length:Int)<(1:Int)))))) (p_ldR (v:=Enc.v m1) ty22 rfl rfl rfl rfl rfl rfl (hg:=fun e=>rfl)) (gcF1 rfl) rfl ?_
 refine TLc.p (gc:=(!((decide ((m1.length:Int)<(1:Int)))))) (p_lenL (xs:=m1) kd22 rfl (hg:=fun e=>e)) (gcF1 rfl) rfl ?_
 refine TLc.p (gc:=(!((decide ((m1.length:Int)<(1:Int)))))) (p_gtr rfl rfl (hg:=fun e=>⟨e,rfl⟩)) (gcF1 rfl) rfl ?_
 refine P1 (p_or rfl rfl (fun e=>⟨rfl,fun h=>(not_t h)⟩)) rfl rfl (M rfl rfl ?_)
 refine TLc.p (gc:=(!(((decide ((m1.length:Int)<(1:Int)))||(decide ((m1.length:Int)>(255:Int))))))) (p_ldR (v:=Enc.v m1) ty22 rfl rfl rfl rfl rfl rfl (hg:=fun e=>rfl)) (gcF1 rfl) rfl ?_
 obtain ⟨e5,he5,hX⟩:=bind_some hX
 refine TLc.p (gc:=(!(((decide ((m1.length:Int)<(1:Int)))||(decide ((m1.length:Int)>(255:Int))))))) (p_iaL (xs:=m1) kd22 ty25 rfl rfl rfl (fun e=>optG_t he5 e) (hg:=fun e=>⟨e,rfl⟩)) (gcF1 rfl) rfl ?_
 refine TLc.p (gc:=(!(((decide ((m1.length:Int)<(1:Int)))||(decide ((m1.length:Int)>(255:Int))))))) (p_ldE (xs:=m1) (a:=e5) (e5:(List UInt8)) ty25 rfl rfl (fun e=>optG_t he5 e) rfl rfl rfl (hg:=fun e=>e)) (gcF1 rfl) rfl ?_
 refine TLc.p (gc:=(!(((decide ((m1.length:Int)<(1:Int)))||(decide ((m1.length:Int)>(255:Int))))))) (p_lenL (xs:=e5) kd25 rfl (hg:=fun e=>e)) (gcF1 rfl) rfl ?_
 refine TLc.p (gc:=(!(((decide ((m1.length:Int)<(1:Int)))||(decide ((m1.length:Int)>(255:Int))))))) (p_lss rfl rfl (hg:=fun e=>⟨e,rfl⟩)) (gcF1 rfl) rfl ?_
 refine P1 (p_or rfl rfl (fun e=>⟨rfl,fun h=>(not_t h)⟩)) rfl rfl (M rfl rfl ?_)
 refine TLc.p (gc:=(!((((decide ((m1.length:Int)<(1:Int)))||(decide ((m1.length:Int)>(255:Int))))||(decide ((e5.length:Int)<(1:Int))))))) (p_ldR (v:=Enc.v m1) ty22 rfl rfl rfl rfl rfl rfl (hg:=fun e=>rfl)) (gcF1 rfl) rfl ?_
 obtain ⟨e6,he6,hX⟩:=bind_some hX
 refine TLc.p (gc:=(!((((decide ((m1.length:Int)<(1:Int)))||(decide ((m1.length:Int)>(255:Int))))||(decide ((e5.length:Int)<(1:Int))))))) (p_iaL (xs:=m1) kd22 ty25 rfl rfl rfl (fun e=>optG_t he6 e) (hg:=fun e=>⟨e,rfl⟩)) (gcF1 rfl) rfl ?_
 refine TLc.p (gc:=(!((((decide ((m1.length:Int)<(1:Int)))||(decide ((m1.length:Int)>(255:Int))))||(decide ((e5.length:Int)<(1:Int))))))) (p_ldE (xs:=m1) (a:=e6) (e6:(List UInt8)) ty25 rfl rfl (fun e=>optG_t he6 e) rfl rfl rfl (hg:=fun e=>e)) (gcF1 rfl) rfl ?_
 refine TLc.p (gc:=(!((((decide ((m1.length:Int)<(1:Int)))||(decide ((m1.length:Int)>(255:Int))))||(decide ((e5.length:Int)<(1:Int))))))) (p_lenL (xs:=e6) kd25 rfl (hg:=fun e=>e)) (gcF1 rfl) rfl ?_
 refine TLc.p (gc:=(!((((decide ((m1.length:Int)<(1:Int)))||(decide ((m1.length:Int)>(255:Int))))||(decide ((e5.length:Int)<(1:Int))))))) (p_gtr rfl rfl (hg:=fun e=>⟨e,rfl⟩)) (gcF1 rfl) rfl ?_
 refine P1 (p_or rfl rfl (fun e=>⟨rfl,fun h=>(not_t h)⟩)) rfl rfl (TL.nil (hK4 _ _ ?_))
 refine TK.cond (b:=((((decide ((m1.length:Int)<(1:Int)))||(decide ((m1.length:Int)>(255:Int))))||(decide ((e5.length:Int)<(1:Int))))||(decide ((e6.length:Int)>(255:Int))))) rfl (fun hc=>?_) (fun hc=>?_)
 ·have hX:=ite_t hc hX
  refine SR fun K7 hK7=>M rfl rfl (TL.nil (hK7 _ _ ?_))
  refine TK.ret ?_
  try dsimp only[thenQ]
  exact R1 rfl hX
 ·have hX:=ite_f hc hX
  refine TK.skip ?_
  refine hK3 _ _ (SR fun K8 hK8=>P1 (p_ldR (v:=Enc.v m1) ty22 rfl rfl rfl rfl rfl rfl) rfl rfl (P1 (p_mf (l:=[.vref (ofL [Enc.v m1]) 1 0]) rfl (fun _=>⟨rfl,trivial⟩)) rfl rfl ?_))
  obtain ⟨r9,hr9,hX⟩:=bind_some hX
  refine TL.cvX rfl rfl rfl (fun _=>⟨rfl,⟨rfl,⟨rfl,trivial⟩⟩⟩) (fun e=>ok_slices_ContainsFunc_LLbyte_Lbyte m1 (fun a1=>X.matrix_Right_c1 a1 m1) _ hr9 ⟨170,1,ofL [.vref (ofL [Enc.v m1]) 1 0],rfl,(caps_val rfl ⟨(vref_val (l:=[Enc.v m1]) rfl ⟨(v_val _),trivial⟩),trivial⟩),fun a1 r hr=>ok_matrix_Right_c1 a1 m1 r hr⟩) ?_
  refine P1 (p_not rfl) rfl rfl (M rfl rfl (TL.nil (hK8 _ _ ?_)))
  refine TK.ret ?_
  try dsimp only[thenQ]
  exact R1 rfl hX
theorem ok_slices_Grow_Lbyte_byte_nil (n1:Int) (nd:Nd []) (r:(List UInt8)) (hX:X.slices_Grow_Lbyte_byte_nil n1=some r):TCX Try.prog 191 [.nils,Enc.v (n1:Int)] [] (fun rv h'=>∃b18,rv=OL (α:=UInt8) b18 r∧h'=[(b18,RL (α:=UInt8) 5 r)]):=by
 refine TCX.of b191 (Nat.le_of_ble_eq_true rfl) ?_
 unfold k191
 unfold X.slices_Grow_Lbyte_byte_nil at hX
 refine SR fun K2 hK2=>M rfl rfl (TL.nil (hK2 _ _ ?_))
 refine TK.seq_k fun K3 hK3=>?_
 refine SR fun K4 hK4=>M rfl rfl (P1 (p_lss rfl rfl) rfl rfl (TL.nil (hK4 _ _ ?_)))
 refine TK.cond (b:=(decide (n1<(0:Int)))) rfl (fun hc=>?_) (fun hc=>?_)
 ·have hX:=ite_t hc hX
  refine TK.reg ?_
  cases hX
 ·have hX:=ite_f hc hX
  refine TK.skip ?_
  refine hK3 _ _ ?_
  refine TK.seq_k fun K5 hK5=>?_
  have J5:∀(l9:List UInt8) (env:Env) (h:Hp),(∃b8,keepE [0] env=[(0,true,OL b8 l9)]∧Nd [(b8,RL (α:=UInt8) 5 l9)]∧HSub [(b8,RL (α:=UInt8) 5 l9)] h)→X.slices_Grow_Lbyte_byte_nil_j5 l9=some r→K5 env h:=by
   intro l9 env h hE hX
   obtain ⟨b8,henv,nd,hs⟩:=hE
   unfold X.slices_Grow_Lbyte_byte_nil_j5 at hX
   refine hK5 _ _ (TK.keep [0] ?_)
   rw[henv]
   refine TK.subH hs ?_
   refine SR fun K10 hK10=>M rfl rfl (M rfl rfl (TL.nil (hK10 _ _ ?_)))
   refine TK.ret ?_
   try dsimp only[thenQ]
   exact retX (v:=OL b8 l9) (res1 rfl) (by obtain rfl:=some_in hX;exact ⟨b8,rfl,rfl⟩) nd (inH_rs nd (j:=0) rfl) ⟨rowIn_RL,trivial⟩
  refine SR fun K11 hK11=>M rfl rfl (M rfl rfl ?_)
  refine TL.ofV (gc:=true) (vok_cap0 (C:=cx) (gc:=true) kd25 rfl (.inl rfl)) rfl rfl ?_
  refine M rfl rfl (P1 (p_lenN kd25 rfl) rfl rfl (P1 (p_sub rfl rfl) rfl rfl (P1 (p_sub rfl rfl) rfl rfl (M rfl rfl (TL.nil (hK11 _ _ (SR fun K12 hK12=>M rfl rfl (P1 (p_gtr rfl rfl) rfl rfl (TL.nil (hK12 _ _ ?_))))))))))
  refine TK.cond (b:=(decide ((wr (n1-(0:Int)))>(0:Int)))) rfl (fun hc=>?_) (fun hc=>?_)
  ·have hX:=ite_t hc hX
   refine TK.reg ?_
   refine M rfl rfl (M rfl rfl ?_)
   refine TL.ofV (gc:=true) (vok_cap0 (C:=cx) (gc:=true) kd25 rfl (.inl rfl)) rfl rfl ?_
   refine P1 (p_sliN (C:=cx) kd25 ty5 rfl rfl rfl) rfl rfl (M rfl rfl ?_)
   obtain ⟨u13,hu13,hX⟩:=bind_some hX
   refine TLc.appNZ nd (0:UInt8) kd25 kd3 ty5 rfl (fun j hj=>by (have:j=0:=by simpa[Enc.sz] using hj);subst this;rfl) rfl (.inl rfl) rfl (need_t hu13).1 Dc (need_t hu13).2 rfl fun b14 nd=>?_
   refine M rfl rfl (P1 (p_lenN kd25 rfl) rfl rfl ?_)
   obtain ⟨u15,hu15,hX⟩:=bind_some hX
   refine P1 (p_sliO (xs:=(List.replicate (wr (n1-(0:Int))).toNat (0:UInt8))) (l:=(0:Int)) (k:=(0:Int)) kd25 ty5 rfl rfl nd (j:=0) rfl rfl rfl (fun e=>need_t hu15)) rfl rfl (M rfl rfl ?_)
   refine TL.cutX (xs:=(List.replicate (wr (n1-(0:Int))).toNat (0:UInt8))) (k:=(0:Int)) 0 nd (j:=0) rfl rfl (by have:=(need_t hu15).1;omega) fun b16 nd=>?_
   refine TL.nil ?_
   exact J5 (slc (List.replicate (wr (n1-(0:Int))).toNat (0:UInt8)) (0:Int) (0:Int)) _ _ ⟨b16,rfl,(Nd.pick nd (is:=[0]) Dc),(HSub.pick nd (is:=[0]) Dc)⟩ hX
  ·have hX:=ite_f hc hX
   refine TK.ownL (α:=UInt8) 0 5 nd rfl (.inl rfl) fun b17 nd=>?_
   refine TK.skip ?_
   exact J5 ([]:List UInt8) _ _ ⟨b17,rfl,(Nd.pick nd (is:=[0]) Dc),(HSub.pick nd (is:=[0]) Dc)⟩ hX
theorem ok_slices_Concat_Lbyte_byte (slices1:(List (List UInt8))) (r:(List UInt8)) (hX:X.slices_Concat_Lbyte_byte slices1=some r):Fun Try.prog 171 [Enc.v (slices1:(List (List UInt8)))] (·=Enc.v (r:(List UInt8))):=by
 refine Fun.of b171 (Nat.le_of_ble_eq_true rfl) (allVal.mem ⟨(by exact (v_val _)),trivial⟩) ?_
 unfold k171
 have nd:Nd []:=Nd_nil
 unfold X.slices_Concat_Lbyte_byte at hX
 refine SR fun K2 hK2=>M rfl rfl (TL.nil (hK2 _ _ (SR fun K3 hK3=>M rfl rfl (TL.nil (hK3 _ _ ?_)))))
 refine TK.seq_k fun K4 hK4=>?_
 refine SR fun K5 hK5=>M rfl rfl (P1 (p_lenL (xs:=slices1) kd22 rfl) rfl rfl (M rfl rfl (TL.nil (hK5 _ _ ?_))))
 refine TK.block ?_
 obtain ⟨o6,hO6,hA6⟩:=bind_some hX
 have E6:∀(size9:Int) (env:Env) (h:Hp),(∃_u:Unit,keepE [0,3] env=[(0,true,Enc.v slices1),(3,true,Enc.v size9)]∧Nd []∧HSub [] h)→X.slices_Concat_Lbyte_byte_e6 slices1 size9=some r→K4 env h:=by
  intro size9 env h hE hX
  obtain ⟨_u,henv,nd,hs⟩:=hE
  unfold X.slices_Concat_Lbyte_byte_e6 at hX
  refine hK4 _ _ (TK.keep [0,3] ?_)
  rw[henv]
  refine TK.subH hs ?_
  refine SR fun K10 hK10=>M rfl rfl ?_
  obtain ⟨r11,hr11,hX⟩:=bind_some hX
  refine TL.tcX [] [] rfl nd (dlt rfl) rfl ⟨rfl,⟨rfl,⟨rfl,trivial⟩⟩⟩ (ok_slices_Grow_Lbyte_byte_nil size9 (Nd.take nd 0 rfl) _ hr11) ?_
  rintro _ _ hQ nd
  obtain ⟨b12,rfl,rfl⟩:=hQ
  refine M rfl rfl (TL.nil (hK10 _ _ ?_))
  refine TK.seq_k fun K13 hK13=>?_
  refine SR fun K14 hK14=>M rfl rfl (P1 (p_lenL (xs:=slices1) kd22 rfl) rfl rfl (M rfl rfl (TL.nil (hK14 _ _ ?_))))
  refine TK.block ?_
  obtain ⟨o15,hO15,hA15⟩:=bind_some hX
  have E15:∀(l20:List UInt8) (env:Env) (h:Hp),(∃b19,keepE [6] env=[(6,true,OL b19 l20)]∧Nd [(b19,RL (α:=UInt8) 5 l20)]∧HSub [(b19,RL (α:=UInt8) 5 l20)] h)→X.slices_Concat_Lbyte_byte_e15 l20=some r→K13 env h:=by
   intro l20 env h hE hX
   obtain ⟨b19,henv,nd,hs⟩:=hE
   unfold X.slices_Concat_Lbyte_byte_e15 at hX
   refine hK13 _ _ (TK.keep [6] ?_)
   rw[henv]
   refine TK.subH hs ?_
   refine SR fun K21 hK21=>M rfl rfl (M rfl rfl (TL.nil (hK21 _ _ ?_)))
   refine TK.lay [(2,L l20)] nd (j:=0) rfl ⟨⟨_,rfl,fix_OL nd (j:=0) rfl,rfl⟩,trivial⟩ fun nd=>?_
   refine TK.ret ?_
   try dsimp only[thenQ]
   exact R1 rfl hX
  refine TK.iter [6,25,26,27] (fun s env h=>match s with|(newslice17,x18)=>∃b16,env=[(6,true,OL b16 newslice17),(25,true,Enc.v slices1),(26,true,Enc.v ((slices1.length:Int):Int)),(27,true,Enc.v x18)]∧Nd [(b16,RL (α:=UInt8) 5 newslice17)]∧HSub [(b16,RL (α:=UInt8) 5 newslice17)] h) hO15 ⟨b12,rfl,(Nd.pick nd (is:=[0]) Dc),(HSub.pick nd (is:=[0]) Dc)⟩ ?_
  rintro ⟨newslice17,x18⟩ env h x15x ⟨b16,rfl,nd,hs⟩ hX hR15
  refine TK.subH hs ?_
  unfold X.slices_Concat_Lbyte_byte_s15 at hX
  try dsimp only at hX
  refine SR fun K22 hK22=>P1 (p_lss rfl rfl) rfl rfl (TL.nil (hK22 _ _ ?_))
  refine TK.seq_k fun K23 hK23=>?_
  refine TK.cond (b:=(decide (x18<(slices1.length:Int)))) rfl (fun hc=>?_) (fun hc=>?_)
  ·have hX:=ite_t hc hX
   refine TK.skip ?_
   refine hK23 _ _ ?_
   refine TK.seq_k fun K24 hK24=>?_
   refine TK.block ?_
   refine SR fun K25 hK25=>?_
   obtain ⟨e26,he26,hX⟩:=bind_some hX
   refine P1 (p_iaL (xs:=slices1) kd22 ty25 rfl rfl rfl (fun _=>he26)) rfl rfl (P1 (p_ldE (xs:=slices1) (a:=e26) (e26:(List UInt8)) ty25 rfl rfl (fun _=>he26) rfl rfl rfl) rfl rfl (M rfl rfl (TL.nil (hK25 _ _ ?_))))
   refine TK.reg ?_
   refine M rfl rfl (M rfl rfl ?_)
   obtain ⟨u27,hu27,hX⟩:=bind_some hX
   refine TLc.appO nd kd25 bo25 ty5 rfl rfl (j:=0) rfl rfl (Src_L _) Dc (need_t hu27) rfl fun nd=>?_
   refine M rfl rfl (TL.nil (hK24 _ _ ?_))
   refine TK.reg ?_
   refine P1 (p_add rfl rfl) rfl rfl (M rfl rfl (TL.nil ?_))
   exact ⟨_,(some_in hX).symm,b16,rfl,(Nd.pick nd (is:=[0]) Dc),(HSub.pick nd (is:=[0]) Dc)⟩
  ·have hX:=ite_f hc hX
   refine TK.exit ?_
   obtain rfl:=hR15 _ (some_in hX).symm
   exact E15 newslice17 _ _ ⟨b16,rfl,(Nd.pick nd (is:=[0]) Dc),(HSub.pick nd (is:=[0]) Dc)⟩ hA15
 refine TK.iter [0,3,9,10,11] (fun s env h=>match s with|(size7,x8)=>∃_u:Unit,env=[(0,true,Enc.v slices1),(3,true,Enc.v size7),(9,true,Enc.v slices1),(10,true,Enc.v ((slices1.length:Int):Int)),(11,true,Enc.v x8)]∧Nd []∧HSub [] h) hO6 ⟨(),rfl,Nd_nil,HSub.refl _⟩ ?_
 rintro ⟨size7,x8⟩ env h x6x ⟨_u,rfl,nd,hs⟩ hX hR6
 refine TK.subH hs ?_
 unfold X.slices_Concat_Lbyte_byte_s6 at hX
 try dsimp only at hX
 refine SR fun K28 hK28=>P1 (p_lss rfl rfl) rfl rfl (TL.nil (hK28 _ _ ?_))
 refine TK.seq_k fun K29 hK29=>?_
 refine TK.cond (b:=(decide (x8<(slices1.length:Int)))) rfl (fun hc=>?_) (fun hc=>?_)
 ·have hX:=ite_t hc hX
  refine TK.skip ?_
  refine hK29 _ _ ?_
  refine TK.seq_k fun K30 hK30=>?_
  refine TK.block ?_
  refine SR fun K31 hK31=>?_
  obtain ⟨e32,he32,hX⟩:=bind_some hX
  refine P1 (p_iaL (xs:=slices1) kd22 ty25 rfl rfl rfl (fun _=>he32)) rfl rfl (P1 (p_ldE (xs:=slices1) (a:=e32) (e32:(List UInt8)) ty25 rfl rfl (fun _=>he32) rfl rfl rfl) rfl rfl (M rfl rfl (TL.nil (hK31 _ _ (SR fun K33 hK33=>M rfl rfl (M rfl rfl (P1 (p_lenL (xs:=e32) kd25 rfl) rfl rfl (P1 (p_add rfl rfl) rfl rfl (M rfl rfl (TL.nil (hK33 _ _ (SR fun K34 hK34=>M rfl rfl ?_))))))))))))
  refine P1 (p_lss rfl rfl) rfl rfl (TL.nil (hK34 _ _ ?_))
  refine TK.cond (b:=(decide ((wr (size7+(e32.length:Int)))<(0:Int)))) rfl (fun hc=>?_) (fun hc=>?_)
  ·have hX:=ite_t hc hX
   refine TK.reg ?_
   cases hX
  ·have hX:=ite_f hc hX
   refine TK.skip ?_
   refine hK30 _ _ ?_
   refine TK.reg ?_
   refine P1 (p_add rfl rfl) rfl rfl (M rfl rfl (TL.nil ?_))
   exact ⟨_,(some_in hX).symm,(),rfl,Nd_nil,HSub.refl _⟩
 ·have hX:=ite_f hc hX
  refine TK.exit ?_
  obtain rfl:=hR6 _ (some_in hX).symm
  exact E6 size7 _ _ ⟨(),rfl,Nd_nil,HSub.refl _⟩ hA6
theorem ok_matrix_beside (m1:(List (List UInt8))) (nd:Nd []) (r:(List (List UInt8))) (hX:X.matrix_beside m1=some r):TCX Try.prog 121 [Enc.v (m1:(List (List UInt8)))] [] (fun rv h'=>∃b26,rv=OL (α:=(List UInt8)) b26 r∧h'=[(b26,RL (α:=(List UInt8)) 25 r)]):=by
 refine TCX.of b121 (Nat.le_of_ble_eq_true rfl) ?_
 unfold k121
 unfold X.matrix_beside at hX
 refine SR fun K2 hK2=>M rfl rfl (TL.nil (hK2 _ _ (SR fun K3 hK3=>M rfl rfl (TL.nil (hK3 _ _ ?_)))))
 refine TK.ownL (α:=(List UInt8)) 3 25 nd rfl (.inl rfl) fun b4 nd=>?_
 refine TK.seq_k fun K5 hK5=>?_
 refine SR fun K6 hK6=>M rfl rfl (P1 (p_lenL (xs:=m1) kd22 rfl) rfl rfl (M rfl rfl (TL.nil (hK6 _ _ ?_))))
 refine TK.block ?_
 obtain ⟨o7,hO7,hA7⟩:=bind_some hX
 have E7:∀(l12:List (List UInt8)) (env:Env) (h:Hp),(∃b11,keepE [3] env=[(3,true,OL b11 l12)]∧Nd [(b11,RL (α:=(List UInt8)) 25 l12)]∧HSub [(b11,RL (α:=(List UInt8)) 25 l12)] h)→X.matrix_beside_e7 l12=some r→K5 env h:=by
  intro l12 env h hE hX
  obtain ⟨b11,henv,nd,hs⟩:=hE
  unfold X.matrix_beside_e7 at hX
  refine hK5 _ _ (TK.keep [3] ?_)
  rw[henv]
  refine TK.subH hs ?_
  refine SR fun K13 hK13=>M rfl rfl (M rfl rfl (TL.nil (hK13 _ _ ?_)))
  refine TK.ret ?_
  try dsimp only[thenQ]
  exact retX (v:=OL b11 l12) (res1 rfl) (by obtain rfl:=some_in hX;exact ⟨b11,rfl,rfl⟩) nd (inH_rs nd (j:=0) rfl) ⟨rowIn_RL,trivial⟩
 refine TK.iter [0,3,7,8,9] (fun s env h=>match s with|(out9,x10)=>∃b8,env=[(0,true,Enc.v m1),(3,true,OL b8 out9),(7,true,Enc.v m1),(8,true,Enc.v ((m1.length:Int):Int)),(9,true,Enc.v x10)]∧Nd [(b8,RL (α:=(List UInt8)) 25 out9)]∧HSub [(b8,RL (α:=(List UInt8)) 25 out9)] h) hO7 ⟨b4,rfl,(Nd.pick nd (is:=[0]) Dc),(HSub.pick nd (is:=[0]) Dc)⟩ ?_
 rintro ⟨out9,x10⟩ env h x7x ⟨b8,rfl,nd,hs⟩ hX hR7
 refine TK.subH hs ?_
 unfold X.matrix_beside_s7 at hX
 try dsimp only at hX
 refine SR fun K14 hK14=>P1 (p_lss rfl rfl) rfl rfl (TL.nil (hK14 _ _ ?_))
 refine TK.seq_k fun K15 hK15=>?_
 refine TK.cond (b:=(decide (x10<(m1.length:Int)))) rfl (fun hc=>?_) (fun hc=>?_)
 ·have hX:=ite_t hc hX
  refine TK.skip ?_
  refine hK15 _ _ ?_
  refine TK.seq_k fun K16 hK16=>?_
  refine TK.block ?_
  refine SR fun K17 hK17=>M rfl rfl ?_
  obtain ⟨e18,he18,hX⟩:=bind_some hX
  refine P1 (p_iaL (xs:=m1) kd22 ty25 rfl rfl rfl (fun _=>he18)) rfl rfl (P1 (p_ldE (xs:=m1) (a:=e18) (e18:(List UInt8)) ty25 rfl rfl (fun _=>he18) rfl rfl rfl) rfl rfl (M rfl rfl (M rfl rfl (TL.nil (hK17 _ _ (SR fun K19 hK19=>M rfl rfl (P1 (p_lenL (xs:=m1) kd22 rfl) rfl rfl ?_)))))))
  obtain ⟨u20,hu20,hX⟩:=bind_some hX
  refine TLc.mkO nd (0:UInt8) kd25 ty5 rfl (fun j hj=>by (have:j=0:=by simpa[Enc.sz] using hj);subst this;rfl) rfl rfl Dc (need_t hu20) rfl fun b21 nd=>?_
  refine M rfl rfl (TL.nil (hK19 _ _ (SR fun K22 hK22=>M rfl rfl (M rfl rfl ?_))))
  obtain ⟨e23,he23,hX⟩:=bind_some hX
  refine P1 (p_iaO (xs:=(List.replicate (m1.length:Int).toNat (0:UInt8))) kd25 ty5 rfl rfl rfl nd (j:=0) rfl (fun _=>he23)) rfl rfl ?_
  refine TLc.stW (xs:=(List.replicate (m1.length:Int).toNat (0:UInt8))) (i:=x10) (lu:=Enc.cl ((1:UInt8):UInt8)) (a':=(1:UInt8)) nd ty5 rfl (j:=0) rfl (by simp[Enc.sz]) (inb_of he23 (by simp)) rfl (Cells_v ((1:UInt8):UInt8)) rfl (WkL_refl _) fun nd=>?_
  refine TL.cv 6 (OL b21 ((List.replicate (m1.length:Int).toNat (0:UInt8)).set x10.toNat (1:UInt8))) rfl (Wk_eq (OL_len (by simp))) ?_
  refine TL.nil (hK22 _ _ ?_)
  refine TK.reg ?_
  refine M rfl rfl (M rfl rfl (M rfl rfl ?_))
  refine TL.lay [(22,L ((List.replicate (m1.length:Int).toNat (0:UInt8)).set x10.toNat (1:UInt8)))] nd (j:=0) rfl ⟨⟨_,rfl,fix_OL nd (j:=0) rfl,rfl⟩,trivial⟩ fun nd=>?_
  refine TLc.lit ([e18,((List.replicate (m1.length:Int).toNat (0:UInt8)).set x10.toNat (1:UInt8))]:List (List UInt8)) kd22 ty25 rfl ⟨⟨rfl,rfl⟩,⟨rfl,rfl⟩,trivial⟩ rfl rfl rfl ?_
  obtain ⟨r24,hr24,hX⟩:=bind_some hX
  refine TL.cvX rfl rfl rfl (fun _=>⟨rfl,⟨rfl,trivial⟩⟩) (fun e=>ok_slices_Concat_Lbyte_byte ([e18,((List.replicate (m1.length:Int).toNat (0:UInt8)).set x10.toNat (1:UInt8))]:List (List UInt8)) _ hr24) ?_
  refine TLc.lit ([r24]:List (List UInt8)) kd22 ty25 rfl ⟨⟨rfl,rfl⟩,trivial⟩ rfl rfl rfl ?_
  obtain ⟨u25,hu25,hX⟩:=bind_some hX
  refine TLc.appO nd kd22 bo22 ty25 rfl rfl (j:=0) rfl rfl (Src_L _) Dc (need_t hu25) rfl fun nd=>?_
  refine M rfl rfl (TL.nil (hK16 _ _ ?_))
  refine TK.reg ?_
  refine P1 (p_add rfl rfl) rfl rfl (M rfl rfl (TL.nil ?_))
  exact ⟨_,(some_in hX).symm,b8,rfl,(Nd.pick nd (is:=[0]) Dc),(HSub.pick nd (is:=[0]) Dc)⟩
 ·have hX:=ite_f hc hX
  refine TK.exit ?_
  obtain rfl:=hR7 _ (some_in hX).symm
  exact E7 out9 _ _ ⟨b8,rfl,(Nd.pick nd (is:=[0]) Dc),(HSub.pick nd (is:=[0]) Dc)⟩ hA7
theorem ok_matrix_Inverse_c1 (r1:(List UInt8)) (c2:Int) (r:Bool) (hX:X.matrix_Inverse_c1 r1 c2=some r):Fun Try.prog 123 [Enc.v (r1:(List UInt8)),.vref (ofL [Enc.v (c2:Int)]) 1 0] (·=Enc.v (r:Bool)):=by
 refine Fun.of b123 (Nat.le_of_ble_eq_true rfl) (allVal.mem ⟨(by exact (v_val _)),(by exact (vref_val (l:=[Enc.v (c2:Int)]) rfl ⟨(v_val _),trivial⟩)),trivial⟩) ?_
 unfold k123
 have nd:Nd []:=Nd_nil
 unfold X.matrix_Inverse_c1 at hX
 refine SR fun K3 hK3=>M rfl rfl (TL.nil (hK3 _ _ (SR fun K4 hK4=>M rfl rfl (P1 (p_ldR (v:=Enc.v c2) ty3 rfl rfl rfl rfl rfl rfl) rfl rfl ?_))))
 obtain ⟨e5,he5,hX⟩:=bind_some hX
 refine P1 (p_iaL (xs:=r1) kd25 ty5 rfl rfl rfl (fun _=>he5)) rfl rfl (P1 (p_ldE (xs:=r1) (a:=e5) (e5:UInt8) ty5 rfl rfl (fun _=>he5) rfl rfl rfl) rfl rfl (P1 (p8_neq (a:=e5) (b:=(0:UInt8)) rfl rfl) rfl rfl (M rfl rfl (TL.nil (hK4 _ _ ?_)))))
 refine TK.ret ?_
 try dsimp only[thenQ]
 exact R1 rfl hX
theorem ok_matrix_scaled (r1:(List UInt8)) (by2:UInt8) (r:(List UInt8)) (hX:X.matrix_scaled r1 by2=some r):Fun Try.prog 124 [Enc.v (r1:(List UInt8)),Enc.v (by2:UInt8)] (·=Enc.v (r:(List UInt8))):=by
 refine Fun.of b124 (Nat.le_of_ble_eq_true rfl) (allVal.mem ⟨(by exact (v_val _)),(by exact (v_val _)),trivial⟩) ?_
 unfold k124
 have nd:Nd []:=Nd_nil
 unfold X.matrix_scaled at hX
 refine SR fun K3 hK3=>M rfl rfl (TL.nil (hK3 _ _ (SR fun K4 hK4=>M rfl rfl (P1 (p_lenL (xs:=r1) kd25 rfl) rfl rfl ?_))))
 obtain ⟨u5,hu5,hX⟩:=bind_some hX
 refine TLc.mkO nd (0:UInt8) kd25 ty5 rfl (fun j hj=>by (have:j=0:=by simpa[Enc.sz] using hj);subst this;rfl) rfl rfl Dc (need_t hu5) rfl fun b6 nd=>?_
 refine M rfl rfl (TL.nil (hK4 _ _ ?_))
 refine TK.seq_k fun K7 hK7=>?_
 refine SR fun K8 hK8=>M rfl rfl (P1 (p_lenL (xs:=r1) kd25 rfl) rfl rfl (M rfl rfl (TL.nil (hK8 _ _ ?_))))
 refine TK.block ?_
 obtain ⟨o9,hO9,hA9⟩:=bind_some hX
 have E9:∀(l14:List UInt8) (env:Env) (h:Hp),(∃b13,keepE [5] env=[(5,true,OL b13 l14)]∧Nd [(b13,RL (α:=UInt8) 5 l14)]∧HSub [(b13,RL (α:=UInt8) 5 l14)] h)→X.matrix_scaled_e9 l14=some r→K7 env h:=by
  intro l14 env h hE hX
  obtain ⟨b13,henv,nd,hs⟩:=hE
  unfold X.matrix_scaled_e9 at hX
  refine hK7 _ _ (TK.keep [5] ?_)
  rw[henv]
  refine TK.subH hs ?_
  refine SR fun K15 hK15=>M rfl rfl (M rfl rfl (TL.nil (hK15 _ _ ?_)))
  refine TK.lay [(4,L l14)] nd (j:=0) rfl ⟨⟨_,rfl,fix_OL nd (j:=0) rfl,rfl⟩,trivial⟩ fun nd=>?_
  refine TK.ret ?_
  try dsimp only[thenQ]
  exact R1 rfl hX
 refine TK.iter [1,5,11,12,13] (fun s env h=>match s with|(out11,x12)=>∃b10,env=[(1,true,Enc.v by2),(5,true,OL b10 out11),(11,true,Enc.v r1),(12,true,Enc.v ((r1.length:Int):Int)),(13,true,Enc.v x12)]∧Nd [(b10,RL (α:=UInt8) 5 out11)]∧HSub [(b10,RL (α:=UInt8) 5 out11)] h) hO9 ⟨b6,rfl,(Nd.pick nd (is:=[0]) Dc),(HSub.pick nd (is:=[0]) Dc)⟩ ?_
 rintro ⟨out11,x12⟩ env h x9x ⟨b10,rfl,nd,hs⟩ hX hR9
 refine TK.subH hs ?_
 unfold X.matrix_scaled_s9 at hX
 try dsimp only at hX
 refine SR fun K16 hK16=>P1 (p_lss rfl rfl) rfl rfl (TL.nil (hK16 _ _ ?_))
 refine TK.seq_k fun K17 hK17=>?_
 refine TK.cond (b:=(decide (x12<(r1.length:Int)))) rfl (fun hc=>?_) (fun hc=>?_)
 ·have hX:=ite_t hc hX
  refine TK.skip ?_
  refine hK17 _ _ ?_
  refine TK.seq_k fun K18 hK18=>?_
  refine TK.block ?_
  refine SR fun K19 hK19=>M rfl rfl ?_
  obtain ⟨e20,he20,hX⟩:=bind_some hX
  refine P1 (p_iaL (xs:=r1) kd25 ty5 rfl rfl rfl (fun _=>he20)) rfl rfl (P1 (p_ldE (xs:=r1) (a:=e20) (e20:UInt8) ty5 rfl rfl (fun _=>he20) rfl rfl rfl) rfl rfl (M rfl rfl (M rfl rfl (TL.nil (hK19 _ _ ?_)))))
  refine TK.reg ?_
  refine M rfl rfl (M rfl rfl (M rfl rfl (M rfl rfl ?_)))
  obtain ⟨r21,hr21,hX⟩:=bind_some hX
  refine TL.cvX rfl rfl rfl (fun _=>⟨rfl,⟨rfl,⟨rfl,trivial⟩⟩⟩) (fun e=>ok_gf_Mul e20 by2 _ hr21) ?_
  obtain ⟨e22,he22,hX⟩:=bind_some hX
  refine P1 (p_iaO (xs:=out11) kd25 ty5 rfl rfl rfl nd (j:=0) rfl (fun _=>he22)) rfl rfl ?_
  refine TLc.stW (xs:=out11) (i:=x12) (lu:=Enc.cl (r21:UInt8)) (a':=r21) nd ty5 rfl (j:=0) rfl (by simp[Enc.sz]) (inb_of he22 (by simp)) rfl (Cells_v (r21:UInt8)) rfl (WkL_refl _) fun nd=>?_
  refine TL.cv 5 (OL b10 (out11.set x12.toNat r21)) rfl (Wk_eq (OL_len (by simp))) ?_
  refine TL.nil (hK18 _ _ ?_)
  refine TK.reg ?_
  refine P1 (p_add rfl rfl) rfl rfl (M rfl rfl (TL.nil ?_))
  exact ⟨_,(some_in hX).symm,b10,rfl,(Nd.pick nd (is:=[0]) Dc),(HSub.pick nd (is:=[0]) Dc)⟩
 ·have hX:=ite_f hc hX
  refine TK.exit ?_
  obtain rfl:=hR9 _ (some_in hX).symm
  exact E9 out11 _ _ ⟨b10,rfl,(Nd.pick nd (is:=[0]) Dc),(HSub.pick nd (is:=[0]) Dc)⟩ hA9
theorem ok_matrix_sum (a1:(List UInt8)) (b2:(List UInt8)) (r:(List UInt8)) (hX:X.matrix_sum a1 b2=some r):Fun Try.prog 125 [Enc.v (a1:(List UInt8)),Enc.v (b2:(List UInt8))] (·=Enc.v (r:(List UInt8))):=by
 refine Fun.of b125 (Nat.le_of_ble_eq_true rfl) (allVal.mem ⟨(by exact (v_val _)),(by exact (v_val _)),trivial⟩) ?_
 unfold k125
 have nd:Nd []:=Nd_nil
 unfold X.matrix_sum at hX
 refine SR fun K3 hK3=>M rfl rfl (TL.nil (hK3 _ _ (SR fun K4 hK4=>M rfl rfl (P1 (p_lenL (xs:=a1) kd25 rfl) rfl rfl ?_))))
 obtain ⟨u5,hu5,hX⟩:=bind_some hX
 refine TLc.mkO nd (0:UInt8) kd25 ty5 rfl (fun j hj=>by (have:j=0:=by simpa[Enc.sz] using hj);subst this;rfl) rfl rfl Dc (need_t hu5) rfl fun b6 nd=>?_
 refine M rfl rfl (TL.nil (hK4 _ _ ?_))
 refine TK.seq_k fun K7 hK7=>?_
 refine SR fun K8 hK8=>M rfl rfl (P1 (p_lenL (xs:=a1) kd25 rfl) rfl rfl (M rfl rfl (TL.nil (hK8 _ _ ?_))))
 refine TK.block ?_
 obtain ⟨o9,hO9,hA9⟩:=bind_some hX
 have E9:∀(l14:List UInt8) (env:Env) (h:Hp),(∃b13,keepE [5] env=[(5,true,OL b13 l14)]∧Nd [(b13,RL (α:=UInt8) 5 l14)]∧HSub [(b13,RL (α:=UInt8) 5 l14)] h)→X.matrix_sum_e9 l14=some r→K7 env h:=by
  intro l14 env h hE hX
  obtain ⟨b13,henv,nd,hs⟩:=hE
  unfold X.matrix_sum_e9 at hX
  refine hK7 _ _ (TK.keep [5] ?_)
  rw[henv]
  refine TK.subH hs ?_
  refine SR fun K15 hK15=>M rfl rfl (M rfl rfl (TL.nil (hK15 _ _ ?_)))
  refine TK.lay [(4,L l14)] nd (j:=0) rfl ⟨⟨_,rfl,fix_OL nd (j:=0) rfl,rfl⟩,trivial⟩ fun nd=>?_
  refine TK.ret ?_
  try dsimp only[thenQ]
  exact R1 rfl hX
 refine TK.iter [0,1,5,11,12] (fun s env h=>match s with|(out11,x12)=>∃b10,env=[(0,true,Enc.v a1),(1,true,Enc.v b2),(5,true,OL b10 out11),(11,true,Enc.v ((a1.length:Int):Int)),(12,true,Enc.v x12)]∧Nd [(b10,RL (α:=UInt8) 5 out11)]∧HSub [(b10,RL (α:=UInt8) 5 out11)] h) hO9 ⟨b6,rfl,(Nd.pick nd (is:=[0]) Dc),(HSub.pick nd (is:=[0]) Dc)⟩ ?_
 rintro ⟨out11,x12⟩ env h x9x ⟨b10,rfl,nd,hs⟩ hX hR9
 refine TK.subH hs ?_
 unfold X.matrix_sum_s9 at hX
 try dsimp only at hX
 refine SR fun K16 hK16=>P1 (p_lss rfl rfl) rfl rfl (TL.nil (hK16 _ _ ?_))
 refine TK.seq_k fun K17 hK17=>?_
 refine TK.cond (b:=(decide (x12<(a1.length:Int)))) rfl (fun hc=>?_) (fun hc=>?_)
 ·have hX:=ite_t hc hX
  refine TK.skip ?_
  refine hK17 _ _ ?_
  refine TK.seq_k fun K18 hK18=>?_
  refine TK.block ?_
  refine SR fun K19 hK19=>M rfl rfl (M rfl rfl (TL.nil (hK19 _ _ ?_)))
  have ndS:Nd []:=Nd.pick nd (is:=[]) Dc
  refine TK.endK fun KD hKD=>?_
  refine TK.drwX (h:=[(b10,RL (α:=UInt8) 5 out11)]) (hS:=[]) [(0,0),(0,1),(0,2),(0,3),(0,4),(0,5),(0,6),(0,7),(0,8),(0,9),(0,10),(1,11),(2,12)] mixed (by kernel_rfl) (HSub_app nd) ?_
  refine DM rfl rfl rfl ?_
  refine DM rfl rfl rfl ?_
  refine DM rfl rfl rfl ?_
  refine DM rfl rfl rfl ?_
  obtain ⟨e20,he20,hX⟩:=bind_some hX
  refine D0 rfl (p_iaL (xs:=a1) kd25 ty5 rfl rfl rfl (fun _=>he20)) rfl rfl ?_
  refine D0 rfl (p_ldE (xs:=a1) (a:=e20) (e20:UInt8) ty5 rfl rfl (fun _=>he20) rfl rfl rfl) rfl rfl ?_
  refine DM rfl rfl rfl ?_
  refine DM rfl rfl rfl ?_
  obtain ⟨e21,he21,hX⟩:=bind_some hX
  refine D0 rfl (p_iaL (xs:=b2) kd25 ty5 rfl rfl rfl (fun _=>he21)) rfl rfl ?_
  refine D0 rfl (p_ldE (xs:=b2) (a:=e21) (e21:UInt8) ty5 rfl rfl (fun _=>he21) rfl rfl rfl) rfl rfl ?_
  obtain ⟨r22,hr22,hX⟩:=bind_some hX
  refine DR0 (gc:=true) rfl (vok_c rfl (fun _=>⟨rfl,⟨rfl,⟨rfl,trivial⟩⟩⟩) (fun e=>ok_gf_Add e20 e21 _ hr22)) rfl rfl ?_
  obtain ⟨e23,he23,hX⟩:=bind_some hX
  refine DR1 (gc:=true) rfl (vok_p (C:=cx) (p_iaO (xs:=out11) kd25 ty5 rfl rfl rfl nd (j:=0) rfl (fun _=>he23))) rfl rfl ?_
  refine DR2n rfl ?_
  refine TLc.stW (xs:=out11) (i:=x12) (lu:=Enc.cl (r22:UInt8)) (a':=r22) nd ty5 rfl (j:=0) rfl (by simp[Enc.sz]) (inb_of he23 (by simp)) rfl (Cells_v (r22:UInt8)) rfl (WkL_refl _) fun nd=>?_
  refine TL.nil ⟨.nilp,[(b10,RL (α:=UInt8) 5 (out11.set x12.toNat r22))],rfl,rfl,HSub_app nd,?_⟩
  refine DRend ?_
  refine hKD _ _ ?_
  refine TL.cv 5 (OL (α:=UInt8) b10 (out11.set x12.toNat r22)) rfl (Wk_eq (OL_len (by simp))) ?_
  refine TL.nil (hK18 _ _ ?_)
  refine TK.reg ?_
  refine P1 (p_add rfl rfl) rfl rfl (M rfl rfl (TL.nil ?_))
  exact ⟨_,(some_in hX).symm,b10,rfl,(Nd.pick nd (is:=[0]) Dc),(HSub.pick nd (is:=[0]) Dc)⟩
 ·have hX:=ite_f hc hX
  refine TK.exit ?_
  obtain rfl:=hR9 _ (some_in hX).symm
  exact E9 out11 _ _ ⟨b10,rfl,(Nd.pick nd (is:=[0]) Dc),(HSub.pick nd (is:=[0]) Dc)⟩ hA9
theorem ok_matrix_Inverse (m1:(List (List UInt8))) (r:((List (List UInt8))×Int)) (hX:X.matrix_Inverse m1=some r):Fun Try.prog 79 [Enc.v (m1:(List (List UInt8)))] (·= .tup 2 (ofL [Enc.v r.1,Enc.v r.2])):=by
 refine Fun.of b79 (Nat.le_of_ble_eq_true rfl) (allVal.mem ⟨(by exact (v_val _)),trivial⟩) ?_
 unfold k79
 have nd:Nd []:=Nd_nil
 unfold X.matrix_Inverse at hX
 refine SR fun K2 hK2=>M rfl rfl (M rfl rfl (TL.nil (hK2 _ _ ?_)))
 refine TK.seq_k fun K3 hK3=>?_
 refine SR fun K4 hK4=>M rfl rfl ?_
 obtain ⟨r5,hr5,hX⟩:=bind_some hX
 refine TL.cvX rfl rfl rfl (fun _=>⟨rfl,⟨rfl,trivial⟩⟩) (fun e=>ok_matrix_Right m1 _ hr5) ?_
 refine P1 (p_not rfl) rfl rfl (M rfl rfl ?_)
 refine TLc.p (gc:=(!((!r5)))) (p_mv rfl (hg:=fun e=>rfl)) (gcF1 rfl) rfl ?_
 refine TLc.p (gc:=(!((!r5)))) (p_lenL (xs:=m1) kd22 rfl (hg:=fun e=>e)) (gcF1 rfl) rfl ?_
 refine TLc.p (gc:=(!((!r5)))) (p_mv rfl (hg:=fun e=>rfl)) (gcF1 rfl) rfl ?_
 obtain ⟨e6,he6,hX⟩:=bind_some hX
 refine TLc.p (gc:=(!((!r5)))) (p_iaL (xs:=m1) kd22 ty25 rfl rfl rfl (fun e=>optG_t he6 e) (hg:=fun e=>⟨e,rfl⟩)) (gcF1 rfl) rfl ?_
 refine TLc.p (gc:=(!((!r5)))) (p_ldE (xs:=m1) (a:=e6) (e6:(List UInt8)) ty25 rfl rfl (fun e=>optG_t he6 e) rfl rfl rfl (hg:=fun e=>e)) (gcF1 rfl) rfl ?_
 refine TLc.p (gc:=(!((!r5)))) (p_lenL (xs:=e6) kd25 rfl (hg:=fun e=>e)) (gcF1 rfl) rfl ?_
 refine TLc.p (gc:=(!((!r5)))) (p_neq rfl rfl (hg:=fun e=>⟨e,e⟩)) (gcF1 rfl) rfl ?_
 refine P1 (p_or rfl rfl (fun e=>⟨rfl,fun h=>(not_t h)⟩)) rfl rfl (TL.nil (hK4 _ _ ?_))
 refine TK.cond (b:=((!r5)||((m1.length:Int) !=(e6.length:Int)))) rfl (fun hc=>?_) (fun hc=>?_)
 ·have hX:=ite_t hc hX
  refine SR fun K7 hK7=>M rfl rfl (M rfl rfl (TL.nil (hK7 _ _ ?_)))
  refine TK.wk 2 (L ([]:(List (List UInt8)))) rfl Wk_nil ?_
  refine TK.ret ?_
  try dsimp only[thenQ]
  exact retN (vs:=[Enc.v (([]:(List (List UInt8))):(List (List UInt8))),Enc.v ((1:Int):Int)]) ⟨rfl,rfl,trivial⟩ (by obtain rfl:=some_in hX;rfl) (allVal.mem ⟨v_val _,v_val _,trivial⟩)
 ·have hX:=ite_f hc hX
  refine TK.skip ?_
  refine hK3 _ _ (SR fun K8 hK8=>M rfl rfl ?_)
  obtain ⟨r9,hr9,hX⟩:=bind_some hX
  refine TL.tcX [] [] rfl nd (dlt rfl) rfl ⟨rfl,⟨rfl,trivial⟩⟩ (ok_matrix_beside m1 (Nd.take nd 0 rfl) _ hr9) ?_
  rintro _ _ hQ nd
  obtain ⟨b10,rfl,rfl⟩:=hQ
  refine M rfl rfl (TL.nil (hK8 _ _ ?_))
  refine TK.seq_k fun K11 hK11=>?_
  refine SR fun K12 hK12=>M rfl rfl (P1 (p_lenR kd22 rfl (fun _=>refOK_of nd (j:=0) rfl rfl)) rfl rfl (M rfl rfl (TL.nil (hK12 _ _ ?_))))
  refine TK.block ?_
  obtain ⟨o13,hO13,hA13⟩:=bind_some hX
  have E13:∀(l18:List (List UInt8)) (env:Env) (h:Hp),(∃b17,keepE [0,4] env=[(0,true,Enc.v m1),(4,true,OL b17 l18)]∧Nd [(b17,RL (α:=(List UInt8)) 25 l18)]∧HSub [(b17,RL (α:=(List UInt8)) 25 l18)] h)→X.matrix_Inverse_e13 m1 l18=some r→K11 env h:=by
   intro l18 env h hE hX
   obtain ⟨b17,henv,nd,hs⟩:=hE
   unfold X.matrix_Inverse_e13 at hX
   refine hK11 _ _ (TK.keep [0,4] ?_)
   rw[henv]
   refine TK.subH hs ?_
   refine SR fun K19 hK19=>M rfl rfl (TL.nil (hK19 _ _ ?_))
   refine TK.ownL (α:=(List UInt8)) 8 25 nd rfl (.inl rfl) fun b20 nd=>?_
   refine TK.seq_k fun K21 hK21=>?_
   refine SR fun K22 hK22=>M rfl rfl (P1 (p_lenR kd22 rfl (fun _=>refOK_of nd (j:=1) rfl rfl)) rfl rfl (M rfl rfl (TL.nil (hK22 _ _ ?_))))
   refine TK.block ?_
   obtain ⟨o23,hO23,hA23⟩:=bind_some hX
   have E23:∀(l29:List (List UInt8)) (env:Env) (h:Hp),(∃b28,keepE [8] env=[(8,true,OL b28 l29)]∧Nd [(b28,RL (α:=(List UInt8)) 25 l29)]∧HSub [(b28,RL (α:=(List UInt8)) 25 l29)] h)→X.matrix_Inverse_e23 l29=some r→K21 env h:=by
    intro l29 env h hE hX
    obtain ⟨b28,henv,nd,hs⟩:=hE
    unfold X.matrix_Inverse_e23 at hX
    refine hK21 _ _ (TK.keep [8] ?_)
    rw[henv]
    refine TK.subH hs ?_
    refine SR fun K30 hK30=>M rfl rfl (M rfl rfl (M rfl rfl (TL.nil (hK30 _ _ ?_))))
    refine TK.lay [(2,L l29)] nd (j:=0) rfl ⟨⟨_,rfl,fix_OL nd (j:=0) rfl,rfl⟩,trivial⟩ fun nd=>?_
    refine TK.ret ?_
    try dsimp only[thenQ]
    exact retN (vs:=[Enc.v l29,Enc.v ((0:Int):Int)]) ⟨rfl,rfl,trivial⟩ (by obtain rfl:=some_in hX;rfl) (allVal.mem ⟨v_val _,v_val _,trivial⟩)
   refine TK.iter [0,8,111,112,113] (fun s env h=>match s with|(out25,x27)=>∃b24 b26,env=[(0,true,Enc.v m1),(8,true,OL b24 out25),(111,true,OL b26 l18),(112,true,Enc.v ((l18.length:Int):Int)),(113,true,Enc.v x27)]∧Nd [(b24,RL (α:=(List UInt8)) 25 out25),(b26,RL (α:=(List UInt8)) 25 l18)]∧HSub [(b24,RL (α:=(List UInt8)) 25 out25),(b26,RL (α:=(List UInt8)) 25 l18)] h) hO23 ⟨b20,b17,rfl,(Nd.pick nd (is:=[0,1]) Dc),(HSub.pick nd (is:=[0,1]) Dc)⟩ ?_
   rintro ⟨out25,x27⟩ env h x23x ⟨b24,b26,rfl,nd,hs⟩ hX hR23
   refine TK.subH hs ?_
   unfold X.matrix_Inverse_s23 at hX
   try dsimp only at hX
   refine SR fun K31 hK31=>P1 (p_lss rfl rfl) rfl rfl (TL.nil (hK31 _ _ ?_))
   refine TK.seq_k fun K32 hK32=>?_
   refine TK.cond (b:=(decide (x27<(l18.length:Int)))) rfl (fun hc=>?_) (fun hc=>?_)
   ·have hX:=ite_t hc hX
    refine TK.skip ?_
    refine hK32 _ _ ?_
    refine TK.seq_k fun K33 hK33=>?_
    refine TK.block ?_
    refine SR fun K34 hK34=>?_
    obtain ⟨e35,he35,hX⟩:=bind_some hX
    refine P1 (p_iaO (xs:=l18) kd22 ty25 rfl rfl rfl nd (j:=1) rfl (fun _=>he35)) rfl rfl (P1 (p_ldO (xs:=l18) (a:=e35) (e35:(List UInt8)) ty25 rfl rfl nd (j:=1) rfl (fun _=>he35) rfl rfl rfl) rfl rfl (M rfl rfl (TL.nil (hK34 _ _ ?_))))
    refine TK.reg ?_
    refine M rfl rfl (M rfl rfl (M rfl rfl (P1 (p_lenL (xs:=m1) kd22 rfl) rfl rfl ?_)))
    obtain ⟨u36,hu36,hX⟩:=bind_some hX
    refine P1 (p_sliL (xs:=e35) (l:=(m1.length:Int)) (k:=(e35.length:Int)) kd25 ty5 rfl rfl rfl rfl (fun e=>need_t hu36)) rfl rfl ?_
    obtain ⟨r37,hr37,hX⟩:=bind_some hX
    refine TL.cvX rfl rfl rfl (fun _=>⟨rfl,⟨rfl,trivial⟩⟩) (fun e=>ok_slices_Clone_Lbyte_byte (slc e35 (m1.length:Int) (e35.length:Int)) _ hr37) ?_
    refine TLc.lit ([r37]:List (List UInt8)) kd22 ty25 rfl ⟨⟨rfl,rfl⟩,trivial⟩ rfl rfl rfl ?_
    obtain ⟨u38,hu38,hX⟩:=bind_some hX
    refine TLc.appO nd kd22 bo22 ty25 rfl rfl (j:=0) rfl rfl (Src_L _) Dc (need_t hu38) rfl fun nd=>?_
    refine M rfl rfl (TL.nil (hK33 _ _ ?_))
    refine TK.reg ?_
    refine P1 (p_add rfl rfl) rfl rfl (M rfl rfl (TL.nil ?_))
    exact ⟨_,(some_in hX).symm,b24,b26,rfl,(Nd.pick nd (is:=[0,1]) Dc),(HSub.pick nd (is:=[0,1]) Dc)⟩
   ·have hX:=ite_f hc hX
    refine TK.exit ?_
    obtain rfl:=hR23 _ (some_in hX).symm
    exact E23 out25 _ _ ⟨b24,rfl,(Nd.pick nd (is:=[0]) Dc),(HSub.pick nd (is:=[0]) Dc)⟩ hA23
  refine TK.iter [0,4,26,27] (fun s env h=>match s with|(l15,x16)=>∃b14,env=[(0,true,Enc.v m1),(4,true,OL b14 l15),(26,true,Enc.v ((r9.length:Int):Int)),(27,true,Enc.v x16)]∧Nd [(b14,RL (α:=(List UInt8)) 25 l15)]∧HSub [(b14,RL (α:=(List UInt8)) 25 l15)] h) hO13 ⟨b10,rfl,(Nd.pick nd (is:=[0]) Dc),(HSub.pick nd (is:=[0]) Dc)⟩ ?_
  rintro ⟨l15,x16⟩ env h x13x ⟨b14,rfl,nd,hs⟩ hX hR13
  refine TK.subH hs ?_
  unfold X.matrix_Inverse_s13 at hX
  try dsimp only at hX
  refine SR fun K39 hK39=>P1 (p_lss rfl rfl) rfl rfl (TL.nil (hK39 _ _ ?_))
  refine TK.seq_k fun K40 hK40=>?_
  refine TK.cond (b:=(decide (x16<(r9.length:Int)))) rfl (fun hc=>?_) (fun hc=>?_)
  ·have hX:=ite_t hc hX
   refine TK.skip ?_
   refine hK40 _ _ ?_
   refine TK.seq_k fun K41 hK41=>?_
   refine TK.block ?_
   refine SR fun K42 hK42=>M rfl rfl ?_
   refine TLc.alO (l:=[Enc.v ((0:Int):Int)]) nd ty3 ti3_z rfl rfl fun b43 nd=>?_
   refine TLc.stV (lu:=Enc.cl (x16:Int)) nd ty3 rfl (j:=0) rfl rfl rfl (Cells_v (x16:Int)) rfl rfl [Enc.v x16] rfl fun nd=>?_
   refine TL.nil (hK42 _ _ (SR fun K44 hK44=>M rfl rfl (P1 (p_ldV (v:=Enc.v x16) ty3 rfl rfl nd (j:=0) rfl rfl rfl rfl rfl) rfl rfl ?_)))
   obtain ⟨u45,hu45,hX⟩:=bind_some hX
   refine P1 (p_sliO (xs:=l15) (l:=x16) (k:=(l15.length:Int)) kd22 ty25 rfl rfl nd (j:=1) rfl rfl rfl (fun e=>need_t hu45)) rfl rfl ?_
   refine TL.lay [(5,.vref (ofL [Enc.v x16]) 1 0)] nd (j:=0) rfl ⟨⟨_,rfl,fix_ref nd (j:=0) rfl,rfl⟩,trivial⟩ fun nd=>?_
   refine P1 (p_mf (l:=[.vref (ofL [Enc.v x16]) 1 0]) rfl (fun _=>⟨rfl,trivial⟩)) rfl rfl ?_
   obtain ⟨r46,hr46,hX⟩:=bind_some hX
   refine TL.lookX [L (slc l15 x16 (l15.length:Int)),.fn 123 1 (ofL [.vref (ofL [Enc.v x16]) 1 0])] rfl rfl rfl (fun _=>⟨rfl,⟨rfl,⟨rfl,trivial⟩⟩⟩) ⟨look_OS nd (j:=0) rfl (need_t hu45).1,look_v (caps_val rfl ⟨(vref_val (l:=[Enc.v x16]) rfl ⟨(v_val _),trivial⟩),trivial⟩),trivial⟩ (fun e=>ok_slices_IndexFunc_LLbyte_Lbyte (slc l15 x16 (l15.length:Int)) (fun a1=>X.matrix_Inverse_c1 a1 x16) _ hr46 ⟨123,1,ofL [.vref (ofL [Enc.v x16]) 1 0],rfl,(caps_val rfl ⟨(vref_val (l:=[Enc.v x16]) rfl ⟨(v_val _),trivial⟩),trivial⟩),fun a1 r hr=>ok_matrix_Inverse_c1 a1 x16 r hr⟩) (trivial) ?_
   refine M rfl rfl (TL.nil (hK44 _ _ ?_))
   refine TK.seq_k fun K47 hK47=>?_
   refine SR fun K48 hK48=>M rfl rfl (P1 (p_lss rfl rfl) rfl rfl (TL.nil (hK48 _ _ ?_)))
   refine TK.cond (b:=(decide (r46<(0:Int)))) rfl (fun hc=>?_) (fun hc=>?_)
   ·have hX:=ite_t hc hX
    refine SR fun K49 hK49=>M rfl rfl (M rfl rfl (TL.nil (hK49 _ _ ?_)))
    refine TK.wk 2 (L ([]:(List (List UInt8)))) rfl Wk_nil ?_
    refine TK.ret ?_
    obtain rfl:=hR13 _ (some_in hX).symm
    replace hX:=hA13
    try dsimp only[thenQ]
    exact retN (vs:=[Enc.v (([]:(List (List UInt8))):(List (List UInt8))),Enc.v ((12:Int):Int)]) ⟨rfl,rfl,trivial⟩ (by obtain rfl:=some_in hX;rfl) (allVal.mem ⟨v_val _,v_val _,trivial⟩)
   ·have hX:=ite_f hc hX
    refine TK.skip ?_
    refine hK47 _ _ ?_
    refine TK.seq_k fun K50 hK50=>?_
    have ndS:Nd []:=Nd.pick nd (is:=[]) Dc
    refine TK.endK fun KD hKD=>?_
    refine TK.drwX (h:=[(b14,RL (α:=(List UInt8)) 25 l15)]) (hS:=[]) [(0,0),(0,1),(0,2),(0,3),(0,4),(0,5),(0,6),(0,7),(0,8),(0,9),(1,10),(1,11),(0,12),(0,13),(1,14),(1,15),(1,16),(2,17),(1,18),(2,19)] mixed (by kernel_rfl) (HSub_app nd) ?_
    refine DM rfl rfl rfl ?_
    refine D0 rfl (p_ldR (v:=Enc.v x16) ty3 rfl rfl rfl rfl rfl rfl) rfl rfl ?_
    refine DM rfl rfl rfl ?_
    refine D0 rfl (p_ldR (v:=Enc.v x16) ty3 rfl rfl rfl rfl rfl rfl) rfl rfl ?_
    refine DM rfl rfl rfl ?_
    refine D0 rfl (p_add rfl rfl) rfl rfl ?_
    refine DM rfl rfl rfl ?_
    refine D0 rfl (p_ldR (v:=Enc.v x16) ty3 rfl rfl rfl rfl rfl rfl) rfl rfl ?_
    refine DM rfl rfl rfl ?_
    refine D0 rfl (p_add rfl rfl) rfl rfl ?_
    obtain ⟨e51,he51,hX⟩:=bind_some hX
    refine DR1 (gc:=true) rfl (vok_p (C:=cx) (p_iaO (xs:=l15) kd22 ty25 rfl rfl rfl nd (j:=0) rfl (fun _=>he51))) rfl rfl ?_
    refine DR1 (gc:=true) rfl (vok_p (C:=cx) (p_ldO (xs:=l15) (a:=e51) (e51:(List UInt8)) ty25 rfl rfl nd (j:=0) rfl (fun _=>he51) rfl rfl rfl)) rfl rfl ?_
    refine DM rfl rfl rfl ?_
    refine D0 rfl (p_ldR (v:=Enc.v x16) ty3 rfl rfl rfl rfl rfl rfl) rfl rfl ?_
    obtain ⟨e52,he52,hX⟩:=bind_some hX
    refine DR1 (gc:=true) rfl (vok_p (C:=cx) (p_iaO (xs:=l15) kd22 ty25 rfl rfl rfl nd (j:=0) rfl (fun _=>he52))) rfl rfl ?_
    refine DR1 (gc:=true) rfl (vok_p (C:=cx) (p_ldO (xs:=l15) (a:=e52) (e52:(List UInt8)) ty25 rfl rfl nd (j:=0) rfl (fun _=>he52) rfl rfl rfl)) rfl rfl ?_
    obtain ⟨e53,he53,hX⟩:=bind_some hX
    refine DR1 (gc:=true) rfl (vok_p (C:=cx) (p_iaO (xs:=l15) kd22 ty25 rfl rfl rfl nd (j:=0) rfl (fun _=>he53))) rfl rfl ?_
    refine DR2n rfl ?_
    refine TLc.stW (xs:=l15) (i:=x16) (lu:=Enc.cl (e51:(List UInt8))) (a':=e51) nd ty25 rfl (j:=0) rfl (by simp[Enc.sz]) (inb_of he53 (by simp)) rfl (Cells_v (e51:(List UInt8))) rfl (WkL_refl _) fun nd=>?_
    refine TL.nil ⟨.nilp,[(b14,RL (α:=(List UInt8)) 25 (l15.set x16.toNat e51))],rfl,rfl,HSub_app nd,?_⟩
    obtain ⟨e54,he54,hX⟩:=bind_some hX
    refine DR1 (gc:=true) rfl (vok_p (C:=cx) (p_iaO (xs:=(l15.set x16.toNat e51)) (gx:=true) kd22 ty25 rfl (by rw[OL_len (xs:=(l15.set x16.toNat e51)) (ys:=l15) (by simp)];rfl) rfl nd (j:=0) rfl (fun _=>he54))) rfl rfl ?_
    refine DR2n rfl ?_
    refine TLc.stW (xs:=(l15.set x16.toNat e51)) (i:=(wr (x16+r46))) (lu:=Enc.cl (e52:(List UInt8))) (a':=e52) nd ty25 rfl (j:=0) rfl (by simp[Enc.sz]) (inb_of he54 (by simp)) rfl (Cells_v (e52:(List UInt8))) rfl (WkL_refl _) fun nd=>?_
    refine TL.nil ⟨.nilp,[(b14,RL (α:=(List UInt8)) 25 ((l15.set x16.toNat e51).set (wr (x16+r46)).toNat e52))],rfl,rfl,HSub_app nd,?_⟩
    refine DRend ?_
    refine hKD _ _ ?_
    refine TL.cv 4 (OL (α:=(List UInt8)) b14 ((l15.set x16.toNat e51).set (wr (x16+r46)).toNat e52)) rfl (Wk_eq (OL_len (by simp))) ?_
    refine TL.nil (hK50 _ _ ?_)
    refine TK.seq_k fun K55 hK55=>?_
    have ndS:Nd []:=Nd.pick nd (is:=[]) Dc
    refine TK.endK fun KD hKD=>?_
    refine TK.drwX (h:=[(b14,RL (α:=(List UInt8)) 25 ((l15.set x16.toNat e51).set (wr (x16+r46)).toNat e52))]) (hS:=[]) [(0,0),(0,1),(0,2),(0,3),(1,4),(1,5),(0,6),(0,7),(1,8),(1,9),(0,10),(0,11),(0,12),(0,13),(0,14),(1,15),(2,16)] mixed (by kernel_rfl) (HSub_app nd) ?_
    refine DM rfl rfl rfl ?_
    refine D0 rfl (p_ldR (v:=Enc.v x16) ty3 rfl rfl rfl rfl rfl rfl) rfl rfl ?_
    refine DM rfl rfl rfl ?_
    refine D0 rfl (p_ldR (v:=Enc.v x16) ty3 rfl rfl rfl rfl rfl rfl) rfl rfl ?_
    obtain ⟨e56,he56,hX⟩:=bind_some hX
    refine DR1 (gc:=true) rfl (vok_p (C:=cx) (p_iaO (xs:=((l15.set x16.toNat e51).set (wr (x16+r46)).toNat e52)) kd22 ty25 rfl rfl rfl nd (j:=0) rfl (fun _=>he56))) rfl rfl ?_
    refine DR1 (gc:=true) rfl (vok_p (C:=cx) (p_ldO (xs:=((l15.set x16.toNat e51).set (wr (x16+r46)).toNat e52)) (a:=e56) (e56:(List UInt8)) ty25 rfl rfl nd (j:=0) rfl (fun _=>he56) rfl rfl rfl)) rfl rfl ?_
    refine DM rfl rfl rfl ?_
    refine D0 rfl (p_ldR (v:=Enc.v x16) ty3 rfl rfl rfl rfl rfl rfl) rfl rfl ?_
    obtain ⟨e57,he57,hX⟩:=bind_some hX
    refine DR1 (gc:=true) rfl (vok_p (C:=cx) (p_iaO (xs:=((l15.set x16.toNat e51).set (wr (x16+r46)).toNat e52)) kd22 ty25 rfl rfl rfl nd (j:=0) rfl (fun _=>he57))) rfl rfl ?_
    refine DR1 (gc:=true) rfl (vok_p (C:=cx) (p_ldO (xs:=((l15.set x16.toNat e51).set (wr (x16+r46)).toNat e52)) (a:=e57) (e57:(List UInt8)) ty25 rfl rfl nd (j:=0) rfl (fun _=>he57) rfl rfl rfl)) rfl rfl ?_
    refine D0 rfl (p_ldR (v:=Enc.v x16) ty3 rfl rfl rfl rfl rfl rfl) rfl rfl ?_
    obtain ⟨e58,he58,hX⟩:=bind_some hX
    refine D0 rfl (p_iaL (xs:=e57) kd25 ty5 rfl rfl rfl (fun _=>he58)) rfl rfl ?_
    refine D0 rfl (p_ldE (xs:=e57) (a:=e58) (e58:UInt8) ty5 rfl rfl (fun _=>he58) rfl rfl rfl) rfl rfl ?_
    obtain ⟨r59,hr59,hX⟩:=bind_some hX
    refine DR0 (gc:=true) rfl (vok_c rfl (fun _=>⟨rfl,⟨rfl,trivial⟩⟩) (fun e=>ok_gf_Inv e58 _ hr59)) rfl rfl ?_
    obtain ⟨r60,hr60,hX⟩:=bind_some hX
    refine DR0 (gc:=true) rfl (vok_c rfl (fun _=>⟨rfl,⟨rfl,⟨rfl,trivial⟩⟩⟩) (fun e=>ok_matrix_scaled e56 r59 _ hr60)) rfl rfl ?_
    obtain ⟨e61,he61,hX⟩:=bind_some hX
    refine DR1 (gc:=true) rfl (vok_p (C:=cx) (p_iaO (xs:=((l15.set x16.toNat e51).set (wr (x16+r46)).toNat e52)) kd22 ty25 rfl rfl rfl nd (j:=0) rfl (fun _=>he61))) rfl rfl ?_
    refine DR2n rfl ?_
    refine TLc.stW (xs:=((l15.set x16.toNat e51).set (wr (x16+r46)).toNat e52)) (i:=x16) (lu:=Enc.cl (r60:(List UInt8))) (a':=r60) nd ty25 rfl (j:=0) rfl (by simp[Enc.sz]) (inb_of he61 (by simp)) rfl (Cells_v (r60:(List UInt8))) rfl (WkL_refl _) fun nd=>?_
    refine TL.nil ⟨.nilp,[(b14,RL (α:=(List UInt8)) 25 (((l15.set x16.toNat e51).set (wr (x16+r46)).toNat e52).set x16.toNat r60))],rfl,rfl,HSub_app nd,?_⟩
    refine DRend ?_
    refine hKD _ _ ?_
    refine TL.cv 4 (OL (α:=(List UInt8)) b14 (((l15.set x16.toNat e51).set (wr (x16+r46)).toNat e52).set x16.toNat r60)) rfl (Wk_eq (OL_len (by simp))) ?_
    refine TL.nil (hK55 _ _ (SR fun K62 hK62=>M rfl rfl (P1 (p_lenR kd22 rfl (fun _=>refOK_of nd (j:=0) rfl rfl)) rfl rfl (M rfl rfl (TL.nil (hK62 _ _ ?_))))))
    refine TK.block ?_
    obtain ⟨o63,hO63,hA63⟩:=bind_some hX
    have E63:∀(l68:List (List UInt8)) (env:Env) (h:Hp),(∃b67,keepE [0,4,26,27] env=[(0,true,Enc.v m1),(4,true,OL b67 l68),(26,true,Enc.v ((r9.length:Int):Int)),(27,true,Enc.v x16)]∧Nd [(b67,RL (α:=(List UInt8)) 25 l68)]∧HSub [(b67,RL (α:=(List UInt8)) 25 l68)] h)→X.matrix_Inverse_e63 x16 l68=some x13x→K41 env h:=by
     intro l68 env h hE hX
     obtain ⟨b67,henv,nd,hs⟩:=hE
     unfold X.matrix_Inverse_e63 at hX
     refine hK41 _ _ (TK.keep [0,4,26,27] ?_)
     rw[henv]
     refine TK.subH hs ?_
     refine TK.reg ?_
     refine P1 (p_add rfl rfl) rfl rfl (M rfl rfl (TL.nil ?_))
     exact ⟨_,(some_in hX).symm,b67,rfl,(Nd.pick nd (is:=[0]) Dc),(HSub.pick nd (is:=[0]) Dc)⟩
    refine TK.iter [0,4,5,26,27,72,73] (fun s env h=>match s with|(l65,x66)=>∃b64,env=[(0,true,Enc.v m1),(4,true,OL b64 l65),(5,true,.vref (ofL [Enc.v x16]) 1 0),(26,true,Enc.v ((r9.length:Int):Int)),(27,true,Enc.v x16),(72,true,Enc.v (((((l15.set x16.toNat e51).set (wr (x16+r46)).toNat e52).set x16.toNat r60).length:Int):Int)),(73,true,Enc.v x66)]∧Nd [(b64,RL (α:=(List UInt8)) 25 l65)]∧HSub [(b64,RL (α:=(List UInt8)) 25 l65)] h) hO63 ⟨b14,rfl,(Nd.pick nd (is:=[0]) Dc),(HSub.pick nd (is:=[0]) Dc)⟩ ?_
    rintro ⟨l65,x66⟩ env h x63x ⟨b64,rfl,nd,hs⟩ hX hR63
    refine TK.subH hs ?_
    unfold X.matrix_Inverse_s63 at hX
    try dsimp only at hX
    refine SR fun K69 hK69=>P1 (p_lss rfl rfl) rfl rfl (TL.nil (hK69 _ _ ?_))
    refine TK.seq_k fun K70 hK70=>?_
    refine TK.cond (b:=(decide (x66<((((l15.set x16.toNat e51).set (wr (x16+r46)).toNat e52).set x16.toNat r60).length:Int)))) rfl (fun hc=>?_) (fun hc=>?_)
    ·have hX:=ite_t hc hX
     refine TK.skip ?_
     refine hK70 _ _ ?_
     refine TK.seq_k fun K71 hK71=>?_
     refine TK.block ?_
     refine SR fun K72 hK72=>M rfl rfl (M rfl rfl (TL.nil (hK72 _ _ ?_)))
     refine TK.seq_k fun K73 hK73=>?_
     have ndS:Nd [(b64,RL (α:=(List UInt8)) 25 l65)]:=Nd.pick nd (is:=[0]) Dc
     refine TK.drwX (h:=[]) (hS:=[(b64,RL (α:=(List UInt8)) 25 l65)]) [(0,0),(0,1),(0,2),(0,3),(0,4),(0,5),(0,6),(0,7),(0,8),(0,9),(0,10),(0,11),(0,12)] mixed (by kernel_rfl) (HSub_app nd) ?_
     refine DM rfl rfl rfl ?_
     refine D0 rfl (p_ldR (v:=Enc.v x16) ty3 rfl rfl rfl rfl rfl rfl) rfl rfl ?_
     refine D0 rfl (p_neq rfl rfl) rfl rfl ?_
     refine DM rfl rfl rfl ?_
     refine DR0 (gc:=((x66 !=x16))) rfl (vok_p (C:=cx) (p_mv rfl (hg:=fun e=>rfl))) (gcT1 rfl) rfl ?_
     refine DR0 (gc:=((x66 !=x16))) rfl (vok_p (C:=cx) (p_mv rfl (hg:=fun e=>rfl))) (gcT1 rfl) rfl ?_
     obtain ⟨e74,he74,hX⟩:=bind_some hX
     refine DR0 (gc:=((x66 !=x16))) rfl (vok_p (C:=cx) (p_iaO (xs:=l65) kd22 ty25 rfl rfl rfl ndS (j:=0) rfl (fun e=>optG_t he74 e) (hg:=fun e=>⟨e,e⟩))) (gcT1 rfl) rfl ?_
     refine DR0 (gc:=((x66 !=x16))) rfl (vok_p (C:=cx) (p_ldO (xs:=l65) (a:=e74) (e74:(List UInt8)) ty25 rfl rfl ndS (j:=0) rfl (fun e=>optG_t he74 e) rfl rfl rfl (hg:=fun e=>e))) (gcT1 rfl) rfl ?_
     refine DR0 (gc:=((x66 !=x16))) rfl (vok_p (C:=cx) (p_ldR (v:=Enc.v x16) ty3 rfl rfl rfl rfl rfl rfl (hg:=fun e=>rfl))) (gcT1 rfl) rfl ?_
     obtain ⟨e75,he75,hX⟩:=bind_some hX
     refine DR0 (gc:=((x66 !=x16))) rfl (vok_p (C:=cx) (p_iaL (xs:=e74) kd25 ty5 rfl rfl rfl (fun e=>optG_t he75 e) (hg:=fun e=>⟨e,e⟩))) (gcT1 rfl) rfl ?_
     refine DR0 (gc:=((x66 !=x16))) rfl (vok_p (C:=cx) (p_ldE (xs:=e74) (a:=e75) (e75:UInt8) ty5 rfl rfl (fun e=>optG_t he75 e) rfl rfl rfl (hg:=fun e=>e))) (gcT1 rfl) rfl ?_
     refine DR0 (gc:=((x66 !=x16))) rfl (vok_p (C:=cx) (p8_neq (a:=e75) (b:=(0:UInt8)) rfl rfl (hg:=fun e=>⟨e,rfl⟩))) (gcT1 rfl) rfl ?_
     refine D0 rfl (p_and rfl rfl (fun e=>⟨rfl,fun h=>h⟩)) rfl rfl ?_
     refine DRend ?_
     refine hK73 _ _ ?_
     refine TK.cond (b:=((x66 !=x16)&&(e75 !=(0:UInt8)))) rfl (fun hc=>?_) (fun hc=>?_)
     ·have hX:=ite_t hc hX
      have ndS:Nd []:=Nd.pick nd (is:=[]) Dc
      refine TK.endK fun KD hKD=>?_
      refine TK.drwX (h:=[(b64,RL (α:=(List UInt8)) 25 l65)]) (hS:=[]) [(0,0),(0,1),(0,2),(0,3),(1,4),(1,5),(0,6),(0,7),(1,8),(1,9),(0,10),(0,11),(1,12),(1,13),(0,14),(0,15),(0,16),(0,17),(0,18),(1,19),(2,20)] mixed (by kernel_rfl) (HSub_app nd) ?_
      refine DM rfl rfl rfl ?_
      refine DM rfl rfl rfl ?_
      refine DM rfl rfl rfl ?_
      refine DM rfl rfl rfl ?_
      obtain ⟨e76,he76,hX⟩:=bind_some hX
      refine DR1 (gc:=true) rfl (vok_p (C:=cx) (p_iaO (xs:=l65) kd22 ty25 rfl rfl rfl nd (j:=0) rfl (fun _=>he76))) rfl rfl ?_
      refine DR1 (gc:=true) rfl (vok_p (C:=cx) (p_ldO (xs:=l65) (a:=e76) (e76:(List UInt8)) ty25 rfl rfl nd (j:=0) rfl (fun _=>he76) rfl rfl rfl)) rfl rfl ?_
      refine DM rfl rfl rfl ?_
      refine D0 rfl (p_ldR (v:=Enc.v x16) ty3 rfl rfl rfl rfl rfl rfl) rfl rfl ?_
      obtain ⟨e77,he77,hX⟩:=bind_some hX
      refine DR1 (gc:=true) rfl (vok_p (C:=cx) (p_iaO (xs:=l65) kd22 ty25 rfl rfl rfl nd (j:=0) rfl (fun _=>he77))) rfl rfl ?_
      refine DR1 (gc:=true) rfl (vok_p (C:=cx) (p_ldO (xs:=l65) (a:=e77) (e77:(List UInt8)) ty25 rfl rfl nd (j:=0) rfl (fun _=>he77) rfl rfl rfl)) rfl rfl ?_
      refine DM rfl rfl rfl ?_
      refine DM rfl rfl rfl ?_
      obtain ⟨e78,he78,hX⟩:=bind_some hX
      refine DR1 (gc:=true) rfl (vok_p (C:=cx) (p_iaO (xs:=l65) kd22 ty25 rfl rfl rfl nd (j:=0) rfl (fun _=>he78))) rfl rfl ?_
      refine DR1 (gc:=true) rfl (vok_p (C:=cx) (p_ldO (xs:=l65) (a:=e78) (e78:(List UInt8)) ty25 rfl rfl nd (j:=0) rfl (fun _=>he78) rfl rfl rfl)) rfl rfl ?_
      refine D0 rfl (p_ldR (v:=Enc.v x16) ty3 rfl rfl rfl rfl rfl rfl) rfl rfl ?_
      obtain ⟨e79,he79,hX⟩:=bind_some hX
      refine D0 rfl (p_iaL (xs:=e78) kd25 ty5 rfl rfl rfl (fun _=>he79)) rfl rfl ?_
      refine D0 rfl (p_ldE (xs:=e78) (a:=e79) (e79:UInt8) ty5 rfl rfl (fun _=>he79) rfl rfl rfl) rfl rfl ?_
      obtain ⟨r80,hr80,hX⟩:=bind_some hX
      refine DR0 (gc:=true) rfl (vok_c rfl (fun _=>⟨rfl,⟨rfl,⟨rfl,trivial⟩⟩⟩) (fun e=>ok_matrix_scaled e77 e79 _ hr80)) rfl rfl ?_
      obtain ⟨r81,hr81,hX⟩:=bind_some hX
      refine DR0 (gc:=true) rfl (vok_c rfl (fun _=>⟨rfl,⟨rfl,⟨rfl,trivial⟩⟩⟩) (fun e=>ok_matrix_sum e76 r80 _ hr81)) rfl rfl ?_
      obtain ⟨e82,he82,hX⟩:=bind_some hX
      refine DR1 (gc:=true) rfl (vok_p (C:=cx) (p_iaO (xs:=l65) kd22 ty25 rfl rfl rfl nd (j:=0) rfl (fun _=>he82))) rfl rfl ?_
      refine DR2n rfl ?_
      refine TLc.stW (xs:=l65) (i:=x66) (lu:=Enc.cl (r81:(List UInt8))) (a':=r81) nd ty25 rfl (j:=0) rfl (by simp[Enc.sz]) (inb_of he82 (by simp)) rfl (Cells_v (r81:(List UInt8))) rfl (WkL_refl _) fun nd=>?_
      refine TL.nil ⟨.nilp,[(b64,RL (α:=(List UInt8)) 25 (l65.set x66.toNat r81))],rfl,rfl,HSub_app nd,?_⟩
      refine DRend ?_
      refine hKD _ _ ?_
      refine TL.cv 4 (OL (α:=(List UInt8)) b64 (l65.set x66.toNat r81)) rfl (Wk_eq (OL_len (by simp))) ?_
      refine TL.nil (hK71 _ _ ?_)
      refine TK.reg ?_
      refine P1 (p_add rfl rfl) rfl rfl (M rfl rfl (TL.nil ?_))
      exact ⟨_,(some_in hX).symm,b64,rfl,(Nd.pick nd (is:=[0]) Dc),(HSub.pick nd (is:=[0]) Dc)⟩
     ·have hX:=ite_f hc hX
      refine TK.skip ?_
      refine hK71 _ _ ?_
      refine TK.reg ?_
      refine P1 (p_add rfl rfl) rfl rfl (M rfl rfl (TL.nil ?_))
      exact ⟨_,(some_in hX).symm,b64,rfl,(Nd.pick nd (is:=[0]) Dc),(HSub.pick nd (is:=[0]) Dc)⟩
    ·have hX:=ite_f hc hX
     refine TK.exit ?_
     obtain rfl:=hR63 _ (some_in hX).symm
     exact E63 l65 _ _ ⟨b64,rfl,(Nd.pick nd (is:=[0]) Dc),(HSub.pick nd (is:=[0]) Dc)⟩ hA63
  ·have hX:=ite_f hc hX
   refine TK.exit ?_
   obtain rfl:=hR13 _ (some_in hX).symm
   exact E13 l15 _ _ ⟨b14,rfl,(Nd.pick nd (is:=[0]) Dc),(HSub.pick nd (is:=[0]) Dc)⟩ hA13
theorem ok_matrix_apply (m1:(List (List UInt8))) (v2:(List UInt8)) (r:(List UInt8)) (hX:X.matrix_apply m1 v2=some r):Fun Try.prog 127 [Enc.v (m1:(List (List UInt8))),Enc.v (v2:(List UInt8))] (·=Enc.v (r:(List UInt8))):=by
 refine Fun.of b127 (Nat.le_of_ble_eq_true rfl) (allVal.mem ⟨(by exact (v_val _)),(by exact (v_val _)),trivial⟩) ?_
 unfold k127
 have nd:Nd []:=Nd_nil
 unfold X.matrix_apply at hX
 refine SR fun K3 hK3=>M rfl rfl (TL.nil (hK3 _ _ (SR fun K4 hK4=>M rfl rfl (P1 (p_lenL (xs:=m1) kd22 rfl) rfl rfl ?_))))
 obtain ⟨u5,hu5,hX⟩:=bind_some hX
 refine TLc.mkO nd (0:UInt8) kd25 ty5 rfl (fun j hj=>by (have:j=0:=by simpa[Enc.sz] using hj);subst this;rfl) rfl rfl Dc (need_t hu5) rfl fun b6 nd=>?_
 refine M rfl rfl (TL.nil (hK4 _ _ ?_))
 refine TK.seq_k fun K7 hK7=>?_
 refine SR fun K8 hK8=>M rfl rfl (P1 (p_lenL (xs:=m1) kd22 rfl) rfl rfl (M rfl rfl (TL.nil (hK8 _ _ ?_))))
 refine TK.block ?_
 obtain ⟨o9,hO9,hA9⟩:=bind_some hX
 have E9:∀(l14:List UInt8) (env:Env) (h:Hp),(∃b13,keepE [5] env=[(5,true,OL b13 l14)]∧Nd [(b13,RL (α:=UInt8) 5 l14)]∧HSub [(b13,RL (α:=UInt8) 5 l14)] h)→X.matrix_apply_e9 l14=some r→K7 env h:=by
  intro l14 env h hE hX
  obtain ⟨b13,henv,nd,hs⟩:=hE
  unfold X.matrix_apply_e9 at hX
  refine hK7 _ _ (TK.keep [5] ?_)
  rw[henv]
  refine TK.subH hs ?_
  refine SR fun K15 hK15=>M rfl rfl (M rfl rfl (TL.nil (hK15 _ _ ?_)))
  refine TK.lay [(4,L l14)] nd (j:=0) rfl ⟨⟨_,rfl,fix_OL nd (j:=0) rfl,rfl⟩,trivial⟩ fun nd=>?_
  refine TK.ret ?_
  try dsimp only[thenQ]
  exact R1 rfl hX
 refine TK.iter [1,5,13,14,15] (fun s env h=>match s with|(out11,x12)=>∃b10,env=[(1,true,Enc.v v2),(5,true,OL b10 out11),(13,true,Enc.v m1),(14,true,Enc.v ((m1.length:Int):Int)),(15,true,Enc.v x12)]∧Nd [(b10,RL (α:=UInt8) 5 out11)]∧HSub [(b10,RL (α:=UInt8) 5 out11)] h) hO9 ⟨b6,rfl,(Nd.pick nd (is:=[0]) Dc),(HSub.pick nd (is:=[0]) Dc)⟩ ?_
 rintro ⟨out11,x12⟩ env h x9x ⟨b10,rfl,nd,hs⟩ hX hR9
 refine TK.subH hs ?_
 unfold X.matrix_apply_s9 at hX
 try dsimp only at hX
 refine SR fun K16 hK16=>P1 (p_lss rfl rfl) rfl rfl (TL.nil (hK16 _ _ ?_))
 refine TK.seq_k fun K17 hK17=>?_
 refine TK.cond (b:=(decide (x12<(m1.length:Int)))) rfl (fun hc=>?_) (fun hc=>?_)
 ·have hX:=ite_t hc hX
  refine TK.skip ?_
  refine hK17 _ _ ?_
  refine TK.seq_k fun K18 hK18=>?_
  refine TK.block ?_
  refine SR fun K19 hK19=>M rfl rfl ?_
  obtain ⟨e20,he20,hX⟩:=bind_some hX
  refine P1 (p_iaL (xs:=m1) kd22 ty25 rfl rfl rfl (fun _=>he20)) rfl rfl (P1 (p_ldE (xs:=m1) (a:=e20) (e20:(List UInt8)) ty25 rfl rfl (fun _=>he20) rfl rfl rfl) rfl rfl (M rfl rfl (M rfl rfl (TL.nil (hK19 _ _ (SR fun K21 hK21=>M rfl rfl (P1 (p_lenL (xs:=e20) kd25 rfl) rfl rfl (M rfl rfl (TL.nil (hK21 _ _ ?_))))))))))
  refine TK.block ?_
  obtain ⟨o22,hO22,hA22⟩:=bind_some hX
  have E22:∀(l27:List UInt8) (env:Env) (h:Hp),(∃b26,keepE [1,5,13,14,15] env=[(1,true,Enc.v v2),(5,true,OL b26 l27),(13,true,Enc.v m1),(14,true,Enc.v ((m1.length:Int):Int)),(15,true,Enc.v x12)]∧Nd [(b26,RL (α:=UInt8) 5 l27)]∧HSub [(b26,RL (α:=UInt8) 5 l27)] h)→X.matrix_apply_e22 x12 l27=some x9x→K18 env h:=by
   intro l27 env h hE hX
   obtain ⟨b26,henv,nd,hs⟩:=hE
   unfold X.matrix_apply_e22 at hX
   refine hK18 _ _ (TK.keep [1,5,13,14,15] ?_)
   rw[henv]
   refine TK.subH hs ?_
   refine TK.reg ?_
   refine P1 (p_add rfl rfl) rfl rfl (M rfl rfl (TL.nil ?_))
   exact ⟨_,(some_in hX).symm,b26,rfl,(Nd.pick nd (is:=[0]) Dc),(HSub.pick nd (is:=[0]) Dc)⟩
  refine TK.iter [1,5,6,13,14,15,20,21,22] (fun s env h=>match s with|(out24,x25)=>∃b23,env=[(1,true,Enc.v v2),(5,true,OL b23 out24),(6,true,Enc.v x12),(13,true,Enc.v m1),(14,true,Enc.v ((m1.length:Int):Int)),(15,true,Enc.v x12),(20,true,Enc.v e20),(21,true,Enc.v ((e20.length:Int):Int)),(22,true,Enc.v x25)]∧Nd [(b23,RL (α:=UInt8) 5 out24)]∧HSub [(b23,RL (α:=UInt8) 5 out24)] h) hO22 ⟨b10,rfl,(Nd.pick nd (is:=[0]) Dc),(HSub.pick nd (is:=[0]) Dc)⟩ ?_
  rintro ⟨out24,x25⟩ env h x22x ⟨b23,rfl,nd,hs⟩ hX hR22
  refine TK.subH hs ?_
  unfold X.matrix_apply_s22 at hX
  try dsimp only at hX
  refine SR fun K28 hK28=>P1 (p_lss rfl rfl) rfl rfl (TL.nil (hK28 _ _ ?_))
  refine TK.seq_k fun K29 hK29=>?_
  refine TK.cond (b:=(decide (x25<(e20.length:Int)))) rfl (fun hc=>?_) (fun hc=>?_)
  ·have hX:=ite_t hc hX
   refine TK.skip ?_
   refine hK29 _ _ ?_
   refine TK.seq_k fun K30 hK30=>?_
   refine TK.block ?_
   refine SR fun K31 hK31=>M rfl rfl ?_
   obtain ⟨e32,he32,hX⟩:=bind_some hX
   refine P1 (p_iaL (xs:=e20) kd25 ty5 rfl rfl rfl (fun _=>he32)) rfl rfl (P1 (p_ldE (xs:=e20) (a:=e32) (e32:UInt8) ty5 rfl rfl (fun _=>he32) rfl rfl rfl) rfl rfl (M rfl rfl (M rfl rfl (TL.nil (hK31 _ _ ?_)))))
   have ndS:Nd []:=Nd.pick nd (is:=[]) Dc
   refine TK.endK fun KD hKD=>?_
   refine TK.drwX (h:=[(b23,RL (α:=UInt8) 5 out24)]) (hS:=[]) [(0,0),(0,1),(0,2),(0,3),(1,4),(1,5),(0,6),(0,7),(0,8),(0,9),(0,10),(0,11),(0,12),(1,13),(2,14)] mixed (by kernel_rfl) (HSub_app nd) ?_
   refine DM rfl rfl rfl ?_
   refine DM rfl rfl rfl ?_
   refine DM rfl rfl rfl ?_
   refine DM rfl rfl rfl ?_
   obtain ⟨e33,he33,hX⟩:=bind_some hX
   refine DR1 (gc:=true) rfl (vok_p (C:=cx) (p_iaO (xs:=out24) kd25 ty5 rfl rfl rfl nd (j:=0) rfl (fun _=>he33))) rfl rfl ?_
   refine DR1 (gc:=true) rfl (vok_p (C:=cx) (p_ldO (xs:=out24) (a:=e33) (e33:UInt8) ty5 rfl rfl nd (j:=0) rfl (fun _=>he33) rfl rfl rfl)) rfl rfl ?_
   refine DM rfl rfl rfl ?_
   refine DM rfl rfl rfl ?_
   refine DM rfl rfl rfl ?_
   obtain ⟨e34,he34,hX⟩:=bind_some hX
   refine D0 rfl (p_iaL (xs:=v2) kd25 ty5 rfl rfl rfl (fun _=>he34)) rfl rfl ?_
   refine D0 rfl (p_ldE (xs:=v2) (a:=e34) (e34:UInt8) ty5 rfl rfl (fun _=>he34) rfl rfl rfl) rfl rfl ?_
   obtain ⟨r35,hr35,hX⟩:=bind_some hX
   refine DR0 (gc:=true) rfl (vok_c rfl (fun _=>⟨rfl,⟨rfl,⟨rfl,trivial⟩⟩⟩) (fun e=>ok_gf_Mul e32 e34 _ hr35)) rfl rfl ?_
   obtain ⟨r36,hr36,hX⟩:=bind_some hX
   refine DR0 (gc:=true) rfl (vok_c rfl (fun _=>⟨rfl,⟨rfl,⟨rfl,trivial⟩⟩⟩) (fun e=>ok_gf_Add e33 r35 _ hr36)) rfl rfl ?_
   obtain ⟨e37,he37,hX⟩:=bind_some hX
   refine DR1 (gc:=true) rfl (vok_p (C:=cx) (p_iaO (xs:=out24) kd25 ty5 rfl rfl rfl nd (j:=0) rfl (fun _=>he37))) rfl rfl ?_
   refine DR2n rfl ?_
   refine TLc.stW (xs:=out24) (i:=x12) (lu:=Enc.cl (r36:UInt8)) (a':=r36) nd ty5 rfl (j:=0) rfl (by simp[Enc.sz]) (inb_of he37 (by simp)) rfl (Cells_v (r36:UInt8)) rfl (WkL_refl _) fun nd=>?_
   refine TL.nil ⟨.nilp,[(b23,RL (α:=UInt8) 5 (out24.set x12.toNat r36))],rfl,rfl,HSub_app nd,?_⟩
   refine DRend ?_
   refine hKD _ _ ?_
   refine TL.cv 5 (OL (α:=UInt8) b23 (out24.set x12.toNat r36)) rfl (Wk_eq (OL_len (by simp))) ?_
   refine TL.nil (hK30 _ _ ?_)
   refine TK.reg ?_
   refine P1 (p_add rfl rfl) rfl rfl (M rfl rfl (TL.nil ?_))
   exact ⟨_,(some_in hX).symm,b23,rfl,(Nd.pick nd (is:=[0]) Dc),(HSub.pick nd (is:=[0]) Dc)⟩
  ·have hX:=ite_f hc hX
   refine TK.exit ?_
   obtain rfl:=hR22 _ (some_in hX).symm
   exact E22 out24 _ _ ⟨b23,rfl,(Nd.pick nd (is:=[0]) Dc),(HSub.pick nd (is:=[0]) Dc)⟩ hA22
 ·have hX:=ite_f hc hX
  refine TK.exit ?_
  obtain rfl:=hR9 _ (some_in hX).symm
  exact E9 out11 _ _ ⟨b10,rfl,(Nd.pick nd (is:=[0]) Dc),(HSub.pick nd (is:=[0]) Dc)⟩ hA9
theorem ok_matrix_Apply (m1:(List (List UInt8))) (v2:(List UInt8)) (r:((List UInt8)×Int)) (hX:X.matrix_Apply m1 v2=some r):Fun Try.prog 84 [Enc.v (m1:(List (List UInt8))),Enc.v (v2:(List UInt8))] (·= .tup 2 (ofL [Enc.v r.1,Enc.v r.2])):=by
 refine Fun.of b84 (Nat.le_of_ble_eq_true rfl) (allVal.mem ⟨(by exact (v_val _)),(by exact (v_val _)),trivial⟩) ?_
 unfold k84
 have nd:Nd []:=Nd_nil
 unfold X.matrix_Apply at hX
 refine SR fun K3 hK3=>M rfl rfl (M rfl rfl (TL.nil (hK3 _ _ ?_)))
 refine TK.seq_k fun K4 hK4=>?_
 refine SR fun K5 hK5=>M rfl rfl ?_
 obtain ⟨r6,hr6,hX⟩:=bind_some hX
 refine TL.cvX rfl rfl rfl (fun _=>⟨rfl,⟨rfl,trivial⟩⟩) (fun e=>ok_matrix_Right m1 _ hr6) ?_
 refine P1 (p_not rfl) rfl rfl (M rfl rfl ?_)
 refine TLc.p (gc:=(!((!r6)))) (p_mv rfl (hg:=fun e=>rfl)) (gcF1 rfl) rfl ?_
 refine TLc.p (gc:=(!((!r6)))) (p_lenL (xs:=v2) kd25 rfl (hg:=fun e=>e)) (gcF1 rfl) rfl ?_
 refine TLc.p (gc:=(!((!r6)))) (p_mv rfl (hg:=fun e=>rfl)) (gcF1 rfl) rfl ?_
 obtain ⟨e7,he7,hX⟩:=bind_some hX
 refine TLc.p (gc:=(!((!r6)))) (p_iaL (xs:=m1) kd22 ty25 rfl rfl rfl (fun e=>optG_t he7 e) (hg:=fun e=>⟨e,rfl⟩)) (gcF1 rfl) rfl ?_
 refine TLc.p (gc:=(!((!r6)))) (p_ldE (xs:=m1) (a:=e7) (e7:(List UInt8)) ty25 rfl rfl (fun e=>optG_t he7 e) rfl rfl rfl (hg:=fun e=>e)) (gcF1 rfl) rfl ?_
 refine TLc.p (gc:=(!((!r6)))) (p_lenL (xs:=e7) kd25 rfl (hg:=fun e=>e)) (gcF1 rfl) rfl ?_
 refine TLc.p (gc:=(!((!r6)))) (p_neq rfl rfl (hg:=fun e=>⟨e,e⟩)) (gcF1 rfl) rfl ?_
 refine P1 (p_or rfl rfl (fun e=>⟨rfl,fun h=>(not_t h)⟩)) rfl rfl (TL.nil (hK5 _ _ ?_))
 refine TK.cond (b:=((!r6)||((v2.length:Int) !=(e7.length:Int)))) rfl (fun hc=>?_) (fun hc=>?_)
 ·have hX:=ite_t hc hX
  refine SR fun K8 hK8=>M rfl rfl (M rfl rfl (TL.nil (hK8 _ _ ?_)))
  refine TK.wk 4 (L ([]:(List UInt8))) rfl Wk_nil ?_
  refine TK.ret ?_
  try dsimp only[thenQ]
  exact retN (vs:=[Enc.v (([]:(List UInt8)):(List UInt8)),Enc.v ((1:Int):Int)]) ⟨rfl,rfl,trivial⟩ (by obtain rfl:=some_in hX;rfl) (allVal.mem ⟨v_val _,v_val _,trivial⟩)
 ·have hX:=ite_f hc hX
  refine TK.skip ?_
  refine hK4 _ _ (SR fun K9 hK9=>M rfl rfl (M rfl rfl ?_))
  obtain ⟨r10,hr10,hX⟩:=bind_some hX
  refine TL.cvX rfl rfl rfl (fun _=>⟨rfl,⟨rfl,⟨rfl,trivial⟩⟩⟩) (fun e=>ok_matrix_apply m1 v2 _ hr10) ?_
  refine M rfl rfl (M rfl rfl (TL.nil (hK9 _ _ ?_)))
  refine TK.ret ?_
  try dsimp only[thenQ]
  exact retN (vs:=[Enc.v r10,Enc.v ((0:Int):Int)]) ⟨rfl,rfl,trivial⟩ (by obtain rfl:=some_in hX;rfl) (allVal.mem ⟨v_val _,v_val _,trivial⟩)
theorem ok_erasure_reckon (m1:(List (List UInt8))) (l2:(List (List UInt8))) (r:(List (List UInt8))) (hX:X.erasure_reckon m1 l2=some r):Fun Try.prog 45 [Enc.v (m1:(List (List UInt8))),Enc.v (l2:(List (List UInt8)))] (·=Enc.v (r:(List (List UInt8)))):=by
 refine Fun.of b45 (Nat.le_of_ble_eq_true rfl) (allVal.mem ⟨(by exact (v_val _)),(by exact (v_val _)),trivial⟩) ?_
 unfold k45
 have nd:Nd []:=Nd_nil
 unfold X.erasure_reckon at hX
 refine SR fun K3 hK3=>M rfl rfl (TL.nil (hK3 _ _ (SR fun K4 hK4=>M rfl rfl (P1 (p_lenL (xs:=m1) kd22 rfl) rfl rfl ?_))))
 obtain ⟨u5,hu5,hX⟩:=bind_some hX
 refine TLc.mkG (α:=UInt8) (e':=5) nd kd22 ty25 rfl rfl rfl rfl Dc (need_t hu5) rfl fun b6 T6 cs6 hG6 nd=>?_
 refine M rfl rfl (TL.nil (hK4 _ _ ?_))
 refine TK.seq_k fun K7 hK7=>?_
 refine SR fun K8 hK8=>M rfl rfl ?_
 obtain ⟨e9,he9,hX⟩:=bind_some hX
 refine P1 (p_iaL (xs:=l2) kd22 ty25 rfl rfl rfl (fun _=>he9)) rfl rfl (P1 (p_ldE (xs:=l2) (a:=e9) (e9:(List UInt8)) ty25 rfl rfl (fun _=>he9) rfl rfl rfl) rfl rfl (P1 (p_lenL (xs:=e9) kd25 rfl) rfl rfl (M rfl rfl (TL.nil (hK8 _ _ ?_)))))
 refine TK.block ?_
 obtain ⟨o10,hO10,hA10⟩:=bind_some hX
 have E10:∀(l15:List (List UInt8)) (env:Env) (h:Hp),(∃b14 T14 cs14,keepE [5] env=[(5,true,OL b14 l15)]∧Nd ((b14,RV 25 cs14)::T14)∧HSub ((b14,RV 25 cs14)::T14) h∧Grid (α:=UInt8) 5 T14 cs14 l15)→X.erasure_reckon_e10 l15=some r→K7 env h:=by
  intro l15 env h hE hX
  obtain ⟨b14,T14,cs14,henv,nd,hs,hG14⟩:=hE
  unfold X.erasure_reckon_e10 at hX
  refine hK7 _ _ (TK.keep [5] ?_)
  rw[henv]
  refine TK.subH hs ?_
  refine SR fun K16 hK16=>M rfl rfl (M rfl rfl (TL.nil (hK16 _ _ ?_)))
  refine TK.layG (α:=UInt8) [(b14,RV 25 cs14)] T14 nd (j:=0) rfl hG14 fun nd=>?_
  refine TK.lay [(4,L l15)] nd (j:=0) rfl ⟨⟨_,rfl,fix_OL nd (j:=0) rfl,rfl⟩,trivial⟩ fun nd=>?_
  refine TK.ret ?_
  try dsimp only[thenQ]
  exact R1 rfl hX
 refine TK.iter [0,1,5,20,21] (fun s env h=>match s with|(out12,x13)=>∃b11 T11 cs11,env=[(0,true,Enc.v m1),(1,true,Enc.v l2),(5,true,OL b11 out12),(20,true,Enc.v ((e9.length:Int):Int)),(21,true,Enc.v x13)]∧Nd ((b11,RV 25 cs11)::T11)∧HSub ((b11,RV 25 cs11)::T11) h∧Grid (α:=UInt8) 5 T11 cs11 out12) hO10 ⟨b6,T6,cs6,rfl,(Nd.pickT nd 1 (is:=[0]) Dc Dc (len_geF [_] _)),(HSub.pickT nd 1 (is:=[0]) Dc Dc (len_geF [_] _)),hG6⟩ ?_
 rintro ⟨out12,x13⟩ env h x10x ⟨b11,T11,cs11,rfl,nd,hs,hG11⟩ hX hR10
 refine TK.subH hs ?_
 unfold X.erasure_reckon_s10 at hX
 try dsimp only at hX
 refine SR fun K17 hK17=>P1 (p_lss rfl rfl) rfl rfl (TL.nil (hK17 _ _ ?_))
 refine TK.seq_k fun K18 hK18=>?_
 refine TK.cond (b:=(decide (x13<(e9.length:Int)))) rfl (fun hc=>?_) (fun hc=>?_)
 ·have hX:=ite_t hc hX
  refine TK.skip ?_
  refine hK18 _ _ ?_
  refine TK.seq_k fun K19 hK19=>?_
  refine TK.block ?_
  refine SR fun K20 hK20=>M rfl rfl (M rfl rfl (TL.nil (hK20 _ _ (SR fun K21 hK21=>M rfl rfl (TL.nil (hK21 _ _ ?_))))))
  refine TK.ownL (α:=UInt8) 7 5 nd rfl (.inl rfl) fun b22 nd=>?_
  refine TK.seq_k fun K23 hK23=>?_
  refine SR fun K24 hK24=>M rfl rfl (P1 (p_lenL (xs:=l2) kd22 rfl) rfl rfl (M rfl rfl (TL.nil (hK24 _ _ ?_))))
  refine TK.block ?_
  obtain ⟨o25,hO25,hA25⟩:=bind_some hX
  have E25:∀(l32:List UInt8) (env:Env) (h:Hp),(∃b30 T30 cs30 b31,keepE [0,1,5,7,20,21] env=[(0,true,Enc.v m1),(1,true,Enc.v l2),(5,true,OL b30 out12),(7,true,OL b31 l32),(20,true,Enc.v ((e9.length:Int):Int)),(21,true,Enc.v x13)]∧Nd ((b30,RV 25 cs30)::(b31,RL (α:=UInt8) 5 l32)::T30)∧HSub ((b30,RV 25 cs30)::(b31,RL (α:=UInt8) 5 l32)::T30) h∧Grid (α:=UInt8) 5 T30 cs30 out12)→X.erasure_reckon_e25 m1 out12 x13 l32=some x10x→K23 env h:=by
   intro l32 env h hE hX
   obtain ⟨b30,T30,cs30,b31,henv,nd,hs,hG30⟩:=hE
   unfold X.erasure_reckon_e25 at hX
   refine hK23 _ _ (TK.keep [0,1,5,7,20,21] ?_)
   rw[henv]
   refine TK.subH hs ?_
   refine SR fun K33 hK33=>M rfl rfl (M rfl rfl ?_)
   refine TL.lay [(40,L l32)] nd (j:=1) rfl ⟨⟨_,rfl,fix_OL nd (j:=1) rfl,rfl⟩,trivial⟩ fun nd=>?_
   obtain ⟨r34,hr34,hX⟩:=bind_some hX
   refine TL.cvX rfl rfl rfl (fun _=>⟨rfl,⟨rfl,⟨rfl,trivial⟩⟩⟩) (fun e=>ok_matrix_Apply m1 l32 _ hr34) ?_
   refine M rfl rfl (P1 (p_ex rfl rfl Dc) rfl rfl (P1 (p_ex rfl rfl Dc) rfl rfl (M rfl rfl (M rfl rfl (TL.nil (hK33 _ _ (SR fun K35 hK35=>M rfl rfl (P1 (p_lenL (xs:=r34.1) kd25 rfl) rfl rfl (M rfl rfl (TL.nil (hK35 _ _ ?_)))))))))))
   refine TK.block ?_
   obtain ⟨o36,hO36,hA36⟩:=bind_some hX
   have E36:∀(l41:List (List UInt8)) (env:Env) (h:Hp),(∃b40 T40 cs40,keepE [0,1,5,20,21] env=[(0,true,Enc.v m1),(1,true,Enc.v l2),(5,true,OL b40 l41),(20,true,Enc.v ((e9.length:Int):Int)),(21,true,Enc.v x13)]∧Nd ((b40,RV 25 cs40)::T40)∧HSub ((b40,RV 25 cs40)::T40) h∧Grid (α:=UInt8) 5 T40 cs40 l41)→X.erasure_reckon_e36 x13 l41=some x10x→K19 env h:=by
    intro l41 env h hE hX
    obtain ⟨b40,T40,cs40,henv,nd,hs,hG40⟩:=hE
    unfold X.erasure_reckon_e36 at hX
    refine hK19 _ _ (TK.keep [0,1,5,20,21] ?_)
    rw[henv]
    refine TK.subH hs ?_
    refine TK.reg ?_
    refine P1 (p_add rfl rfl) rfl rfl (M rfl rfl (TL.nil ?_))
    exact ⟨_,(some_in hX).symm,b40,T40,cs40,rfl,(Nd.pickT nd 1 (is:=[0]) Dc Dc (len_geF [_] _)),(HSub.pickT nd 1 (is:=[0]) Dc Dc (len_geF [_] _)),hG40⟩
   refine TK.iter [0,1,5,20,21,44,45,46] (fun s env h=>match s with|(out38,x39)=>∃b37 T37 cs37,env=[(0,true,Enc.v m1),(1,true,Enc.v l2),(5,true,OL b37 out38),(20,true,Enc.v ((e9.length:Int):Int)),(21,true,Enc.v x13),(44,true,Enc.v r34.1),(45,true,Enc.v ((r34.1.length:Int):Int)),(46,true,Enc.v x39)]∧Nd ((b37,RV 25 cs37)::T37)∧HSub ((b37,RV 25 cs37)::T37) h∧Grid (α:=UInt8) 5 T37 cs37 out38) hO36 ⟨b30,T30,cs30,rfl,(Nd.pickT nd 1 (is:=[0]) Dc Dc (len_geF [_] _)),(HSub.pickT nd 1 (is:=[0]) Dc Dc (len_geF [_] _)),hG30⟩ ?_
   rintro ⟨out38,x39⟩ env h x36x ⟨b37,T37,cs37,rfl,nd,hs,hG37⟩ hX hR36
   refine TK.subH hs ?_
   unfold X.erasure_reckon_s36 at hX
   try dsimp only at hX
   refine SR fun K42 hK42=>P1 (p_lss rfl rfl) rfl rfl (TL.nil (hK42 _ _ ?_))
   refine TK.seq_k fun K43 hK43=>?_
   refine TK.cond (b:=(decide (x39<(r34.1.length:Int)))) rfl (fun hc=>?_) (fun hc=>?_)
   ·have hX:=ite_t hc hX
    refine TK.skip ?_
    refine hK43 _ _ ?_
    refine TK.seq_k fun K44 hK44=>?_
    refine TK.block ?_
    refine SR fun K45 hK45=>M rfl rfl ?_
    obtain ⟨e46,he46,hX⟩:=bind_some hX
    refine P1 (p_iaL (xs:=r34.1) kd25 ty5 rfl rfl rfl (fun _=>he46)) rfl rfl (P1 (p_ldE (xs:=r34.1) (a:=e46) (e46:UInt8) ty5 rfl rfl (fun _=>he46) rfl rfl rfl) rfl rfl (M rfl rfl (M rfl rfl (TL.nil (hK45 _ _ ?_)))))
    refine TK.reg ?_
    refine M rfl rfl (M rfl rfl (M rfl rfl (M rfl rfl ?_)))
    obtain ⟨e47,he47,hX⟩:=bind_some hX
    refine P1 (p_iaG hG37 kd22 ty25 rfl rfl rfl nd (j:=0) rfl (fun _=>he47)) rfl rfl ?_
    obtain ⟨nm48,hT48,hc48⟩:=gridAt (i:=x39) hG37 he47
    refine P1 (p_ldG ty25 rfl rfl nd (j:=0) rfl hc48 rfl rfl) rfl rfl (M rfl rfl ?_)
    refine TLc.lit ([e46]:List UInt8) kd25 ty5 rfl ⟨⟨rfl,rfl⟩,trivial⟩ rfl rfl rfl ?_
    obtain ⟨u49,hu49,hX⟩:=bind_some hX
    refine TLc.appG (F:=[(b37,RV 25 cs37)]) (T:=T37) (k:=(x39:Int).toNat) nd kd25 bo25 ty5 rfl rfl hT48 rfl (Src_L _) Dc (need_t hu49) rfl fun nd=>?_
    obtain ⟨e50,he50,hX⟩:=bind_some hX
    refine P1 (p_iaG hG37 kd22 ty25 rfl rfl rfl nd (j:=0) rfl (fun _=>he50)) rfl rfl ?_
    refine TLc.stG (F:=[(b37,RV 25 cs37)]) (T:=(T37.set (x39:Int).toNat (nm48,RL (α:=UInt8) 5 (e47++([e46]:List UInt8))))) (i:=x39) nd ty25 rfl (j:=0) rfl hc48 rfl (setAt hT48) rfl fun nd=>?_
    refine TL.cv 5 (OL b37 (out38.set x39.toNat (e47++([e46]:List UInt8)))) rfl (Wk_eq (OL_len (by simp))) ?_
    refine TL.nil (hK44 _ _ ?_)
    refine TK.reg ?_
    refine P1 (p_add rfl rfl) rfl rfl (M rfl rfl (TL.nil ?_))
    exact ⟨_,(some_in hX).symm,b37,(T37.set (x39:Int).toNat (nm48,RL (α:=UInt8) 5 (e47++([e46]:List UInt8)))),(cs37.set (x39:Int).toNat (OL (α:=UInt8) nm48 (e47++([e46]:List UInt8)))),rfl,(Nd.pickT nd 1 (is:=[0]) Dc Dc (len_geF [_] _)),(HSub.pickT nd 1 (is:=[0]) Dc Dc (len_geF [_] _)),(Grid.set hG37 hT48)⟩
   ·have hX:=ite_f hc hX
    refine TK.exit ?_
    obtain rfl:=hR36 _ (some_in hX).symm
    exact E36 out38 _ _ ⟨b37,T37,cs37,rfl,(Nd.pickT nd 1 (is:=[0]) Dc Dc (len_geF [_] _)),(HSub.pickT nd 1 (is:=[0]) Dc Dc (len_geF [_] _)),hG37⟩ hA36
  refine TK.iter [0,1,5,6,7,20,21,24,25,26] (fun s env h=>match s with|(v28,x29)=>∃b26 T26 cs26 b27,env=[(0,true,Enc.v m1),(1,true,Enc.v l2),(5,true,OL b26 out12),(6,true,Enc.v x13),(7,true,OL b27 v28),(20,true,Enc.v ((e9.length:Int):Int)),(21,true,Enc.v x13),(24,true,Enc.v l2),(25,true,Enc.v ((l2.length:Int):Int)),(26,true,Enc.v x29)]∧Nd ((b26,RV 25 cs26)::(b27,RL (α:=UInt8) 5 v28)::T26)∧HSub ((b26,RV 25 cs26)::(b27,RL (α:=UInt8) 5 v28)::T26) h∧Grid (α:=UInt8) 5 T26 cs26 out12) hO25 ⟨b11,T11,cs11,b22,rfl,(Nd.pickT nd 2 (is:=[1,0]) Dc Dc (len_geF [_,_] _)),(HSub.pickT nd 2 (is:=[1,0]) Dc Dc (len_geF [_,_] _)),hG11⟩ ?_
  rintro ⟨v28,x29⟩ env h x25x ⟨b26,T26,cs26,b27,rfl,nd,hs,hG26⟩ hX hR25
  refine TK.subH hs ?_
  unfold X.erasure_reckon_s25 at hX
  try dsimp only at hX
  refine SR fun K51 hK51=>P1 (p_lss rfl rfl) rfl rfl (TL.nil (hK51 _ _ ?_))
  refine TK.seq_k fun K52 hK52=>?_
  refine TK.cond (b:=(decide (x29<(l2.length:Int)))) rfl (fun hc=>?_) (fun hc=>?_)
  ·have hX:=ite_t hc hX
   refine TK.skip ?_
   refine hK52 _ _ ?_
   refine TK.seq_k fun K53 hK53=>?_
   refine TK.block ?_
   refine SR fun K54 hK54=>?_
   obtain ⟨e55,he55,hX⟩:=bind_some hX
   refine P1 (p_iaL (xs:=l2) kd22 ty25 rfl rfl rfl (fun _=>he55)) rfl rfl (P1 (p_ldE (xs:=l2) (a:=e55) (e55:(List UInt8)) ty25 rfl rfl (fun _=>he55) rfl rfl rfl) rfl rfl (M rfl rfl (TL.nil (hK54 _ _ ?_))))
   refine TK.reg ?_
   refine M rfl rfl (M rfl rfl (M rfl rfl ?_))
   obtain ⟨e56,he56,hX⟩:=bind_some hX
   refine P1 (p_iaL (xs:=e55) kd25 ty5 rfl rfl rfl (fun _=>he56)) rfl rfl (P1 (p_ldE (xs:=e55) (a:=e56) (e56:UInt8) ty5 rfl rfl (fun _=>he56) rfl rfl rfl) rfl rfl ?_)
   refine TLc.lit ([e56]:List UInt8) kd25 ty5 rfl ⟨⟨rfl,rfl⟩,trivial⟩ rfl rfl rfl ?_
   obtain ⟨u57,hu57,hX⟩:=bind_some hX
   refine TLc.appO nd kd25 bo25 ty5 rfl rfl (j:=1) rfl rfl (Src_L _) Dc (need_t hu57) rfl fun nd=>?_
   refine M rfl rfl (TL.nil (hK53 _ _ ?_))
   refine TK.reg ?_
   refine P1 (p_add rfl rfl) rfl rfl (M rfl rfl (TL.nil ?_))
   exact ⟨_,(some_in hX).symm,b26,T26,cs26,b27,rfl,(Nd.pickT nd 2 (is:=[0,1]) Dc Dc (len_geF [_,_] _)),(HSub.pickT nd 2 (is:=[0,1]) Dc Dc (len_geF [_,_] _)),hG26⟩
  ·have hX:=ite_f hc hX
   refine TK.exit ?_
   obtain rfl:=hR25 _ (some_in hX).symm
   exact E25 v28 _ _ ⟨b26,T26,cs26,b27,rfl,(Nd.pickT nd 2 (is:=[0,1]) Dc Dc (len_geF [_,_] _)),(HSub.pickT nd 2 (is:=[0,1]) Dc Dc (len_geF [_,_] _)),hG26⟩ hA25
 ·have hX:=ite_f hc hX
  refine TK.exit ?_
  obtain rfl:=hR10 _ (some_in hX).symm
  exact E10 out12 _ _ ⟨b11,T11,cs11,rfl,(Nd.pickT nd 1 (is:=[0]) Dc Dc (len_geF [_] _)),(HSub.pickT nd 1 (is:=[0]) Dc Dc (len_geF [_] _)),hG11⟩ hA10
end Go.Proofs.Ytndjbcnpgggddaa
