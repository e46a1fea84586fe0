import Derived.Test.YtpipaggkbiapjaaDoorXFn
import Derived.Test.YtpipaggkbiapjaaDoorXS
import Derived.Test.YtpipaggkbiapjaaDoorAmK0
import Derived.Test.YtpipaggkbiapjaaDoorSh
import Derived.Test.YtpipaggkbiapjaaDoorXP0
/- That they do. -/
namespace Go.Proofs.YtpipaggkbiapjaaDoor
open Go.AM Go.AX
set_option linter.unusedVariables false
set_option maxRecDepth 20000

/-- cartridge/cartridgelaw10.RecordTorn -/
theorem ok_cartridgelaw10_RecordTorn (h1 : Head_api) (s2 : Seal_api) (n3 : Int) (r : Bool) (hX : X.cartridgelaw10_RecordTorn h1 s2 n3 = some r) : Fun Tryd.prog 9 [Enc.v (h1 : Head_api), Enc.v (s2 : Seal_api), Enc.v (n3 : Int)] (· = Enc.v (r : Bool)) := by
  refine Fun.of b9 (Nat.le_of_ble_eq_true rfl) (allVal.mem ⟨(by exact (v_val _)), (by exact (v_val _)), (by exact (v_val _)), trivial⟩) ?_
  unfold k9
  have nd : Nd [] := Nd_nil
  unfold X.cartridgelaw10_RecordTorn at hX
  refine TK.seq_k fun K4 hK4 => ?_
  refine TK.reg ?_
  refine TL.boxV (C := cx) (lu := [Enc.v (h1.Path : Str), Enc.v (h1.Version : Int), Enc.v (h1.Size : Int), Enc.v (h1.From : Int), Enc.v (h1.Len : Int), Enc.v (h1.Serial : Int), Enc.v (h1.Sum : Int), Enc.v (h1.Gone : Bool)]) nd rfl (Cells_v (h1 : Head_api)) rfl ?_
  refine TL.boxV (C := cx) (lu := [Enc.v (s2.Number : Int), Enc.v (s2.Index : Int), Enc.v (s2.Data : Int), Enc.v (s2.Parity : Int), Enc.v (s2.Labels : (List Int))]) nd rfl (Cells_v (s2 : Seal_api)) rfl ?_
  refine TL.p (C := cx) (gc := true) (p_mv rfl) rfl rfl ?_
  refine TL.nil ?_
  refine hK4 _ _ ?_
  refine TK.seq_k fun K5 hK5 => ?_
  refine TK.reg ?_
  obtain ⟨r6, hr6, hX⟩ := bind_some hX
  refine TL.cvX rfl rfl rfl (fun _ => ⟨rfl, trivial⟩) (fun e => ok_cartridgelaw10_alive  _ hr6) ?_
  refine TL.p (C := cx) (gc := true) (p_mv rfl) rfl rfl ?_
  refine TL.nil ?_
  refine hK5 _ _ ?_
  refine TK.seq_k fun K7 hK7 => ?_
  refine TK.seq_k fun K8 hK8 => ?_
  refine TK.reg ?_
  refine TL.p (C := cx) (gc := true) (p_mv rfl) rfl rfl ?_
  refine TL.p (C := cx) (gc := true) (p_not rfl) rfl rfl ?_
  refine TL.p (C := cx) (gc := true) (p_mv rfl) rfl rfl ?_
  refine TL.p (C := cx) (gc := (!((!r6)))) (p_ldRa (l' := Enc.cl (h1 : Head_api)) ty31 rfl rfl rfl rfl rfl (Nat.le_of_ble_eq_true rfl) (hg := fun e => rfl)) (gcF1 rfl) rfl ?_
  obtain ⟨r9, hr9, hX⟩ := bind_some hX
  refine TL.cvX (gcF1 rfl) rfl rfl (fun e => ⟨rfl, ⟨e, trivial⟩⟩) (fun e => ok_cartridgeref10_RightHead h1 _ (optG_t hr9 e)) ?_
  refine TL.p (C := cx) (gc := (!((!r6)))) (p_not rfl (hg := fun e => e)) (gcF1 rfl) rfl ?_
  refine TL.p (C := cx) (gc := true) (p_or rfl rfl (fun e => ⟨rfl, fun h => (not_t h)⟩)) rfl rfl ?_
  refine TL.p (C := cx) (gc := true) (p_mv rfl) rfl rfl ?_
  refine TL.p (C := cx) (gc := (!(((!r6) || (!r9))))) (p_ldRa (l' := Enc.cl (s2 : Seal_api)) ty45 rfl rfl rfl rfl rfl (Nat.le_of_ble_eq_true rfl) (hg := fun e => rfl)) (gcF1 rfl) rfl ?_
  obtain ⟨r10, hr10, hX⟩ := bind_some hX
  refine TL.cvX (gcF1 rfl) rfl rfl (fun e => ⟨rfl, ⟨e, trivial⟩⟩) (fun e => ok_cartridgeref10_RightSeal s2 _ (optG_t hr10 e)) ?_
  refine TL.p (C := cx) (gc := (!(((!r6) || (!r9))))) (p_not rfl (hg := fun e => e)) (gcF1 rfl) rfl ?_
  refine TL.p (C := cx) (gc := true) (p_or rfl rfl (fun e => ⟨rfl, fun h => (not_t h)⟩)) rfl rfl ?_
  refine TL.p (C := cx) (gc := true) (p_mv rfl) rfl rfl ?_
  refine TL.p (C := cx) (gc := (!((((!r6) || (!r9)) || (!r10))))) (p_mv rfl (hg := fun e => rfl)) (gcF1 rfl) rfl ?_
  refine TL.p (C := cx) (gc := (!((((!r6) || (!r9)) || (!r10))))) (p_lss rfl rfl (hg := fun e => ⟨e, rfl⟩)) (gcF1 rfl) rfl ?_
  refine TL.p (C := cx) (gc := true) (p_or rfl rfl (fun e => ⟨rfl, fun h => (not_t h)⟩)) rfl rfl ?_
  refine TL.nil ?_
  refine hK8 _ _ ?_
  refine TK.cond (b := ((((!r6) || (!r9)) || (!r10)) || (decide (n3 < (0 : Int))))) rfl (fun hc => ?_) (fun hc => ?_)
  · have hX := ite_t hc hX
    refine TK.seq_k fun K11 hK11 => ?_
    refine TK.reg ?_
    refine TL.p (C := cx) (gc := true) (p_mv rfl) rfl rfl ?_
    refine TL.p (C := cx) (gc := true) (p_mv rfl) rfl rfl ?_
    refine TL.nil ?_
    refine hK11 _ _ ?_
    refine TK.ret ?_
    try dsimp only [thenQ]
    exact ret1 (v := Enc.v (r6 : Bool)) rfl (by obtain rfl := some_in hX; rfl) (v_val _)
  · have hX := ite_f hc hX
    refine TK.skip ?_
    refine hK7 _ _ ?_
    refine TK.seq_k fun K12 hK12 => ?_
    refine TK.reg ?_
    refine TL.p (C := cx) (gc := true) (p_ldRa (l' := Enc.cl (h1 : Head_api)) ty31 rfl rfl rfl rfl rfl (Nat.le_of_ble_eq_true rfl)) rfl rfl ?_
    obtain ⟨r13, hr13, hX⟩ := bind_some hX
    refine TL.cvX rfl rfl rfl (fun _ => ⟨rfl, ⟨rfl, trivial⟩⟩) (fun e => ok_record_HeadBytes h1 _ hr13) ?_
    refine TL.p (C := cx) (gc := true) (p_mv rfl) rfl rfl ?_
    refine TL.nil ?_
    refine hK12 _ _ ?_
    refine TK.seq_k fun K14 hK14 => ?_
    refine TK.reg ?_
    refine TL.p (C := cx) (gc := true) (p_ldRa (l' := Enc.cl (s2 : Seal_api)) ty45 rfl rfl rfl rfl rfl (Nat.le_of_ble_eq_true rfl)) rfl rfl ?_
    obtain ⟨r15, hr15, hX⟩ := bind_some hX
    refine TL.cvX rfl rfl rfl (fun _ => ⟨rfl, ⟨rfl, trivial⟩⟩) (fun e => ok_record_SealBytes s2 _ hr15) ?_
    refine TL.p (C := cx) (gc := true) (p_mv rfl) rfl rfl ?_
    refine TL.nil ?_
    refine hK14 _ _ ?_
    refine TK.seq_k fun K16 hK16 => ?_
    refine TK.seq_k fun K17 hK17 => ?_
    refine TK.reg ?_
    refine TL.p (C := cx) (gc := true) (p_mv rfl) rfl rfl ?_
    refine TL.p (C := cx) (gc := true) (p_lenL (xs := r13) kd32 rfl) rfl rfl ?_
    refine TL.p (C := cx) (gc := true) (p_eql rfl rfl) rfl rfl ?_
    refine TL.p (C := cx) (gc := true) (p_mv rfl) rfl rfl ?_
    refine TL.p (C := cx) (gc := (!(((r13.length : Int) == (0 : Int))))) (p_mv rfl (hg := fun e => rfl)) (gcF1 rfl) rfl ?_
    refine TL.p (C := cx) (gc := (!(((r13.length : Int) == (0 : Int))))) (p_lenL (xs := r15) kd32 rfl (hg := fun e => e)) (gcF1 rfl) rfl ?_
    refine TL.p (C := cx) (gc := (!(((r13.length : Int) == (0 : Int))))) (p_eql rfl rfl (hg := fun e => ⟨e, rfl⟩)) (gcF1 rfl) rfl ?_
    refine TL.p (C := cx) (gc := true) (p_or rfl rfl (fun e => ⟨rfl, fun h => (not_t h)⟩)) rfl rfl ?_
    refine TL.nil ?_
    refine hK17 _ _ ?_
    refine TK.cond (b := (((r13.length : Int) == (0 : Int)) || ((r15.length : Int) == (0 : Int)))) rfl (fun hc => ?_) (fun hc => ?_)
    · have hX := ite_t hc hX
      refine TK.seq_k fun K18 hK18 => ?_
      refine TK.reg ?_
      refine TL.p (C := cx) (gc := true) (p_mv rfl) rfl rfl ?_
      refine TL.nil ?_
      refine hK18 _ _ ?_
      refine TK.ret ?_
      try dsimp only [thenQ]
      exact ret1 (v := Enc.v (false : Bool)) rfl (by obtain rfl := some_in hX; rfl) (v_val _)
    · have hX := ite_f hc hX
      refine TK.skip ?_
      refine hK16 _ _ ?_
      refine TK.seq_k fun K19 hK19 => ?_
      refine TK.reg ?_
      refine TL.p (C := cx) (gc := true) (p_mv rfl) rfl rfl ?_
      refine TL.p (C := cx) (gc := true) (p_mv rfl) rfl rfl ?_
      refine TL.p (C := cx) (gc := true) (p_mv rfl) rfl rfl ?_
      refine TL.p (C := cx) (gc := true) (p_lenL (xs := r13) kd32 rfl) rfl rfl ?_
      obtain ⟨u20, hu20, hX⟩ := bind_some hX
      refine TL.p (C := cx) (gc := true) (p_rem rfl rfl (fun _ => need_t hu20)) rfl rfl ?_
      obtain ⟨u21, hu21, hX⟩ := bind_some hX
      refine TL.p (C := cx) (gc := true) (p_sliL (xs := r13) (l := (0 : Int)) (k := (n3.tmod (r13.length : Int))) kd32 ty5 rfl rfl rfl rfl (fun e => need_t hu21)) rfl rfl ?_
      obtain ⟨r22, hr22, hX⟩ := bind_some hX
      refine TL.cvX rfl rfl rfl (fun _ => ⟨rfl, ⟨rfl, trivial⟩⟩) (fun e => ok_record_ReadHead (slc r13 (0 : Int) (n3.tmod (r13.length : Int))) _ hr22) ?_
      refine TL.p (C := cx) (gc := true) (p_mv rfl) rfl rfl ?_
      refine TL.p (C := cx) (gc := true) (p_ex rfl rfl (by decide)) rfl rfl ?_
      refine TL.p (C := cx) (gc := true) (p_ex rfl rfl (by decide)) rfl rfl ?_
      refine TL.alO (C := cx) (l := [Enc.v ((Str.mk []) : Str), Enc.v ((0 : Int) : Int), Enc.v ((0 : Int) : Int), Enc.v ((0 : Int) : Int), Enc.v ((0 : Int) : Int), Enc.v ((0 : Int) : Int), Enc.v ((0 : Int) : Int), Enc.v (false : Bool)]) nd ty31 ti31_z rfl rfl fun b23 nd => ?_
      refine TL.stV (C := cx) (lu := Enc.cl (r22.1 : Head_api)) nd ty31 rfl (j := 0) rfl rfl rfl (Cells_v (r22.1 : Head_api)) rfl rfl [Enc.v (r22.1.Path : Str), Enc.v (r22.1.Version : Int), Enc.v (r22.1.Size : Int), Enc.v (r22.1.From : Int), Enc.v (r22.1.Len : Int), Enc.v (r22.1.Serial : Int), Enc.v (r22.1.Sum : Int), Enc.v (r22.1.Gone : Bool)] rfl fun nd => ?_
      refine TL.p (C := cx) (gc := true) (p_mv rfl) rfl rfl ?_
      refine TL.nil ?_
      refine hK19 _ _ ?_
      refine TK.seq_k fun K24 hK24 => ?_
      refine TK.reg ?_
      refine TL.p (C := cx) (gc := true) (p_mv rfl) rfl rfl ?_
      obtain ⟨u25, hu25, hX⟩ := bind_some hX
      refine TL.appN (C := cx) nd kd32 bo32 ty5 rfl rfl (.inl rfl) rfl (Src_L _) (by decide) (need_t hu25) rfl fun b26 nd => ?_
      refine TL.lit (C := cx) ([(0 : UInt8)] : List UInt8) kd32 ty5 rfl ⟨⟨rfl, rfl⟩, trivial⟩ rfl rfl rfl ?_
      obtain ⟨u27, hu27, hX⟩ := bind_some hX
      refine TL.appO (C := cx) nd kd32 bo32 ty5 rfl rfl (j := 0) rfl rfl (Src_L _) (by decide) (need_t hu27) rfl fun nd => ?_
      obtain ⟨r28, hr28, hX⟩ := bind_some hX
      refine TL.lookX [L (r13 ++ ([(0 : UInt8)] : List UInt8))] rfl rfl rfl (fun _ => ⟨rfl, ⟨rfl, trivial⟩⟩) ⟨look_OL nd (j := 0) rfl, trivial⟩ (fun e => ok_record_ReadHead (r13 ++ ([(0 : UInt8)] : List UInt8)) _ hr28) (tup_closed rfl ⟨agg_closed rfl ⟨trivial, trivial, trivial, trivial, trivial, trivial, trivial, trivial, trivial⟩, trivial, trivial⟩) ?_
      refine TL.p (C := cx) (gc := true) (p_mv rfl) rfl rfl ?_
      refine TL.p (C := cx) (gc := true) (p_ex rfl rfl (by decide)) rfl rfl ?_
      refine TL.p (C := cx) (gc := true) (p_ex rfl rfl (by decide)) rfl rfl ?_
      refine TL.alO (C := cx) (l := [Enc.v ((Str.mk []) : Str), Enc.v ((0 : Int) : Int), Enc.v ((0 : Int) : Int), Enc.v ((0 : Int) : Int), Enc.v ((0 : Int) : Int), Enc.v ((0 : Int) : Int), Enc.v ((0 : Int) : Int), Enc.v (false : Bool)]) nd ty31 ti31_z rfl rfl fun b29 nd => ?_
      refine TL.stV (C := cx) (lu := Enc.cl (r28.1 : Head_api)) nd ty31 rfl (j := 0) rfl rfl rfl (Cells_v (r28.1 : Head_api)) rfl rfl [Enc.v (r28.1.Path : Str), Enc.v (r28.1.Version : Int), Enc.v (r28.1.Size : Int), Enc.v (r28.1.From : Int), Enc.v (r28.1.Len : Int), Enc.v (r28.1.Serial : Int), Enc.v (r28.1.Sum : Int), Enc.v (r28.1.Gone : Bool)] rfl fun nd => ?_
      refine TL.p (C := cx) (gc := true) (p_mv rfl) rfl rfl ?_
      refine TL.nil ?_
      refine hK24 _ _ ?_
      refine TK.seq_k fun K30 hK30 => ?_
      refine TK.reg ?_
      refine TL.p (C := cx) (gc := true) (p_mv rfl) rfl rfl ?_
      refine TL.p (C := cx) (gc := true) (p_mv rfl) rfl rfl ?_
      refine TL.p (C := cx) (gc := true) (p_mv rfl) rfl rfl ?_
      refine TL.p (C := cx) (gc := true) (p_lenL (xs := r15) kd32 rfl) rfl rfl ?_
      obtain ⟨u31, hu31, hX⟩ := bind_some hX
      refine TL.p (C := cx) (gc := true) (p_rem rfl rfl (fun _ => need_t hu31)) rfl rfl ?_
      obtain ⟨u33, hu33, hX⟩ := bind_some hX
      refine TL.p (C := cx) (gc := true) (p_sliL (xs := r15) (l := (0 : Int)) (k := (n3.tmod (r15.length : Int))) kd32 ty5 rfl rfl rfl rfl (fun e => need_t hu33)) rfl rfl ?_
      obtain ⟨r34, hr34, hX⟩ := bind_some hX
      refine TL.cvX rfl rfl rfl (fun _ => ⟨rfl, ⟨rfl, trivial⟩⟩) (fun e => ok_record_ReadSeal (slc r15 (0 : Int) (n3.tmod (r15.length : Int))) _ hr34) ?_
      refine TL.p (C := cx) (gc := true) (p_mv rfl) rfl rfl ?_
      refine TL.p (C := cx) (gc := true) (p_ex rfl rfl (by decide)) rfl rfl ?_
      refine TL.p (C := cx) (gc := true) (p_ex rfl rfl (by decide)) rfl rfl ?_
      refine TL.alO (C := cx) (l := [Enc.v ((0 : Int) : Int), Enc.v ((0 : Int) : Int), Enc.v ((0 : Int) : Int), Enc.v ((0 : Int) : Int), .nils]) nd ty45 ti45_z rfl rfl fun b35 nd => ?_
      refine TL.stV (C := cx) (lu := Enc.cl (r34.1 : Seal_api)) nd ty45 rfl (j := 0) rfl rfl rfl (Cells_v (r34.1 : Seal_api)) rfl rfl [Enc.v (r34.1.Number : Int), Enc.v (r34.1.Index : Int), Enc.v (r34.1.Data : Int), Enc.v (r34.1.Parity : Int), Enc.v (r34.1.Labels : (List Int))] rfl fun nd => ?_
      refine TL.p (C := cx) (gc := true) (p_mv rfl) rfl rfl ?_
      refine TL.nil ?_
      refine hK30 _ _ ?_
      refine TK.seq_k fun K36 hK36 => ?_
      refine TK.reg ?_
      refine TL.p (C := cx) (gc := true) (p_mv rfl) rfl rfl ?_
      obtain ⟨u37, hu37, hX⟩ := bind_some hX
      refine TL.appN (C := cx) nd kd32 bo32 ty5 rfl rfl (.inl rfl) rfl (Src_L _) (by decide) (need_t hu37) rfl fun b38 nd => ?_
      refine TL.lit (C := cx) ([(0 : UInt8)] : List UInt8) kd32 ty5 rfl ⟨⟨rfl, rfl⟩, trivial⟩ rfl rfl rfl ?_
      obtain ⟨u39, hu39, hX⟩ := bind_some hX
      refine TL.appO (C := cx) nd kd32 bo32 ty5 rfl rfl (j := 0) rfl rfl (Src_L _) (by decide) (need_t hu39) rfl fun nd => ?_
      refine TL.lay [(80, L (r15 ++ ([(0 : UInt8)] : List UInt8)))] nd (j := 0) rfl ⟨⟨_, rfl, fix_OL nd (j := 0) rfl, rfl⟩, trivial⟩ fun nd => ?_
      obtain ⟨r40, hr40, hX⟩ := bind_some hX
      refine TL.cvX rfl rfl rfl (fun _ => ⟨rfl, ⟨rfl, trivial⟩⟩) (fun e => ok_record_ReadSeal (r15 ++ ([(0 : UInt8)] : List UInt8)) _ hr40) ?_
      refine TL.p (C := cx) (gc := true) (p_mv rfl) rfl rfl ?_
      refine TL.p (C := cx) (gc := true) (p_ex rfl rfl (by decide)) rfl rfl ?_
      refine TL.p (C := cx) (gc := true) (p_ex rfl rfl (by decide)) rfl rfl ?_
      refine TL.alO (C := cx) (l := [Enc.v ((0 : Int) : Int), Enc.v ((0 : Int) : Int), Enc.v ((0 : Int) : Int), Enc.v ((0 : Int) : Int), .nils]) nd ty45 ti45_z rfl rfl fun b41 nd => ?_
      refine TL.stV (C := cx) (lu := Enc.cl (r40.1 : Seal_api)) nd ty45 rfl (j := 0) rfl rfl rfl (Cells_v (r40.1 : Seal_api)) rfl rfl [Enc.v (r40.1.Number : Int), Enc.v (r40.1.Index : Int), Enc.v (r40.1.Data : Int), Enc.v (r40.1.Parity : Int), Enc.v (r40.1.Labels : (List Int))] rfl fun nd => ?_
      refine TL.p (C := cx) (gc := true) (p_mv rfl) rfl rfl ?_
      refine TL.nil ?_
      refine hK36 _ _ ?_
      refine TK.seq_k fun K42 hK42 => ?_
      refine TK.reg ?_
      refine TL.p (C := cx) (gc := true) (p_mv rfl) rfl rfl ?_
      obtain ⟨r43, hr43, hX⟩ := bind_some hX
      refine TL.cvX rfl rfl rfl (fun _ => ⟨rfl, ⟨rfl, trivial⟩⟩) (fun e => ok_cartridgelaw10_num r22.2 _ hr43) ?_
      refine TL.p (C := cx) (gc := true) (p_eql rfl rfl) rfl rfl ?_
      refine TL.p (C := cx) (gc := true) (p_mv rfl) rfl rfl ?_
      refine TL.p (C := cx) (gc := ((r43 == (2 : Int)))) (p_mv rfl (hg := fun e => rfl)) (gcT1 rfl) rfl ?_
      obtain ⟨r44, hr44, hX⟩ := bind_some hX
      refine TL.cvX (gcT1 rfl) rfl rfl (fun e => ⟨rfl, ⟨e, trivial⟩⟩) (fun e => ok_cartridgelaw10_num r28.2 _ (optG_t hr44 e)) ?_
      refine TL.p (C := cx) (gc := ((r43 == (2 : Int)))) (p_eql rfl rfl (hg := fun e => ⟨e, rfl⟩)) (gcT1 rfl) rfl ?_
      refine TL.p (C := cx) (gc := true) (p_and rfl rfl (fun e => ⟨rfl, fun h => h⟩)) rfl rfl ?_
      refine TL.p (C := cx) (gc := true) (p_mv rfl) rfl rfl ?_
      refine TL.p (C := cx) (gc := (((r43 == (2 : Int)) && (r44 == (2 : Int))))) (p_mv rfl (hg := fun e => rfl)) (gcT1 rfl) rfl ?_
      obtain ⟨r45, hr45, hX⟩ := bind_some hX
      refine TL.cvX (gcT1 rfl) rfl rfl (fun e => ⟨rfl, ⟨e, trivial⟩⟩) (fun e => ok_cartridgelaw10_num r34.2 _ (optG_t hr45 e)) ?_
      refine TL.p (C := cx) (gc := (((r43 == (2 : Int)) && (r44 == (2 : Int))))) (p_eql rfl rfl (hg := fun e => ⟨e, rfl⟩)) (gcT1 rfl) rfl ?_
      refine TL.p (C := cx) (gc := true) (p_and rfl rfl (fun e => ⟨rfl, fun h => h⟩)) rfl rfl ?_
      refine TL.p (C := cx) (gc := true) (p_mv rfl) rfl rfl ?_
      refine TL.p (C := cx) (gc := ((((r43 == (2 : Int)) && (r44 == (2 : Int))) && (r45 == (2 : Int))))) (p_mv rfl (hg := fun e => rfl)) (gcT1 rfl) rfl ?_
      obtain ⟨r46, hr46, hX⟩ := bind_some hX
      refine TL.cvX (gcT1 rfl) rfl rfl (fun e => ⟨rfl, ⟨e, trivial⟩⟩) (fun e => ok_cartridgelaw10_num r40.2 _ (optG_t hr46 e)) ?_
      refine TL.p (C := cx) (gc := ((((r43 == (2 : Int)) && (r44 == (2 : Int))) && (r45 == (2 : Int))))) (p_eql rfl rfl (hg := fun e => ⟨e, rfl⟩)) (gcT1 rfl) rfl ?_
      refine TL.p (C := cx) (gc := true) (p_and rfl rfl (fun e => ⟨rfl, fun h => h⟩)) rfl rfl ?_
      refine TL.p (C := cx) (gc := true) (p_mv rfl) rfl rfl ?_
      refine TL.nil ?_
      refine hK42 _ _ ?_
      refine TK.ret ?_
      try dsimp only [thenQ]
      exact ret1 (v := Enc.v (((((r43 == (2 : Int)) && (r44 == (2 : Int))) && (r45 == (2 : Int))) && (r46 == (2 : Int))) : Bool)) rfl (by obtain rfl := some_in hX; rfl) (v_val _)

end Go.Proofs.YtpipaggkbiapjaaDoor
