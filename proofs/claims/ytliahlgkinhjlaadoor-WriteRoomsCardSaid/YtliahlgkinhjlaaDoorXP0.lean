import Derived.Test.YtliahlgkinhjlaaDoorXFn
import Derived.Test.YtliahlgkinhjlaaDoorXS
import Derived.Test.YtliahlgkinhjlaaDoorAmK0
import Derived.Test.YtliahlgkinhjlaaDoorSh
/- That they do. -/
namespace Go.Proofs.YtliahlgkinhjlaaDoor
open Go.AM Go.AX
set_option linter.unusedVariables false
set_option maxRecDepth 20000

/-- slices.Index[[]int,int] -/
theorem ok_slices_Index_Lint_int (s1 : (List Int)) (v2 : Int) (r : Int) (hX : X.slices_Index_Lint_int s1 v2 = some r) : Fun Tryd.prog 151 [Enc.v (s1 : (List Int)), Enc.v (v2 : Int)] (· = Enc.v (r : Int)) := by
  refine Fun.of b151 (Nat.le_of_ble_eq_true rfl) (allVal.mem ⟨(by exact (v_val _)), (by exact (v_val _)), trivial⟩) ?_
  unfold k151
  have nd : Nd [] := Nd_nil
  unfold X.slices_Index_Lint_int at hX
  refine SR fun K3 hK3 => M rfl rfl (TL.nil (hK3 _ _ ?_))
  refine TK.seq_k fun K4 hK4 => ?_
  refine SR fun K5 hK5 => M rfl rfl (P1 (p_lenL (xs := s1) kd36 rfl) rfl rfl (M rfl rfl (TL.nil (hK5 _ _ ?_))))
  refine TK.block ?_
  obtain ⟨o6, hO6, hA6⟩ := bind_some hX
  have E6 : ∀ (env : Env) (h : Hp), (∃ _u : Unit, keepE [] env = [] ∧ Nd [] ∧ HSub [] h) → X.slices_Index_Lint_int_e6 = some r → K4 env h := by
    intro  env h hE hX
    obtain ⟨_u, henv, nd, hs⟩ := hE
    unfold X.slices_Index_Lint_int_e6 at hX
    refine hK4 _ _ (TK.keep [] ?_)
    rw [henv]
    refine TK.subH hs ?_
    refine SR fun K8 hK8 => M rfl rfl (TL.nil (hK8 _ _ ?_))
    refine TK.ret ?_
    try dsimp only [thenQ]
    exact R1 rfl hX
  refine TK.iter [0, 1, 7, 8] (fun s env h => match s with | x7 => ∃ _u : Unit, env = [(0, true, Enc.v s1), (1, true, Enc.v v2), (7, true, Enc.v ((s1.length : Int) : Int)), (8, true, Enc.v x7)] ∧ Nd [] ∧ HSub [] h) hO6 ⟨(), rfl, Nd_nil, HSub.refl _⟩ ?_
  rintro x7 env h x6x ⟨_u, rfl, nd, hs⟩ hX hR6
  refine TK.subH hs ?_
  unfold X.slices_Index_Lint_int_s6 at hX
  try dsimp only at hX
  refine SR fun K9 hK9 => P1 (p_lss rfl rfl) rfl rfl (TL.nil (hK9 _ _ ?_))
  refine TK.seq_k fun K10 hK10 => ?_
  refine TK.cond (b := (decide (x7 < (s1.length : Int)))) rfl (fun hc => ?_) (fun hc => ?_)
  · have hX := ite_t hc hX
    refine TK.skip ?_
    refine hK10 _ _ ?_
    refine TK.seq_k fun K11 hK11 => ?_
    refine TK.block ?_
    refine SR fun K12 hK12 => M rfl rfl (M rfl rfl (TL.nil (hK12 _ _ (SR fun K13 hK13 => M rfl rfl (M rfl rfl (M rfl rfl ?_))))))
    obtain ⟨e14, he14, hX⟩ := bind_some hX
    refine P1 (p_iaL (xs := s1) kd36 ty3 rfl rfl rfl (fun _ => he14)) rfl rfl (P1 (p_ldE (xs := s1) (a := e14) (e14 : Int) ty3 rfl rfl (fun _ => he14) rfl rfl rfl) rfl rfl (P1 (p_eql rfl rfl) rfl rfl (TL.nil (hK13 _ _ ?_))))
    refine TK.cond (b := (v2 == e14)) rfl (fun hc => ?_) (fun hc => ?_)
    · have hX := ite_t hc hX
      refine SR fun K15 hK15 => M rfl rfl (M rfl rfl (TL.nil (hK15 _ _ ?_)))
      refine TK.ret ?_
      obtain rfl := hR6 _ (some_in hX).symm
      replace hX := hA6
      try dsimp only [thenQ]
      exact R1 rfl hX
    · have hX := ite_f hc hX
      refine TK.skip ?_
      refine hK11 _ _ ?_
      refine TK.reg ?_
      refine P1 (p_add rfl rfl) rfl rfl (M rfl rfl (TL.nil ?_))
      exact ⟨_, (some_in hX).symm, (), rfl, Nd_nil, HSub.refl _⟩
  · have hX := ite_f hc hX
    refine TK.exit ?_
    obtain rfl := hR6 _ (some_in hX).symm
    exact E6 _ _ ⟨(), rfl, Nd_nil, HSub.refl _⟩ hA6

/-- slices.Contains[[]int,int] -/
theorem ok_slices_Contains_Lint_int (s1 : (List Int)) (v2 : Int) (r : Bool) (hX : X.slices_Contains_Lint_int s1 v2 = some r) : Fun Tryd.prog 124 [Enc.v (s1 : (List Int)), Enc.v (v2 : Int)] (· = Enc.v (r : Bool)) := by
  refine Fun.of b124 (Nat.le_of_ble_eq_true rfl) (allVal.mem ⟨(by exact (v_val _)), (by exact (v_val _)), trivial⟩) ?_
  unfold k124
  have nd : Nd [] := Nd_nil
  unfold X.slices_Contains_Lint_int at hX
  refine SR fun K3 hK3 => M rfl rfl (TL.nil (hK3 _ _ (SR fun K4 hK4 => M rfl rfl (M rfl rfl ?_))))
  obtain ⟨r5, hr5, hX⟩ := bind_some hX
  refine TL.cvX rfl rfl rfl (fun _ => ⟨rfl, ⟨rfl, ⟨rfl, trivial⟩⟩⟩) (fun e => ok_slices_Index_Lint_int s1 v2 _ hr5) ?_
  refine P1 (p_geq rfl rfl) rfl rfl (M rfl rfl (TL.nil (hK4 _ _ ?_)))
  refine TK.ret ?_
  try dsimp only [thenQ]
  exact R1 rfl hX

/-- slices.Clone[[]int,int] -/
theorem ok_slices_Clone_Lint_int (s1 : (List Int)) (r : (List Int)) (hX : X.slices_Clone_Lint_int s1 = some r) : Fun Tryd.prog 125 [Enc.v (s1 : (List Int))] (· = Enc.v (r : (List Int))) := by
  refine Fun.of b125 (Nat.le_of_ble_eq_true rfl) (allVal.mem ⟨(by exact (v_val _)), trivial⟩) ?_
  unfold k125
  have nd : Nd [] := Nd_nil
  unfold X.slices_Clone_Lint_int at hX
  refine SR fun K2 hK2 => M rfl rfl (TL.nil (hK2 _ _ ?_))
  refine TK.seq_k fun K3 hK3 => ?_
  refine SR fun K4 hK4 => M rfl rfl ?_
  refine TLc.eqNilU (xs := s1) kd36 rfl rfl rfl fun z5 hbz5 => ?_
  replace hX := nilU_t hX hbz5
  refine TL.nil (hK4 _ _ ?_)
  refine TK.cond (b := z5) rfl (fun hc => ?_) (fun hc => ?_)
  · have hX := ite_t hc hX
    refine SR fun K6 hK6 => M rfl rfl (TL.nil (hK6 _ _ ?_))
    refine TK.wk 2 (L ([] : (List Int))) rfl Wk_nil ?_
    refine TK.ret ?_
    try dsimp only [thenQ]
    exact R1 rfl hX
  · have hX := ite_f hc hX
    refine TK.skip ?_
    refine hK3 _ _ (SR fun K7 hK7 => ?_)
    refine TLc.litZ kd36 ty3 rfl ?_
    refine M rfl rfl ?_
    obtain ⟨u9, hu9, hX⟩ := bind_some hX
    refine TLc.appN nd kd36 bo36 ty3 rfl rfl (.inr rfl) rfl (Src_L _) (by decide) (need_t hu9) rfl fun b10 nd => ?_
    refine M rfl rfl (TL.nil (hK7 _ _ ?_))
    refine TK.lay [(2, L s1)] nd (j := 0) rfl ⟨⟨_, rfl, fix_OL nd (j := 0) rfl, rfl⟩, trivial⟩ fun nd => ?_
    refine TK.ret ?_
    try dsimp only [thenQ]
    exact R1 rfl hX

/-- cartridge/group.Of -/
theorem bc_group_Of : BodyC cx 96 25 [.c 4 55, .t 5] k96 := ⟨Enters.of Tryd.func96 (by kernel_rfl) (by kernel_rfl), _, _, Tryd.func96, rfl, by kernel_rfl, rfl, rfl⟩
theorem ok_group_Of (l1 : (List Seal_api)) (label2 : Int) (r : (Seal_api × Bool)) (hX : X.group_Of l1 label2 = some r) : Fun Tryd.prog 96 [Enc.v (l1 : (List Seal_api)), Enc.v (label2 : Int)] (· = .tup 2 (ofL [Enc.v r.1, Enc.v r.2])) := by
  refine Fun.ofC (C := cx) bc_group_Of (Nat.le_of_ble_eq_true rfl) (allVal.mem ⟨(by exact (v_val _)), (by exact (v_val _)), trivial⟩) ?_
  unfold k96
  have nd : Nd [] := Nd_nil
  unfold X.group_Of at hX
  refine SR fun K3 hK3 => ?_
  refine TLc.alO (l := [Enc.v ((0 : Int) : Int), Enc.v ((0 : Int) : Int), Enc.v ((0 : Int) : Int), Enc.v ((0 : Int) : Int), .nils]) nd ty55 ti55_z rfl rfl fun b4 nd => ?_
  refine M rfl rfl (TL.nil (hK3 _ _ ?_))
  refine TK.cvR nd (j := 0) rfl (l' := [Enc.v ((0 : Int) : Int), Enc.v ((0 : Int) : Int), Enc.v ((0 : Int) : Int), Enc.v ((0 : Int) : Int), Enc.v (([] : (List Int)) : (List Int))]) ⟨Wk.refl _, Wk.refl _, Wk.refl _, Wk.refl _, Wk_nil, trivial⟩ fun nd => ?_
  refine TK.seq_k fun K5 hK5 => ?_
  refine SR fun K6 hK6 => M rfl rfl (P1 (p_lenL (xs := l1) kd53 rfl) rfl rfl (M rfl rfl (TL.nil (hK6 _ _ ?_))))
  refine TK.block ?_
  obtain ⟨o7, hO7, hA7⟩ := bind_some hX
  have E7 : ∀ (env : Env) (h : Hp), (∃ b10, keepE [4] env = [(4, true, .ref b10 0 5)] ∧ Nd [(b10, RV 55 [Enc.v ((0 : Int) : Int), Enc.v ((0 : Int) : Int), Enc.v ((0 : Int) : Int), Enc.v ((0 : Int) : Int), Enc.v (([] : (List Int)) : (List Int))])] ∧ HSub [(b10, RV 55 [Enc.v ((0 : Int) : Int), Enc.v ((0 : Int) : Int), Enc.v ((0 : Int) : Int), Enc.v ((0 : Int) : Int), Enc.v (([] : (List Int)) : (List Int))])] h) → X.group_Of_e7 = some r → K5 env h := by
    intro  env h hE hX
    obtain ⟨b10, henv, nd, hs⟩ := hE
    unfold X.group_Of_e7 at hX
    refine hK5 _ _ (TK.keep [4] ?_)
    rw [henv]
    refine TK.subH hs ?_
    refine SR fun K11 hK11 => ?_
    refine TLc.p (gc := true) (p_bld (l := [Enc.v ((0 : Int) : Int), Enc.v ((0 : Int) : Int), Enc.v ((0 : Int) : Int), Enc.v ((0 : Int) : Int), .nils]) ty55 rfl all55 rfl (fun _ => trivial)) rfl rfl (TL.wk (v' := Enc.v ((Seal_api.mk (0 : Int) (0 : Int) (0 : Int) (0 : Int) ([] : (List Int))) : Seal_api)) (Wk_agg ⟨Wk.refl _, Wk.refl _, Wk.refl _, Wk.refl _, Wk_nil, trivial⟩) ?_)
    refine TLc.stV (lu := Enc.cl ((Seal_api.mk (0 : Int) (0 : Int) (0 : Int) (0 : Int) ([] : (List Int))) : Seal_api)) nd ty55 rfl (j := 0) rfl rfl rfl (Cells_v ((Seal_api.mk (0 : Int) (0 : Int) (0 : Int) (0 : Int) ([] : (List Int))) : Seal_api)) rfl rfl [Enc.v ((Seal_api.mk (0 : Int) (0 : Int) (0 : Int) (0 : Int) ([] : (List Int))).Number : Int), Enc.v ((Seal_api.mk (0 : Int) (0 : Int) (0 : Int) (0 : Int) ([] : (List Int))).Index : Int), Enc.v ((Seal_api.mk (0 : Int) (0 : Int) (0 : Int) (0 : Int) ([] : (List Int))).Data : Int), Enc.v ((Seal_api.mk (0 : Int) (0 : Int) (0 : Int) (0 : Int) ([] : (List Int))).Parity : Int), Enc.v ((Seal_api.mk (0 : Int) (0 : Int) (0 : Int) (0 : Int) ([] : (List Int))).Labels : (List Int))] rfl fun nd => ?_
    refine M rfl rfl (TL.nil (hK11 _ _ ?_))
    refine TK.ret ?_
    try dsimp only [thenQ]
    exact retC [Enc.v ((Seal_api.mk (0 : Int) (0 : Int) (0 : Int) (0 : Int) ([] : (List Int))) : Seal_api), Enc.v false] ⟨p_ldVa (l' := Enc.cl ((Seal_api.mk (0 : Int) (0 : Int) (0 : Int) (0 : Int) ([] : (List Int))) : Seal_api)) ty55 rfl rfl nd (j := 0) rfl rfl rfl rfl (Nat.le_of_ble_eq_true rfl), p_mv rfl, trivial⟩ (by obtain rfl := some_in hX; rfl) (tup_val (allVal.mem ⟨v_val _, v_val _, trivial⟩))
  refine TK.iter [1, 4, 8, 9, 10] (fun s env h => match s with | x9 => ∃ b8, env = [(1, true, Enc.v label2), (4, true, .ref b8 0 5), (8, true, Enc.v l1), (9, true, Enc.v ((l1.length : Int) : Int)), (10, true, Enc.v x9)] ∧ Nd [(b8, RV 55 [Enc.v ((0 : Int) : Int), Enc.v ((0 : Int) : Int), Enc.v ((0 : Int) : Int), Enc.v ((0 : Int) : Int), Enc.v (([] : (List Int)) : (List Int))])] ∧ HSub [(b8, RV 55 [Enc.v ((0 : Int) : Int), Enc.v ((0 : Int) : Int), Enc.v ((0 : Int) : Int), Enc.v ((0 : Int) : Int), Enc.v (([] : (List Int)) : (List Int))])] h) hO7 ⟨b4, rfl, (Nd.pick nd (is := [0]) (by decide)), (HSub.pick nd (is := [0]) (by decide))⟩ ?_
  rintro x9 env h x7x ⟨b8, rfl, nd, hs⟩ hX hR7
  refine TK.subH hs ?_
  unfold X.group_Of_s7 at hX
  try dsimp only at hX
  refine SR fun K12 hK12 => P1 (p_lss rfl rfl) rfl rfl (TL.nil (hK12 _ _ ?_))
  refine TK.seq_k fun K13 hK13 => ?_
  refine TK.cond (b := (decide (x9 < (l1.length : Int)))) rfl (fun hc => ?_) (fun hc => ?_)
  · have hX := ite_t hc hX
    refine TK.skip ?_
    refine hK13 _ _ ?_
    refine TK.seq_k fun K14 hK14 => ?_
    refine TK.block ?_
    refine SR fun K15 hK15 => ?_
    obtain ⟨e16, he16, hX⟩ := bind_some hX
    refine P1 (p_iaL (xs := l1) kd53 ty55 rfl rfl rfl (fun _ => he16)) rfl rfl (P1 (p_ldE (xs := l1) (a := e16) (e16 : Seal_api) ty55 rfl rfl (fun _ => he16) rfl rfl rfl) rfl rfl ?_)
    refine TLc.alO (l := [Enc.v ((0 : Int) : Int), Enc.v ((0 : Int) : Int), Enc.v ((0 : Int) : Int), Enc.v ((0 : Int) : Int), .nils]) nd ty55 ti55_z rfl rfl fun b17 nd => ?_
    refine TLc.stV (lu := Enc.cl (e16 : Seal_api)) nd ty55 rfl (j := 0) rfl rfl rfl (Cells_v (e16 : Seal_api)) rfl rfl [Enc.v e16.Number, Enc.v e16.Index, Enc.v e16.Data, Enc.v e16.Parity, Enc.v e16.Labels] rfl fun nd => ?_
    refine TL.nil (hK15 _ _ (SR fun K18 hK18 => P1 (p_faV fs55_4 (by decide) rfl nd (j := 0) rfl rfl) rfl rfl (P1 (p_ldV (v := Enc.v e16.Labels) ty36 rfl rfl nd (j := 0) rfl rfl rfl rfl rfl) rfl rfl (M rfl rfl ?_))))
    obtain ⟨r19, hr19, hX⟩ := bind_some hX
    refine TL.cvX rfl rfl rfl (fun _ => ⟨rfl, ⟨rfl, ⟨rfl, trivial⟩⟩⟩) (fun e => ok_slices_Contains_Lint_int e16.Labels label2 _ hr19) ?_
    refine TL.nil (hK18 _ _ ?_)
    refine TK.cond (b := r19) rfl (fun hc => ?_) (fun hc => ?_)
    · have hX := ite_t hc hX
      refine SR fun K20 hK20 => P1 (p_faV fs55_4 (by decide) rfl nd (j := 0) rfl rfl) rfl rfl (P1 (p_ldV (v := Enc.v e16.Labels) ty36 rfl rfl nd (j := 0) rfl rfl rfl rfl rfl) rfl rfl ?_)
      obtain ⟨r21, hr21, hX⟩ := bind_some hX
      refine TL.cvX rfl rfl rfl (fun _ => ⟨rfl, ⟨rfl, trivial⟩⟩) (fun e => ok_slices_Clone_Lint_int e16.Labels _ hr21) ?_
      refine P1 (p_faV fs55_4 (by decide) rfl nd (j := 0) rfl rfl) rfl rfl ?_
      refine TLc.stV (lu := Enc.cl (r21 : (List Int))) nd ty36 rfl (j := 0) rfl rfl rfl (Cells_v (r21 : (List Int))) rfl rfl [Enc.v e16.Number, Enc.v e16.Index, Enc.v e16.Data, Enc.v e16.Parity, Enc.v r21] rfl fun nd => ?_
      refine TL.nil (hK20 _ _ (SR fun K22 hK22 => P1 (p_ldVa (l' := Enc.cl ((Seal_api.mk e16.Number e16.Index e16.Data e16.Parity r21) : Seal_api)) ty55 rfl rfl nd (j := 0) rfl rfl rfl rfl (Nat.le_of_ble_eq_true rfl)) rfl rfl ?_))
      refine TLc.stV (lu := Enc.cl ((Seal_api.mk e16.Number e16.Index e16.Data e16.Parity r21) : Seal_api)) nd ty55 rfl (j := 1) rfl rfl rfl (Cells_v ((Seal_api.mk e16.Number e16.Index e16.Data e16.Parity r21) : Seal_api)) rfl rfl [Enc.v ((Seal_api.mk e16.Number e16.Index e16.Data e16.Parity r21).Number : Int), Enc.v ((Seal_api.mk e16.Number e16.Index e16.Data e16.Parity r21).Index : Int), Enc.v ((Seal_api.mk e16.Number e16.Index e16.Data e16.Parity r21).Data : Int), Enc.v ((Seal_api.mk e16.Number e16.Index e16.Data e16.Parity r21).Parity : Int), Enc.v ((Seal_api.mk e16.Number e16.Index e16.Data e16.Parity r21).Labels : (List Int))] rfl fun nd => ?_
      refine M rfl rfl (TL.nil (hK22 _ _ ?_))
      refine TK.ret ?_
      obtain rfl := hR7 _ (some_in hX).symm
      replace hX := hA7
      try dsimp only [thenQ]
      exact retC [Enc.v ((Seal_api.mk e16.Number e16.Index e16.Data e16.Parity r21) : Seal_api), Enc.v true] ⟨p_ldVa (l' := Enc.cl ((Seal_api.mk e16.Number e16.Index e16.Data e16.Parity r21) : Seal_api)) ty55 rfl rfl nd (j := 1) rfl rfl rfl rfl (Nat.le_of_ble_eq_true rfl), p_mv rfl, trivial⟩ (by obtain rfl := some_in hX; rfl) (tup_val (allVal.mem ⟨v_val _, v_val _, trivial⟩))
    · have hX := ite_f hc hX
      refine TK.skip ?_
      refine hK14 _ _ ?_
      refine TK.reg ?_
      refine P1 (p_add rfl rfl) rfl rfl (M rfl rfl (TL.nil ?_))
      exact ⟨_, (some_in hX).symm, b8, rfl, (Nd.pick nd (is := [1]) (by decide)), (HSub.pick nd (is := [1]) (by decide))⟩
  · have hX := ite_f hc hX
    refine TK.exit ?_
    obtain rfl := hR7 _ (some_in hX).symm
    exact E7 _ _ ⟨b8, rfl, (Nd.pick nd (is := [0]) (by decide)), (HSub.pick nd (is := [0]) (by decide))⟩ hA7

/-- slices.Clone[[]byte,byte] -/
theorem ok_slices_Clone_Lbyte_byte (s1 : (List UInt8)) (r : (List UInt8)) (hX : X.slices_Clone_Lbyte_byte s1 = some r) : Fun Tryd.prog 66 [Enc.v (s1 : (List UInt8))] (· = Enc.v (r : (List UInt8))) := by
  refine Fun.of b66 (Nat.le_of_ble_eq_true rfl) (allVal.mem ⟨(by exact (v_val _)), trivial⟩) ?_
  unfold k66
  have nd : Nd [] := Nd_nil
  unfold X.slices_Clone_Lbyte_byte at hX
  refine SR fun K2 hK2 => M rfl rfl (TL.nil (hK2 _ _ ?_))
  refine TK.seq_k fun K3 hK3 => ?_
  refine SR fun K4 hK4 => M rfl rfl ?_
  refine TLc.eqNilU (xs := s1) kd24 rfl rfl rfl fun z5 hbz5 => ?_
  replace hX := nilU_t hX hbz5
  refine TL.nil (hK4 _ _ ?_)
  refine TK.cond (b := z5) rfl (fun hc => ?_) (fun hc => ?_)
  · have hX := ite_t hc hX
    refine SR fun K6 hK6 => M rfl rfl (TL.nil (hK6 _ _ ?_))
    refine TK.wk 2 (L ([] : (List UInt8))) rfl Wk_nil ?_
    refine TK.ret ?_
    try dsimp only [thenQ]
    exact R1 rfl hX
  · have hX := ite_f hc hX
    refine TK.skip ?_
    refine hK3 _ _ (SR fun K7 hK7 => ?_)
    refine TLc.litZ kd24 ty5 rfl ?_
    refine M rfl rfl ?_
    obtain ⟨u9, hu9, hX⟩ := bind_some hX
    refine TLc.appN nd kd24 bo24 ty5 rfl rfl (.inr rfl) rfl (Src_L _) (by decide) (need_t hu9) rfl fun b10 nd => ?_
    refine M rfl rfl (TL.nil (hK7 _ _ ?_))
    refine TK.lay [(2, L s1)] nd (j := 0) rfl ⟨⟨_, rfl, fix_OL nd (j := 0) rfl, rfl⟩, trivial⟩ fun nd => ?_
    refine TK.ret ?_
    try dsimp only [thenQ]
    exact R1 rfl hX

/-- cartridge/code.NewReader -/
theorem ok_code_NewReader (b1 : (List UInt8)) (nd : Nd []) (r : ((List UInt8) × Bool)) (hX : X.code_NewReader b1 = some r) : TCX Tryd.prog 111 [Enc.v (b1 : (List UInt8))] [] (fun rv h' => ∃ b6, rv = .ref b6 0 2 ∧ h' = [(b6, RV 215 [Enc.v (r.1 : (List UInt8)), Enc.v (r.2 : Bool)])]) := by
  refine TCX.of b111 (Nat.le_of_ble_eq_true rfl) ?_
  unfold k111
  unfold X.code_NewReader at hX
  refine SR fun K2 hK2 => M rfl rfl (TL.nil (hK2 _ _ (SR fun K3 hK3 => M rfl rfl ?_)))
  obtain ⟨r4, hr4, hX⟩ := bind_some hX
  refine TL.cvX rfl rfl rfl (fun _ => ⟨rfl, ⟨rfl, trivial⟩⟩) (fun e => ok_slices_Clone_Lbyte_byte b1 _ hr4) ?_
  refine P1 (p_bld (l := Enc.cl ((Reader_code.mk r4 false) : Reader_code)) ty215 rfl all215 rfl (fun _ => ⟨⟨rfl, trivial, rfl⟩, trivial⟩)) rfl rfl ?_
  refine TLc.boxO (lu := [Enc.v ((Reader_code.mk r4 false).b_ : (List UInt8)), Enc.v ((Reader_code.mk r4 false).bad_ : Bool)]) nd rfl (Cells_v ((Reader_code.mk r4 false) : Reader_code)) rfl fun b5 nd => ?_
  refine M rfl rfl (TL.nil (hK3 _ _ ?_))
  refine TK.ret ?_
  try dsimp only [thenQ]
  exact retX (v := .ref b5 0 2) (res1 rfl) (by obtain rfl := some_in hX; exact ⟨b5, rfl, rfl⟩) nd (inH_ref nd (j := 0) rfl) ⟨rowIn_RV ⟨inH_val (v_val _), inH_val (v_val _), trivial⟩, trivial⟩

/-- (*cartridge/code.Reader).take -/
theorem ok_code_Reader_take (n4 : Int) (b1 : (List UInt8)) (bad2 : Bool) (b3 : Nat) (nd : Nd [(b3, RV 215 [Enc.v (b1 : (List UInt8)), Enc.v (bad2 : Bool)])]) (r : ((List UInt8) × ((List UInt8) × Bool))) (hX : X.code_Reader_take n4 b1 bad2 = some r) : TCX Tryd.prog 146 [.ref b3 0 2, Enc.v (n4 : Int)] [(b3, RV 215 [Enc.v (b1 : (List UInt8)), Enc.v (bad2 : Bool)])] (fun rv h' => rv = Enc.v (r.1 : (List UInt8)) ∧ h' = [(b3, RV 215 [Enc.v (r.2.1 : (List UInt8)), Enc.v (r.2.2 : Bool)])]) := by
  refine TCX.of b146 (Nat.le_of_ble_eq_true rfl) ?_
  unfold k146
  unfold X.code_Reader_take at hX
  refine SR fun K5 hK5 => M rfl rfl (TL.nil (hK5 _ _ ?_))
  refine TK.seq_k fun K6 hK6 => ?_
  refine SR fun K7 hK7 => M rfl rfl (P1 (p_eqP kd184 rfl rfl (fun _ => refOK_of nd (j := 0) rfl rfl)) rfl rfl (M rfl rfl ?_))
  refine TL.guardT rfl ?_
  refine M rfl rfl ?_
  refine TL.guardT rfl ?_
  refine P1 (p_ncR rfl (fun _ => refOK_of nd (j := 0) rfl rfl)) rfl rfl ?_
  refine TL.guardT rfl ?_
  refine P1 (p_faV fs215_1 (by decide) rfl nd (j := 0) rfl rfl) rfl rfl ?_
  refine TL.guardT rfl ?_
  refine P1 (p_ldV (v := Enc.v bad2) ty4 rfl rfl nd (j := 0) rfl rfl rfl rfl rfl) rfl rfl (P1 (p_or rfl rfl (fun e => ⟨rfl, fun h => rfl⟩)) rfl rfl (TL.nil (hK7 _ _ ?_)))
  refine TK.cond (b := bad2) rfl (fun hc => ?_) (fun hc => ?_)
  · have hX := ite_t hc hX
    refine SR fun K8 hK8 => M rfl rfl (TL.nil (hK8 _ _ ?_))
    refine TK.wk 4 (L ([] : (List UInt8))) rfl Wk_nil ?_
    refine TK.ret ?_
    try dsimp only [thenQ]
    exact retX (v := Enc.v (([] : (List UInt8)) : (List UInt8))) (res1 rfl) (by obtain rfl := some_in hX; exact ⟨rfl, rfl⟩) nd (inH_val (v_val _)) ⟨rowIn_RV ⟨inH_val (v_val _), inH_val (v_val _), trivial⟩, trivial⟩
  · have hX := ite_f hc hX
    refine TK.skip ?_
    refine hK6 _ _ ?_
    refine TK.seq_k fun K9 hK9 => ?_
    refine SR fun K10 hK10 => M rfl rfl (M rfl rfl (P1 (p_ncR rfl (fun _ => refOK_of nd (j := 0) rfl rfl)) rfl rfl (P1 (p_faV fs215_0 (by decide) rfl nd (j := 0) rfl rfl) rfl rfl (P1 (p_ldV (v := Enc.v b1) ty24 rfl rfl nd (j := 0) rfl rfl rfl rfl rfl) rfl rfl (P1 (p_lenL (xs := b1) kd24 rfl) rfl rfl (P1 (p_gtr rfl rfl) rfl rfl (TL.nil (hK10 _ _ ?_))))))))
    refine TK.cond (b := (decide (n4 > (b1.length : Int)))) rfl (fun hc => ?_) (fun hc => ?_)
    · have hX := ite_t hc hX
      refine SR fun K11 hK11 => M rfl rfl (M rfl rfl (P1 (p_ncR rfl (fun _ => refOK_of nd (j := 0) rfl rfl)) rfl rfl (P1 (p_faV fs215_0 (by decide) rfl nd (j := 0) rfl rfl) rfl rfl ?_)))
      refine TLc.stV (lu := [.nils]) nd ty24 rfl (j := 0) rfl rfl rfl (Cells_one trivial) rfl rfl [.nils, Enc.v bad2] rfl fun nd => ?_
      refine P1 (p_ncR rfl (fun _ => refOK_of nd (j := 0) rfl rfl)) rfl rfl (P1 (p_faV fs215_1 (by decide) rfl nd (j := 0) rfl rfl) rfl rfl ?_)
      refine TLc.stV (lu := Enc.cl (true : Bool)) nd ty4 rfl (j := 0) rfl rfl rfl (Cells_v (true : Bool)) rfl rfl [.nils, Enc.v true] rfl fun nd => ?_
      refine TL.nil (hK11 _ _ ?_)
      refine TK.cvR nd (j := 0) rfl (l' := [Enc.v (([] : (List UInt8)) : (List UInt8)), Enc.v true]) ⟨Wk_nil, Wk.refl _, trivial⟩ fun nd => ?_
      refine SR fun K12 hK12 => M rfl rfl (TL.nil (hK12 _ _ ?_))
      refine TK.wk 4 (L ([] : (List UInt8))) rfl Wk_nil ?_
      refine TK.ret ?_
      try dsimp only [thenQ]
      exact retX (v := Enc.v (([] : (List UInt8)) : (List UInt8))) (res1 rfl) (by obtain rfl := some_in hX; exact ⟨rfl, rfl⟩) nd (inH_val (v_val _)) ⟨rowIn_RV ⟨inH_val (v_val _), inH_val (v_val _), trivial⟩, trivial⟩
    · have hX := ite_f hc hX
      refine TK.skip ?_
      refine hK9 _ _ (SR fun K13 hK13 => M rfl rfl (P1 (p_ncR rfl (fun _ => refOK_of nd (j := 0) rfl rfl)) rfl rfl (P1 (p_faV fs215_0 (by decide) rfl nd (j := 0) rfl rfl) rfl rfl (P1 (p_ldV (v := Enc.v b1) ty24 rfl rfl nd (j := 0) rfl rfl rfl rfl rfl) rfl rfl (M rfl rfl ?_)))))
      obtain ⟨u14, hu14, hX⟩ := bind_some hX
      refine P1 (p_sliL (xs := b1) (l := (0 : Int)) (k := n4) kd24 ty5 rfl rfl rfl rfl (fun e => need_t hu14)) rfl rfl (M rfl rfl (TL.nil (hK13 _ _ (SR fun K15 hK15 => M rfl rfl (M rfl rfl (P1 (p_ncR rfl (fun _ => refOK_of nd (j := 0) rfl rfl)) rfl rfl (P1 (p_faV fs215_0 (by decide) rfl nd (j := 0) rfl rfl) rfl rfl (P1 (p_ldV (v := Enc.v b1) ty24 rfl rfl nd (j := 0) rfl rfl rfl rfl rfl) rfl rfl (M rfl rfl ?_)))))))))
      obtain ⟨u16, hu16, hX⟩ := bind_some hX
      refine P1 (p_sliL (xs := b1) (l := n4) (k := (b1.length : Int)) kd24 ty5 rfl rfl rfl rfl (fun e => need_t hu16)) rfl rfl (P1 (p_ncR rfl (fun _ => refOK_of nd (j := 0) rfl rfl)) rfl rfl (P1 (p_faV fs215_0 (by decide) rfl nd (j := 0) rfl rfl) rfl rfl ?_))
      refine TLc.stV (lu := Enc.cl ((slc b1 n4 (b1.length : Int)) : (List UInt8))) nd ty24 rfl (j := 0) rfl rfl rfl (Cells_v ((slc b1 n4 (b1.length : Int)) : (List UInt8))) rfl rfl [Enc.v ((slc b1 n4 (b1.length : Int)) : (List UInt8)), Enc.v bad2] rfl fun nd => ?_
      refine TL.nil (hK15 _ _ (SR fun K17 hK17 => M rfl rfl (M rfl rfl (TL.nil (hK17 _ _ ?_)))))
      refine TK.ret ?_
      try dsimp only [thenQ]
      exact retX (v := Enc.v ((slc b1 (0 : Int) n4) : (List UInt8))) (res1 rfl) (by obtain rfl := some_in hX; exact ⟨rfl, rfl⟩) nd (inH_val (v_val _)) ⟨rowIn_RV ⟨inH_val (v_val _), inH_val (v_val _), trivial⟩, trivial⟩

/-- (*cartridge/code.Reader).Byte -/
theorem ok_code_Reader_Byte (b1 : (List UInt8)) (bad2 : Bool) (b3 : Nat) (nd : Nd [(b3, RV 215 [Enc.v (b1 : (List UInt8)), Enc.v (bad2 : Bool)])]) (r : (UInt8 × ((List UInt8) × Bool))) (hX : X.code_Reader_Byte b1 bad2 = some r) : TCX Tryd.prog 112 [.ref b3 0 2] [(b3, RV 215 [Enc.v (b1 : (List UInt8)), Enc.v (bad2 : Bool)])] (fun rv h' => rv = Enc.v (r.1 : UInt8) ∧ h' = [(b3, RV 215 [Enc.v (r.2.1 : (List UInt8)), Enc.v (r.2.2 : Bool)])]) := by
  refine TCX.of b112 (Nat.le_of_ble_eq_true rfl) ?_
  unfold k112
  unfold X.code_Reader_Byte at hX
  refine SR fun K4 hK4 => M rfl rfl (TL.nil (hK4 _ _ (SR fun K5 hK5 => M rfl rfl ?_)))
  obtain ⟨r6, hr6, hX⟩ := bind_some hX
  refine TL.tcX [(b3, RV 215 [Enc.v b1, Enc.v bad2])] [] rfl nd (dlt rfl) rfl ⟨rfl, ⟨rfl, ⟨rfl, trivial⟩⟩⟩ (ok_code_Reader_take (1 : Int) b1 bad2 b3 (Nd.take nd 1 rfl) _ hr6) ?_
  rintro _ _ hQ nd
  obtain ⟨rfl, rfl⟩ := hQ
  refine M rfl rfl (TL.nil (hK5 _ _ ?_))
  refine TK.seq_k fun K8 hK8 => ?_
  refine SR fun K9 hK9 => M rfl rfl (P1 (p_lenL (xs := r6.1) kd24 rfl) rfl rfl (P1 (p_eql rfl rfl) rfl rfl (TL.nil (hK9 _ _ ?_))))
  refine TK.cond (b := ((r6.1.length : Int) == (0 : Int))) rfl (fun hc => ?_) (fun hc => ?_)
  · have hX := ite_t hc hX
    refine SR fun K10 hK10 => M rfl rfl (TL.nil (hK10 _ _ ?_))
    refine TK.ret ?_
    try dsimp only [thenQ]
    exact retX (v := Enc.v ((0 : UInt8) : UInt8)) (res1 rfl) (by obtain rfl := some_in hX; exact ⟨rfl, rfl⟩) nd (inH_val (v_val _)) ⟨rowIn_RV ⟨inH_val (v_val _), inH_val (v_val _), trivial⟩, trivial⟩
  · have hX := ite_f hc hX
    refine TK.skip ?_
    refine hK8 _ _ (SR fun K11 hK11 => M rfl rfl ?_)
    obtain ⟨e12, he12, hX⟩ := bind_some hX
    refine P1 (p_iaL (xs := r6.1) kd24 ty5 rfl rfl rfl (fun _ => he12)) rfl rfl (P1 (p_ldE (xs := r6.1) (a := e12) (e12 : UInt8) ty5 rfl rfl (fun _ => he12) rfl rfl rfl) rfl rfl (M rfl rfl (TL.nil (hK11 _ _ ?_))))
    refine TK.ret ?_
    try dsimp only [thenQ]
    exact retX (v := Enc.v e12) (res1 rfl) (by obtain rfl := some_in hX; exact ⟨rfl, rfl⟩) nd (inH_val (v_val _)) ⟨rowIn_RV ⟨inH_val (v_val _), inH_val (v_val _), trivial⟩, trivial⟩

/-- (*cartridge/code.Reader).Int -/
theorem ok_code_Reader_Int (b1 : (List UInt8)) (bad2 : Bool) (b3 : Nat) (nd : Nd [(b3, RV 215 [Enc.v (b1 : (List UInt8)), Enc.v (bad2 : Bool)])]) (r : (Int × ((List UInt8) × Bool))) (hX : X.code_Reader_Int b1 bad2 = some r) : TCX Tryd.prog 113 [.ref b3 0 2] [(b3, RV 215 [Enc.v (b1 : (List UInt8)), Enc.v (bad2 : Bool)])] (fun rv h' => rv = Enc.v (r.1 : Int) ∧ h' = [(b3, RV 215 [Enc.v (r.2.1 : (List UInt8)), Enc.v (r.2.2 : Bool)])]) := by
  refine TCX.of b113 (Nat.le_of_ble_eq_true rfl) ?_
  unfold k113
  unfold X.code_Reader_Int at hX
  refine SR fun K4 hK4 => M rfl rfl (TL.nil (hK4 _ _ (SR fun K5 hK5 => M rfl rfl (TL.nil (hK5 _ _ ?_)))))
  refine TK.seq_k fun K6 hK6 => ?_
  refine SR fun K7 hK7 => M rfl rfl ?_
  obtain ⟨r8, hr8, hX⟩ := bind_some hX
  refine TL.tcX [(b3, RV 215 [Enc.v b1, Enc.v bad2])] [] rfl nd (dlt rfl) rfl ⟨rfl, ⟨rfl, ⟨rfl, trivial⟩⟩⟩ (ok_code_Reader_take (4 : Int) b1 bad2 b3 (Nd.take nd 1 rfl) _ hr8) ?_
  rintro _ _ hQ nd
  obtain ⟨rfl, rfl⟩ := hQ
  refine P1 (p_lenL (xs := r8.1) kd24 rfl) rfl rfl (M rfl rfl (TL.nil (hK7 _ _ ?_)))
  refine TK.block ?_
  obtain ⟨o10, hO10, hA10⟩ := bind_some hX
  have E10 : ∀ (n15 : UInt32) (env : Env) (h : Hp), (∃ _u : Unit, keepE [0, 3] env = [(0, true, .ref b3 0 2), (3, true, Enc.v n15)] ∧ Nd [(b3, RV 215 [Enc.v r8.2.1, Enc.v r8.2.2])] ∧ HSub [(b3, RV 215 [Enc.v r8.2.1, Enc.v r8.2.2])] h) → X.code_Reader_Int_e10 r8 n15 = some r → K6 env h := by
    intro n15 env h hE hX
    obtain ⟨_u, henv, nd, hs⟩ := hE
    unfold X.code_Reader_Int_e10 at hX
    refine hK6 _ _ (TK.keep [0, 3] ?_)
    rw [henv]
    refine TK.subH hs ?_
    refine SR fun K16 hK16 => M rfl rfl (P1 (p_cvt src106 kd3 rfl (cv_32 n15)) rfl rfl (M rfl rfl (TL.nil (hK16 _ _ ?_))))
    refine TK.ret ?_
    try dsimp only [thenQ]
    exact retX (v := Enc.v ((n15.toNat : Int) : Int)) (res1 rfl) (by obtain rfl := some_in hX; exact ⟨rfl, rfl⟩) nd (inH_val (v_val _)) ⟨rowIn_RV ⟨inH_val (v_val _), inH_val (v_val _), trivial⟩, trivial⟩
  refine TK.iter [0, 3, 7, 8, 9] (fun s env h => match s with | (n12, x13) => ∃ _u : Unit, env = [(0, true, .ref b3 0 2), (3, true, Enc.v n12), (7, true, Enc.v r8.1), (8, true, Enc.v ((r8.1.length : Int) : Int)), (9, true, Enc.v x13)] ∧ Nd [(b3, RV 215 [Enc.v r8.2.1, Enc.v r8.2.2])] ∧ HSub [(b3, RV 215 [Enc.v r8.2.1, Enc.v r8.2.2])] h) hO10 ⟨(), rfl, (Nd.pick nd (is := [0]) (by decide)), (HSub.pick nd (is := [0]) (by decide))⟩ ?_
  rintro ⟨n12, x13⟩ env h x10x ⟨_u, rfl, nd, hs⟩ hX hR10
  refine TK.subH hs ?_
  unfold X.code_Reader_Int_s10 at hX
  try dsimp only at hX
  refine SR fun K17 hK17 => P1 (p_lss rfl rfl) rfl rfl (TL.nil (hK17 _ _ ?_))
  refine TK.seq_k fun K18 hK18 => ?_
  refine TK.cond (b := (decide (x13 < (r8.1.length : Int)))) rfl (fun hc => ?_) (fun hc => ?_)
  · have hX := ite_t hc hX
    refine TK.skip ?_
    refine hK18 _ _ ?_
    refine TK.seq_k fun K19 hK19 => ?_
    refine TK.block ?_
    refine SR fun K20 hK20 => ?_
    obtain ⟨e21, he21, hX⟩ := bind_some hX
    refine P1 (p_iaL (xs := r8.1) kd24 ty5 rfl rfl rfl (fun _ => he21)) rfl rfl (P1 (p_ldE (xs := r8.1) (a := e21) (e21 : UInt8) ty5 rfl rfl (fun _ => he21) rfl rfl rfl) rfl rfl (M rfl rfl (TL.nil (hK20 _ _ ?_))))
    refine TK.reg ?_
    refine M rfl rfl (P1 (p32_shl (a := n12) (b := 8) rfl rfl) rfl rfl (M rfl rfl (P1 (p_cvt src5 kd106 rfl (cv_u32 _)) rfl rfl (P1 (p32_or (a := (shl32 n12 8)) (b := (u32 (e21.toNat : Int))) rfl rfl) rfl rfl (M rfl rfl (TL.nil (hK19 _ _ ?_)))))))
    refine TK.reg ?_
    refine P1 (p_add rfl rfl) rfl rfl (M rfl rfl (TL.nil ?_))
    exact ⟨_, (some_in hX).symm, (), rfl, (Nd.pick nd (is := [0]) (by decide)), (HSub.pick nd (is := [0]) (by decide))⟩
  · have hX := ite_f hc hX
    refine TK.exit ?_
    obtain rfl := hR10 _ (some_in hX).symm
    exact E10 n12 _ _ ⟨(), rfl, (Nd.pick nd (is := [0]) (by decide)), (HSub.pick nd (is := [0]) (by decide))⟩ hA10

/-- (*cartridge/code.Reader).Raw -/
theorem ok_code_Reader_Raw (n4 : Int) (b1 : (List UInt8)) (bad2 : Bool) (b3 : Nat) (nd : Nd [(b3, RV 215 [Enc.v (b1 : (List UInt8)), Enc.v (bad2 : Bool)])]) (r : ((List UInt8) × ((List UInt8) × Bool))) (hX : X.code_Reader_Raw n4 b1 bad2 = some r) : TCX Tryd.prog 114 [.ref b3 0 2, Enc.v (n4 : Int)] [(b3, RV 215 [Enc.v (b1 : (List UInt8)), Enc.v (bad2 : Bool)])] (fun rv h' => rv = Enc.v (r.1 : (List UInt8)) ∧ h' = [(b3, RV 215 [Enc.v (r.2.1 : (List UInt8)), Enc.v (r.2.2 : Bool)])]) := by
  refine TCX.of b114 (Nat.le_of_ble_eq_true rfl) ?_
  unfold k114
  unfold X.code_Reader_Raw at hX
  refine SR fun K5 hK5 => M rfl rfl (TL.nil (hK5 _ _ (SR fun K6 hK6 => M rfl rfl (M rfl rfl (P1 (p_max rfl rfl) rfl rfl ?_)))))
  obtain ⟨r7, hr7, hX⟩ := bind_some hX
  refine TL.tcX [(b3, RV 215 [Enc.v b1, Enc.v bad2])] [] rfl nd (dlt rfl) rfl ⟨rfl, ⟨rfl, ⟨rfl, trivial⟩⟩⟩ (ok_code_Reader_take (max (0 : Int) n4) b1 bad2 b3 (Nd.take nd 1 rfl) _ hr7) ?_
  rintro _ _ hQ nd
  obtain ⟨rfl, rfl⟩ := hQ
  obtain ⟨r9, hr9, hX⟩ := bind_some hX
  refine TL.cvX rfl rfl rfl (fun _ => ⟨rfl, ⟨rfl, trivial⟩⟩) (fun e => ok_slices_Clone_Lbyte_byte r7.1 _ hr9) ?_
  refine M rfl rfl (TL.nil (hK6 _ _ ?_))
  refine TK.ret ?_
  try dsimp only [thenQ]
  exact retX (v := Enc.v r9) (res1 rfl) (by obtain rfl := some_in hX; exact ⟨rfl, rfl⟩) nd (inH_val (v_val _)) ⟨rowIn_RV ⟨inH_val (v_val _), inH_val (v_val _), trivial⟩, trivial⟩

/-- (*cartridge/code.Reader).Bad -/
theorem ok_code_Reader_Bad (b1 : (List UInt8)) (bad2 : Bool) (r : Bool) (hX : X.code_Reader_Bad b1 bad2 = some r) : Fun Tryd.prog 115 [.vref (ofL [Enc.v (b1 : (List UInt8)), Enc.v (bad2 : Bool)]) 2 0] (· = Enc.v (r : Bool)) := by
  refine Fun.of b115 (Nat.le_of_ble_eq_true rfl) (allVal.mem ⟨(by exact (vref_val (l := [Enc.v (b1 : (List UInt8)), Enc.v (bad2 : Bool)]) rfl ⟨(v_val _), (v_val _), trivial⟩)), trivial⟩) ?_
  unfold k115
  have nd : Nd [] := Nd_nil
  unfold X.code_Reader_Bad at hX
  refine SR fun K3 hK3 => M rfl rfl (TL.nil (hK3 _ _ (SR fun K4 hK4 => M rfl rfl (P1 (p_neV kd184 rfl rfl) rfl rfl (M rfl rfl ?_)))))
  refine TL.guardT rfl ?_
  refine M rfl rfl ?_
  refine TL.guardT rfl ?_
  refine P1 (p_ncV rfl) rfl rfl ?_
  refine TL.guardT rfl ?_
  refine P1 (p_faR fs215_1 (by decide) rfl) rfl rfl ?_
  refine TL.guardT rfl ?_
  refine P1 (p_ldR (v := Enc.v bad2) ty4 rfl rfl rfl rfl rfl rfl) rfl rfl (P1 (p_and rfl rfl (fun e => ⟨rfl, fun h => rfl⟩)) rfl rfl (M rfl rfl (TL.nil (hK4 _ _ ?_))))
  refine TK.ret ?_
  try dsimp only [thenQ]
  exact R1 rfl hX

/-- cartridge/frame.room -/
theorem ok_frame_room (kind1 : Int) (r : Int) (hX : X.frame_room kind1 = some r) : Fun Tryd.prog 110 [Enc.v (kind1 : Int)] (· = Enc.v (r : Int)) := by
  refine Fun.of b110 (Nat.le_of_ble_eq_true rfl) (allVal.mem ⟨(by exact (v_val _)), trivial⟩) ?_
  unfold k110
  have nd : Nd [] := Nd_nil
  unfold X.frame_room at hX
  refine SR fun K2 hK2 => M rfl rfl (TL.nil (hK2 _ _ ?_))
  refine TK.seq_k fun K3 hK3 => ?_
  refine SR fun K4 hK4 => M rfl rfl (P1 (p_eql rfl rfl) rfl rfl (TL.nil (hK4 _ _ ?_)))
  refine TK.cond (b := (kind1 == (6 : Int))) rfl (fun hc => ?_) (fun hc => ?_)
  · have hX := ite_t hc hX
    refine SR fun K5 hK5 => M rfl rfl (TL.nil (hK5 _ _ ?_))
    refine TK.ret ?_
    try dsimp only [thenQ]
    exact R1 rfl hX
  · have hX := ite_f hc hX
    refine TK.skip ?_
    refine hK3 _ _ (SR fun K6 hK6 => M rfl rfl (TL.nil (hK6 _ _ ?_)))
    refine TK.ret ?_
    try dsimp only [thenQ]
    exact R1 rfl hX

/-- cartridge/frame.check -/
theorem ok_frame_check (u1 : Unit_api) (r : Int) (hX : X.frame_check u1 = some r) : Fun Tryd.prog 85 [Enc.v (u1 : Unit_api)] (· = Enc.v (r : Int)) := by
  refine Fun.of b85 (Nat.le_of_ble_eq_true rfl) (allVal.mem ⟨(by exact (v_val _)), trivial⟩) ?_
  unfold k85
  have nd : Nd [] := Nd_nil
  unfold X.frame_check at hX
  refine SR fun K2 hK2 => ?_
  refine TLc.boxV (lu := [Enc.v u1.Kind, Enc.v u1.Label, Enc.v u1.Number, Enc.v u1.Load]) nd rfl (Cells_v (u1 : Unit_api)) rfl ?_
  refine M rfl rfl (TL.nil (hK2 _ _ ?_))
  refine TK.seq_k fun K3 hK3 => ?_
  refine SR fun K4 hK4 => P1 (p_faR fs42_1 (by decide) rfl) rfl rfl (P1 (p_ldR (v := Enc.v u1.Label) ty3 rfl rfl rfl rfl rfl rfl) rfl rfl (P1 (p_lss rfl rfl) rfl rfl (M rfl rfl ?_)))
  refine TLc.p (gc := (!((decide (u1.Label < (1 : Int)))))) (p_faR fs42_1 (by decide) rfl (hg := fun e => rfl)) (gcF1 rfl) rfl ?_
  refine TLc.p (gc := (!((decide (u1.Label < (1 : Int)))))) (p_ldR (v := Enc.v u1.Label) ty3 rfl rfl rfl rfl rfl rfl (hg := fun e => e)) (gcF1 rfl) rfl ?_
  refine TLc.p (gc := (!((decide (u1.Label < (1 : Int)))))) (p_gtr rfl rfl (hg := fun e => ⟨e, rfl⟩)) (gcF1 rfl) rfl ?_
  refine P1 (p_or rfl rfl (fun e => ⟨rfl, fun h => (not_t h)⟩)) rfl rfl (M rfl rfl ?_)
  refine TLc.p (gc := (!(((decide (u1.Label < (1 : Int))) || (decide (u1.Label > (2147483647 : Int))))))) (p_faR fs42_2 (by decide) rfl (hg := fun e => rfl)) (gcF1 rfl) rfl ?_
  refine TLc.p (gc := (!(((decide (u1.Label < (1 : Int))) || (decide (u1.Label > (2147483647 : Int))))))) (p_ldR (v := Enc.v u1.Number) ty3 rfl rfl rfl rfl rfl rfl (hg := fun e => e)) (gcF1 rfl) rfl ?_
  refine TLc.p (gc := (!(((decide (u1.Label < (1 : Int))) || (decide (u1.Label > (2147483647 : Int))))))) (p_lss rfl rfl (hg := fun e => ⟨e, rfl⟩)) (gcF1 rfl) rfl ?_
  refine P1 (p_or rfl rfl (fun e => ⟨rfl, fun h => (not_t h)⟩)) rfl rfl (M rfl rfl ?_)
  refine TLc.p (gc := (!((((decide (u1.Label < (1 : Int))) || (decide (u1.Label > (2147483647 : Int)))) || (decide (u1.Number < (0 : Int))))))) (p_faR fs42_2 (by decide) rfl (hg := fun e => rfl)) (gcF1 rfl) rfl ?_
  refine TLc.p (gc := (!((((decide (u1.Label < (1 : Int))) || (decide (u1.Label > (2147483647 : Int)))) || (decide (u1.Number < (0 : Int))))))) (p_ldR (v := Enc.v u1.Number) ty3 rfl rfl rfl rfl rfl rfl (hg := fun e => e)) (gcF1 rfl) rfl ?_
  refine TLc.p (gc := (!((((decide (u1.Label < (1 : Int))) || (decide (u1.Label > (2147483647 : Int)))) || (decide (u1.Number < (0 : Int))))))) (p_gtr rfl rfl (hg := fun e => ⟨e, rfl⟩)) (gcF1 rfl) rfl ?_
  refine P1 (p_or rfl rfl (fun e => ⟨rfl, fun h => (not_t h)⟩)) rfl rfl (TL.nil (hK4 _ _ ?_))
  refine TK.cond (b := ((((decide (u1.Label < (1 : Int))) || (decide (u1.Label > (2147483647 : Int)))) || (decide (u1.Number < (0 : Int)))) || (decide (u1.Number > (2147483647 : Int))))) rfl (fun hc => ?_) (fun hc => ?_)
  · have hX := ite_t hc hX
    refine SR fun K5 hK5 => M rfl rfl (TL.nil (hK5 _ _ ?_))
    refine TK.ret ?_
    try dsimp only [thenQ]
    exact R1 rfl hX
  · have hX := ite_f hc hX
    refine TK.skip ?_
    refine hK3 _ _ ?_
    refine TK.seq_k fun K6 hK6 => ?_
    refine SR fun K7 hK7 => P1 (p_faR fs42_0 (by decide) rfl) rfl rfl (P1 (p_ldR (v := Enc.v u1.Kind) ty3 rfl rfl rfl rfl rfl rfl) rfl rfl (TL.nil (hK7 _ _ ?_)))
    refine TK.block ?_
    refine TK.seq_k fun K8 hK8 => ?_
    have J8 : ∀ (env : Env) (h : Hp), (∃ _u : Unit, keepE [1] env = [(1, true, .vref (ofL [Enc.v u1.Kind, Enc.v u1.Label, Enc.v u1.Number, Enc.v u1.Load]) 4 0)] ∧ Nd [] ∧ HSub [] h) → X.frame_check_j8 u1 = some r → K8 env h := by
      intro  env h hE hX
      obtain ⟨_u, henv, nd, hs⟩ := hE
      unfold X.frame_check_j8 at hX
      refine hK8 _ _ (TK.keep [1] ?_)
      rw [henv]
      refine TK.subH hs ?_
      refine TK.seq_k fun K9 hK9 => ?_
      refine TK.seq_k fun K10 hK10 => ?_
      refine TK.seq_k fun K11 hK11 => ?_
      have ndS : Nd [] := Nd.pick nd (is := []) (by decide)
      refine TK.drwX (h := []) (hS := []) [(0, 0), (0, 1), (0, 2), (0, 3), (0, 4), (0, 5), (0, 6)] mixed (by kernel_rfl) (HSub_app nd) ?_
      refine D0 rfl (p_faR fs42_3 (by decide) rfl) rfl rfl ?_
      refine D0 rfl (p_ldR (v := Enc.v u1.Load) ty24 rfl rfl rfl rfl rfl rfl) rfl rfl ?_
      refine D0 rfl (p_lenL (xs := u1.Load) kd24 rfl) rfl rfl ?_
      refine D0 rfl (p_faR fs42_0 (by decide) rfl) rfl rfl ?_
      refine D0 rfl (p_ldR (v := Enc.v u1.Kind) ty3 rfl rfl rfl rfl rfl rfl) rfl rfl ?_
      obtain ⟨r12, hr12, hX⟩ := bind_some hX
      refine DR0 (gc := true) rfl (vok_c rfl (fun _ => ⟨rfl, ⟨rfl, trivial⟩⟩) (fun e => ok_frame_room u1.Kind _ hr12)) rfl rfl ?_
      refine D0 rfl (p_gtr rfl rfl) rfl rfl ?_
      refine DRend ?_
      refine hK11 _ _ ?_
      refine TK.cond (b := (decide ((u1.Load.length : Int) > r12))) rfl (fun hc => ?_) (fun hc => ?_)
      · have hX := ite_t hc hX
        refine SR fun K13 hK13 => M rfl rfl (TL.nil (hK13 _ _ ?_))
        refine TK.ret ?_
        try dsimp only [thenQ]
        exact R1 rfl hX
      · have hX := ite_f hc hX
        refine TK.skip ?_
        refine hK10 _ _ (SR fun K14 hK14 => M rfl rfl (TL.nil (hK14 _ _ ?_)))
        refine TK.ret ?_
        try dsimp only [thenQ]
        exact R1 rfl hX
    refine TK.block ?_
    refine TK.block ?_
    refine TK.block ?_
    refine TK.block ?_
    refine TK.block ?_
    refine TK.block ?_
    refine TK.seq_k fun K15 hK15 => ?_
    refine TK.seq_k fun K16 hK16 => ?_
    refine SR fun K17 hK17 => P1 (p_eql rfl rfl) rfl rfl (M rfl rfl (TL.nil (hK17 _ _ ?_)))
    refine TK.cond (b := (u1.Kind == (1 : Int))) rfl (fun hc => ?_) (fun hc => ?_)
    · have hX := ite_t hc hX
      refine TK.exit ?_
      exact J8 _ _ ⟨(), rfl, Nd_nil, HSub.refl _⟩ hX
    · have hX := ite_f hc hX
      refine TK.skip ?_
      refine hK16 _ _ ?_
      refine TK.seq_k fun K18 hK18 => ?_
      refine SR fun K19 hK19 => P1 (p_eql rfl rfl) rfl rfl (M rfl rfl (TL.nil (hK19 _ _ ?_)))
      refine TK.cond (b := (u1.Kind == (2 : Int))) rfl (fun hc => ?_) (fun hc => ?_)
      · have hX := ite_t hc hX
        refine TK.exit ?_
        exact J8 _ _ ⟨(), rfl, Nd_nil, HSub.refl _⟩ hX
      · have hX := ite_f hc hX
        refine TK.skip ?_
        refine hK18 _ _ ?_
        refine TK.seq_k fun K20 hK20 => ?_
        refine SR fun K21 hK21 => P1 (p_eql rfl rfl) rfl rfl (M rfl rfl (TL.nil (hK21 _ _ ?_)))
        refine TK.cond (b := (u1.Kind == (3 : Int))) rfl (fun hc => ?_) (fun hc => ?_)
        · have hX := ite_t hc hX
          refine TK.exit ?_
          exact J8 _ _ ⟨(), rfl, Nd_nil, HSub.refl _⟩ hX
        · have hX := ite_f hc hX
          refine TK.skip ?_
          refine hK20 _ _ ?_
          refine TK.seq_k fun K22 hK22 => ?_
          refine SR fun K23 hK23 => P1 (p_eql rfl rfl) rfl rfl (M rfl rfl (TL.nil (hK23 _ _ ?_)))
          refine TK.cond (b := (u1.Kind == (4 : Int))) rfl (fun hc => ?_) (fun hc => ?_)
          · have hX := ite_t hc hX
            refine TK.exit ?_
            exact J8 _ _ ⟨(), rfl, Nd_nil, HSub.refl _⟩ hX
          · have hX := ite_f hc hX
            refine TK.skip ?_
            refine hK22 _ _ ?_
            refine TK.seq_k fun K24 hK24 => ?_
            refine SR fun K25 hK25 => P1 (p_eql rfl rfl) rfl rfl (M rfl rfl (TL.nil (hK25 _ _ ?_)))
            refine TK.cond (b := (u1.Kind == (5 : Int))) rfl (fun hc => ?_) (fun hc => ?_)
            · have hX := ite_t hc hX
              refine TK.exit ?_
              exact J8 _ _ ⟨(), rfl, Nd_nil, HSub.refl _⟩ hX
            · have hX := ite_f hc hX
              refine TK.skip ?_
              refine hK24 _ _ (SR fun K26 hK26 => P1 (p_eql rfl rfl) rfl rfl (M rfl rfl (TL.nil (hK26 _ _ ?_))))
              refine TK.cond (b := (u1.Kind == (6 : Int))) rfl (fun hc => ?_) (fun hc => ?_)
              · have hX := ite_t hc hX
                refine TK.exit ?_
                exact J8 _ _ ⟨(), rfl, Nd_nil, HSub.refl _⟩ hX
              · have hX := ite_f hc hX
                refine TK.skip ?_
                refine hK15 _ _ ?_
                refine TK.exit ?_
                refine hK6 _ _ (SR fun K27 hK27 => M rfl rfl (TL.nil (hK27 _ _ ?_)))
                refine TK.ret ?_
                try dsimp only [thenQ]
                exact R1 rfl hX

/-- (*cartridge/code.Writer).Byte -/
theorem ok_code_Writer_Byte (c4 : UInt8) (b1 : (List UInt8)) (b2 : Nat) (b3 : Nat) (nd : Nd [(b2, RV 147 [OL (α := UInt8) b3 b1]), (b3, RL (α := UInt8) 5 b1)]) (r : (List UInt8)) (hX : X.code_Writer_Byte c4 b1 = some r) : TCX Tryd.prog 83 [.ref b2 0 1, Enc.v (c4 : UInt8)] [(b2, RV 147 [OL (α := UInt8) b3 b1]), (b3, RL (α := UInt8) 5 b1)] (fun rv h' => ∃ b7, rv = .tup 0 (ofL []) ∧ h' = [(b2, RV 147 [OL (α := UInt8) b7 r]), (b7, RL (α := UInt8) 5 r)]) := by
  refine TCX.of b83 (Nat.le_of_ble_eq_true rfl) ?_
  unfold k83
  unfold X.code_Writer_Byte at hX
  refine TK.endK fun KE hKE => ?_
  refine TK.reg ?_
  refine M rfl rfl (M rfl rfl (P1 (p_ncR rfl (fun _ => refOK_of nd (j := 0) rfl rfl)) rfl rfl (P1 (p_faV fs147_0 (by decide) rfl nd (j := 0) rfl rfl) rfl rfl (P1 (p_ldV (v := OL b3 b1) ty24 rfl rfl nd (j := 0) rfl rfl rfl rfl rfl) rfl rfl (M rfl rfl ?_)))))
  refine TLc.lit ([c4] : List UInt8) kd24 ty5 rfl ⟨⟨rfl, rfl⟩, trivial⟩ rfl rfl rfl ?_
  obtain ⟨u5, hu5, hX⟩ := bind_some hX
  refine TLc.appO nd kd24 bo24 ty5 rfl rfl (j := 1) rfl rfl (Src_L _) (by decide) (need_t hu5) rfl fun nd => ?_
  refine P1 (p_ncR rfl (fun _ => refOK_of nd (j := 0) rfl rfl)) rfl rfl (P1 (p_faV fs147_0 (by decide) rfl nd (j := 0) rfl rfl) rfl rfl ?_)
  refine TLc.stV (lu := [OL (α := UInt8) b3 (b1 ++ ([c4] : List UInt8))]) nd ty24 rfl (j := 0) rfl rfl rfl (Cells_rs (refOK_of nd (j := 1) rfl rfl)) rfl rfl [OL (α := UInt8) b3 (b1 ++ ([c4] : List UInt8))] rfl fun nd => ?_
  refine TL.nil (hKE _ _ (TL.nil ?_))
  try dsimp only [thenQ]
  refine RetQ_end ?_
  exact retX (v := .tup 0 (ofL [])) res0 (by obtain rfl := some_in hX; exact ⟨b3, rfl, rfl⟩) nd (inH_tup (l := []) trivial) ⟨rowIn_RV ⟨inH_rs nd (j := 1) rfl, trivial⟩, rowIn_RL, trivial⟩

/-- (*cartridge/code.Writer).Int -/
theorem ok_code_Writer_Int (n4 : Int) (b1 : (List UInt8)) (b2 : Nat) (b3 : Nat) (nd : Nd [(b2, RV 147 [OL (α := UInt8) b3 b1]), (b3, RL (α := UInt8) 5 b1)]) (r : (List UInt8)) (hX : X.code_Writer_Int n4 b1 = some r) : TCX Tryd.prog 82 [.ref b2 0 1, Enc.v (n4 : Int)] [(b2, RV 147 [OL (α := UInt8) b3 b1]), (b3, RL (α := UInt8) 5 b1)] (fun rv h' => ∃ b8, rv = .tup 0 (ofL []) ∧ h' = [(b2, RV 147 [OL (α := UInt8) b8 r]), (b8, RL (α := UInt8) 5 r)]) := by
  refine TCX.of b82 (Nat.le_of_ble_eq_true rfl) ?_
  unfold k82
  unfold X.code_Writer_Int at hX
  refine TK.endK fun KE hKE => ?_
  refine SR fun K5 hK5 => M rfl rfl (P1 (p_cvt src3 kd106 rfl (cv_u32 _)) rfl rfl (M rfl rfl (TL.nil (hK5 _ _ ?_))))
  refine TK.reg ?_
  refine M rfl rfl (M rfl rfl (P1 (p_ncR rfl (fun _ => refOK_of nd (j := 0) rfl rfl)) rfl rfl (P1 (p_faV fs147_0 (by decide) rfl nd (j := 0) rfl rfl) rfl rfl (P1 (p_ldV (v := OL b3 b1) ty24 rfl rfl nd (j := 0) rfl rfl rfl rfl rfl) rfl rfl (M rfl rfl (P1 (p32_shr (a := (u32 n4)) (b := 24) rfl rfl) rfl rfl (P1 (p_cvt src106 kd5 rfl (cv_u8 _)) rfl rfl (M rfl rfl ?_))))))))
  refine P1 (p32_shr (a := (u32 n4)) (b := 16) rfl rfl) rfl rfl (P1 (p_cvt src106 kd5 rfl (cv_u8 _)) rfl rfl (M rfl rfl (P1 (p32_shr (a := (u32 n4)) (b := 8) rfl rfl) rfl rfl (P1 (p_cvt src106 kd5 rfl (cv_u8 _)) rfl rfl (M rfl rfl (P1 (p_cvt src106 kd5 rfl (cv_u8 _)) rfl rfl ?_))))))
  refine TLc.lit ([(u8 ((shr32 (u32 n4) 24).toNat : Int)), (u8 ((shr32 (u32 n4) 16).toNat : Int)), (u8 ((shr32 (u32 n4) 8).toNat : Int)), (u8 ((u32 n4).toNat : Int))] : List UInt8) kd24 ty5 rfl ⟨⟨rfl, rfl⟩, ⟨rfl, rfl⟩, ⟨rfl, rfl⟩, ⟨rfl, rfl⟩, trivial⟩ rfl rfl rfl ?_
  obtain ⟨u6, hu6, hX⟩ := bind_some hX
  refine TLc.appO nd kd24 bo24 ty5 rfl rfl (j := 1) rfl rfl (Src_L _) (by decide) (need_t hu6) rfl fun nd => ?_
  refine P1 (p_ncR rfl (fun _ => refOK_of nd (j := 0) rfl rfl)) rfl rfl (P1 (p_faV fs147_0 (by decide) rfl nd (j := 0) rfl rfl) rfl rfl ?_)
  refine TLc.stV (lu := [OL (α := UInt8) b3 (b1 ++ ([(u8 ((shr32 (u32 n4) 24).toNat : Int)), (u8 ((shr32 (u32 n4) 16).toNat : Int)), (u8 ((shr32 (u32 n4) 8).toNat : Int)), (u8 ((u32 n4).toNat : Int))] : List UInt8))]) nd ty24 rfl (j := 0) rfl rfl rfl (Cells_rs (refOK_of nd (j := 1) rfl rfl)) rfl rfl [OL (α := UInt8) b3 (b1 ++ ([(u8 ((shr32 (u32 n4) 24).toNat : Int)), (u8 ((shr32 (u32 n4) 16).toNat : Int)), (u8 ((shr32 (u32 n4) 8).toNat : Int)), (u8 ((u32 n4).toNat : Int))] : List UInt8))] rfl fun nd => ?_
  refine TL.nil (hKE _ _ (TL.nil ?_))
  try dsimp only [thenQ]
  refine RetQ_end ?_
  exact retX (v := .tup 0 (ofL [])) res0 (by obtain rfl := some_in hX; exact ⟨b3, rfl, rfl⟩) nd (inH_tup (l := []) trivial) ⟨rowIn_RV ⟨inH_rs nd (j := 1) rfl, trivial⟩, rowIn_RL, trivial⟩

/-- slices.Clone[[]byte,byte] -/
theorem ok_slices_Clone_Lbyte_byte_own_or (s1 : (List UInt8)) (b2 : Nat) (nd : Nd [(b2, RL (α := UInt8) 5 s1)]) (r : (List UInt8)) (hX : X.slices_Clone_Lbyte_byte_own_or s1 = some r) : TCX Tryd.prog 66 [OL (α := UInt8) b2 s1] [(b2, RL (α := UInt8) 5 s1)] (fun rv h' => ∃ b12, rv = OL (α := UInt8) b12 r ∧ h' = [(b2, RL (α := UInt8) 5 s1), (b12, RL (α := UInt8) 5 r)]) := by
  refine TCX.of b66 (Nat.le_of_ble_eq_true rfl) ?_
  unfold k66
  unfold X.slices_Clone_Lbyte_byte_own_or at hX
  refine SR fun K3 hK3 => M rfl rfl (TL.nil (hK3 _ _ ?_))
  refine TK.seq_k fun K4 hK4 => ?_
  refine SR fun K5 hK5 => M rfl rfl ?_
  refine TLc.eqNilO (xs := s1) nd kd24 rfl rfl (j := 0) rfl rfl fun z6 hbz6 => ?_
  replace hX := nilU_t hX hbz6
  refine TL.nil (hK5 _ _ ?_)
  refine TK.cond (b := z6) rfl (fun hc => ?_) (fun hc => ?_)
  · have hX := ite_t hc hX
    refine SR fun K7 hK7 => M rfl rfl (TL.nil (hK7 _ _ ?_))
    refine TK.ownL (α := UInt8) 2 5 nd rfl (.inl rfl) fun b8 nd => ?_
    refine TK.pick [1, 0] nd (by decide) fun nd => ?_
    refine TK.ret ?_
    try dsimp only [thenQ]
    exact retX (v := OL (α := UInt8) b8 ([] : List UInt8)) (res1 rfl) (by obtain rfl := some_in hX; exact ⟨b8, rfl, rfl⟩) nd (inH_rs nd (j := 1) rfl) ⟨rowIn_RL, rowIn_RL, trivial⟩
  · have hX := ite_f hc hX
    refine TK.skip ?_
    refine hK4 _ _ (SR fun K9 hK9 => ?_)
    refine TLc.litZ kd24 ty5 rfl ?_
    refine M rfl rfl ?_
    obtain ⟨u10, hu10, hX⟩ := bind_some hX
    refine TLc.appN nd kd24 bo24 ty5 rfl rfl (.inr rfl) rfl (Src_OL nd (j := 0) rfl) (by decide) (need_t hu10) rfl fun b11 nd => ?_
    refine M rfl rfl (TL.nil (hK9 _ _ ?_))
    refine TK.pick [1, 0] nd (by decide) fun nd => ?_
    refine TK.ret ?_
    try dsimp only [thenQ]
    exact retX (v := OL b11 s1) (res1 rfl) (by obtain rfl := some_in hX; exact ⟨b11, rfl, rfl⟩) nd (inH_rs nd (j := 1) rfl) ⟨rowIn_RL, rowIn_RL, trivial⟩

/-- (*cartridge/code.Writer).Bytes -/
theorem ok_code_Writer_Bytes_or (b1 : (List UInt8)) (b2 : Nat) (b3 : Nat) (nd : Nd [(b2, RV 147 [OL (α := UInt8) b3 b1]), (b3, RL (α := UInt8) 5 b1)]) (r : (List UInt8)) (hX : X.code_Writer_Bytes_or b1 = some r) : TCX Tryd.prog 84 [.ref b2 0 1] [(b2, RV 147 [OL (α := UInt8) b3 b1]), (b3, RL (α := UInt8) 5 b1)] (fun rv h' => ∃ b8, rv = OL (α := UInt8) b8 r ∧ h' = [(b2, RV 147 [OL (α := UInt8) b3 b1]), (b3, RL (α := UInt8) 5 b1), (b8, RL (α := UInt8) 5 r)]) := by
  refine TCX.of b84 (Nat.le_of_ble_eq_true rfl) ?_
  unfold k84
  unfold X.code_Writer_Bytes_or at hX
  refine SR fun K4 hK4 => M rfl rfl (TL.nil (hK4 _ _ (SR fun K5 hK5 => M rfl rfl (P1 (p_ncR rfl (fun _ => refOK_of nd (j := 0) rfl rfl)) rfl rfl (P1 (p_faV fs147_0 (by decide) rfl nd (j := 0) rfl rfl) rfl rfl (P1 (p_ldV (v := OL b3 b1) ty24 rfl rfl nd (j := 0) rfl rfl rfl rfl rfl) rfl rfl ?_))))))
  obtain ⟨r6, hr6, hX⟩ := bind_some hX
  refine TL.pick [1, 0] nd (by decide) fun nd => ?_
  refine TL.tcX [(b3, RL (α := UInt8) 5 b1)] [(b2, RV 147 [OL b3 b1])] rfl nd (dlt rfl) rfl ⟨rfl, ⟨rfl, trivial⟩⟩ (ok_slices_Clone_Lbyte_byte_own_or b1 b3 (Nd.take nd 1 rfl) _ hr6) ?_
  rintro _ _ hQ nd
  obtain ⟨b7, rfl, rfl⟩ := hQ
  refine M rfl rfl (TL.nil (hK5 _ _ ?_))
  refine TK.pick [2, 0, 1] nd (by decide) fun nd => ?_
  refine TK.ret ?_
  try dsimp only [thenQ]
  exact retX (v := OL b7 r6) (res1 rfl) (by obtain rfl := some_in hX; exact ⟨b7, rfl, rfl⟩) nd (inH_rs nd (j := 2) rfl) ⟨rowIn_RV ⟨inH_rs nd (j := 1) rfl, trivial⟩, rowIn_RL, rowIn_RL, trivial⟩

/-- cartridge/castagnoli.More -/
theorem ok_castagnoli_More (sum1 : UInt32) (b2 : (List UInt8)) (r : UInt32) (hX : X.castagnoli_More sum1 b2 = some r) : Fun Tryd.prog 119 [Enc.v (sum1 : UInt32), Enc.v (b2 : (List UInt8))] (· = Enc.v (r : UInt32)) := by
  refine Fun.of b119 (Nat.le_of_ble_eq_true rfl) (allVal.mem ⟨(by exact (v_val _)), (by exact (v_val _)), trivial⟩) ?_
  unfold k119
  have nd : Nd [] := Nd_nil
  unfold X.castagnoli_More at hX
  refine SR fun K3 hK3 => M rfl rfl (TL.nil (hK3 _ _ (SR fun K4 hK4 => M rfl rfl (P1 (p32_xor (a := sum1) (b := (4294967295 : UInt32)) rfl rfl) rfl rfl (M rfl rfl (TL.nil (hK4 _ _ ?_)))))))
  refine TK.seq_k fun K5 hK5 => ?_
  refine SR fun K6 hK6 => M rfl rfl (P1 (p_lenL (xs := b2) kd24 rfl) rfl rfl (M rfl rfl (TL.nil (hK6 _ _ ?_))))
  refine TK.block ?_
  obtain ⟨o7, hO7, hA7⟩ := bind_some hX
  have E7 : ∀ (x10 : UInt32) (env : Env) (h : Hp), (∃ _u : Unit, keepE [5] env = [(5, true, Enc.v x10)] ∧ Nd [] ∧ HSub [] h) → X.castagnoli_More_e7 x10 = some r → K5 env h := by
    intro x10 env h hE hX
    obtain ⟨_u, henv, nd, hs⟩ := hE
    unfold X.castagnoli_More_e7 at hX
    refine hK5 _ _ (TK.keep [5] ?_)
    rw [henv]
    refine TK.subH hs ?_
    refine SR fun K11 hK11 => M rfl rfl (P1 (p32_xor (a := x10) (b := (4294967295 : UInt32)) rfl rfl) rfl rfl (M rfl rfl (TL.nil (hK11 _ _ ?_))))
    refine TK.ret ?_
    try dsimp only [thenQ]
    exact R1 rfl hX
  refine TK.iter [5, 10, 11, 12] (fun s env h => match s with | (x8, x9) => ∃ _u : Unit, env = [(5, true, Enc.v x8), (10, true, Enc.v b2), (11, true, Enc.v ((b2.length : Int) : Int)), (12, true, Enc.v x9)] ∧ Nd [] ∧ HSub [] h) hO7 ⟨(), rfl, Nd_nil, HSub.refl _⟩ ?_
  rintro ⟨x8, x9⟩ env h x7x ⟨_u, rfl, nd, hs⟩ hX hR7
  refine TK.subH hs ?_
  unfold X.castagnoli_More_s7 at hX
  try dsimp only at hX
  refine SR fun K12 hK12 => P1 (p_lss rfl rfl) rfl rfl (TL.nil (hK12 _ _ ?_))
  refine TK.seq_k fun K13 hK13 => ?_
  refine TK.cond (b := (decide (x9 < (b2.length : Int)))) rfl (fun hc => ?_) (fun hc => ?_)
  · have hX := ite_t hc hX
    refine TK.skip ?_
    refine hK13 _ _ ?_
    refine TK.seq_k fun K14 hK14 => ?_
    refine TK.block ?_
    refine SR fun K15 hK15 => ?_
    obtain ⟨e16, he16, hX⟩ := bind_some hX
    refine P1 (p_iaL (xs := b2) kd24 ty5 rfl rfl rfl (fun _ => he16)) rfl rfl (P1 (p_ldE (xs := b2) (a := e16) (e16 : UInt8) ty5 rfl rfl (fun _ => he16) rfl rfl rfl) rfl rfl (M rfl rfl (TL.nil (hK15 _ _ (SR fun K17 hK17 => M rfl rfl (M rfl rfl (P1 (p_cvt src5 kd106 rfl (cv_u32 _)) rfl rfl (P1 (p32_xor (a := x8) (b := (u32 (e16.toNat : Int))) rfl rfl) rfl rfl (M rfl rfl (TL.nil (hK17 _ _ ?_)))))))))))
    refine SR fun K18 hK18 => M rfl rfl (TL.nil (hK18 _ _ ?_))
    refine TK.block ?_
    obtain ⟨o19, hO19, hA19⟩ := bind_some hX
    have E19 : ∀ (x22 : UInt32) (env : Env) (h : Hp), (∃ _u : Unit, keepE [5, 10, 11, 12] env = [(5, true, Enc.v x22), (10, true, Enc.v b2), (11, true, Enc.v ((b2.length : Int) : Int)), (12, true, Enc.v x9)] ∧ Nd [] ∧ HSub [] h) → X.castagnoli_More_e19 x9 x22 = some x7x → K14 env h := by
      intro x22 env h hE hX
      obtain ⟨_u, henv, nd, hs⟩ := hE
      unfold X.castagnoli_More_e19 at hX
      refine hK14 _ _ (TK.keep [5, 10, 11, 12] ?_)
      rw [henv]
      refine TK.subH hs ?_
      refine TK.reg ?_
      refine P1 (p_add rfl rfl) rfl rfl (M rfl rfl (TL.nil ?_))
      exact ⟨_, (some_in hX).symm, (), rfl, Nd_nil, HSub.refl _⟩
    refine TK.iter [5, 10, 11, 12, 20] (fun s env h => match s with | (x20, x21) => ∃ _u : Unit, env = [(5, true, Enc.v x20), (10, true, Enc.v b2), (11, true, Enc.v ((b2.length : Int) : Int)), (12, true, Enc.v x9), (20, true, Enc.v x21)] ∧ Nd [] ∧ HSub [] h) hO19 ⟨(), rfl, Nd_nil, HSub.refl _⟩ ?_
    rintro ⟨x20, x21⟩ env h x19x ⟨_u, rfl, nd, hs⟩ hX hR19
    refine TK.subH hs ?_
    unfold X.castagnoli_More_s19 at hX
    try dsimp only at hX
    refine SR fun K23 hK23 => P1 (p_lss rfl rfl) rfl rfl (TL.nil (hK23 _ _ ?_))
    refine TK.seq_k fun K24 hK24 => ?_
    refine TK.cond (b := (decide (x21 < (8 : Int)))) rfl (fun hc => ?_) (fun hc => ?_)
    · have hX := ite_t hc hX
      refine TK.skip ?_
      refine hK24 _ _ ?_
      refine TK.seq_k fun K25 hK25 => ?_
      refine TK.block ?_
      refine SR fun K26 hK26 => M rfl rfl (P1 (p32_and (a := x20) (b := (1 : UInt32)) rfl rfl) rfl rfl (P1 (p32_eql (a := (x20 &&& (1 : UInt32))) (b := (1 : UInt32)) rfl rfl) rfl rfl (TL.nil (hK26 _ _ ?_))))
      refine TK.cond (b := ((x20 &&& (1 : UInt32)) == (1 : UInt32))) rfl (fun hc => ?_) (fun hc => ?_)
      · have hX := ite_t hc hX
        refine TK.reg ?_
        refine M rfl rfl (P1 (p32_shr (a := x20) (b := 1) rfl rfl) rfl rfl (P1 (p32_xor (a := (shr32 x20 1)) (b := (2197175160 : UInt32)) rfl rfl) rfl rfl (M rfl rfl (TL.nil (hK25 _ _ ?_)))))
        refine TK.reg ?_
        refine P1 (p_add rfl rfl) rfl rfl (M rfl rfl (TL.nil ?_))
        exact ⟨_, (some_in hX).symm, (), rfl, Nd_nil, HSub.refl _⟩
      · have hX := ite_f hc hX
        refine TK.reg ?_
        refine M rfl rfl (P1 (p32_shr (a := x20) (b := 1) rfl rfl) rfl rfl (M rfl rfl (TL.nil (hK25 _ _ ?_))))
        refine TK.reg ?_
        refine P1 (p_add rfl rfl) rfl rfl (M rfl rfl (TL.nil ?_))
        exact ⟨_, (some_in hX).symm, (), rfl, Nd_nil, HSub.refl _⟩
    · have hX := ite_f hc hX
      refine TK.exit ?_
      obtain rfl := hR19 _ (some_in hX).symm
      exact E19 x20 _ _ ⟨(), rfl, Nd_nil, HSub.refl _⟩ hA19
  · have hX := ite_f hc hX
    refine TK.exit ?_
    obtain rfl := hR7 _ (some_in hX).symm
    exact E7 x8 _ _ ⟨(), rfl, Nd_nil, HSub.refl _⟩ hA7

/-- cartridge/castagnoli.Sum -/
theorem ok_castagnoli_Sum (b1 : (List UInt8)) (r : UInt32) (hX : X.castagnoli_Sum b1 = some r) : Fun Tryd.prog 92 [Enc.v (b1 : (List UInt8))] (· = Enc.v (r : UInt32)) := by
  refine Fun.of b92 (Nat.le_of_ble_eq_true rfl) (allVal.mem ⟨(by exact (v_val _)), trivial⟩) ?_
  unfold k92
  have nd : Nd [] := Nd_nil
  unfold X.castagnoli_Sum at hX
  refine SR fun K2 hK2 => M rfl rfl (TL.nil (hK2 _ _ (SR fun K3 hK3 => M rfl rfl ?_)))
  obtain ⟨r4, hr4, hX⟩ := bind_some hX
  refine TL.cvX rfl rfl rfl (fun _ => ⟨rfl, ⟨rfl, ⟨rfl, trivial⟩⟩⟩) (fun e => ok_castagnoli_More (0 : UInt32) b1 _ hr4) ?_
  refine M rfl rfl (TL.nil (hK3 _ _ ?_))
  refine TK.ret ?_
  try dsimp only [thenQ]
  exact R1 rfl hX

/-- slices.Clone[[]byte,byte] -/
theorem ok_slices_Clone_Lbyte_byte_own (s1 : (List UInt8)) (b2 : Nat) (nd : Nd [(b2, RL (α := UInt8) 5 s1)]) (r : (List UInt8)) (hX : X.slices_Clone_Lbyte_byte_own s1 = some r) : TCX Tryd.prog 66 [OL (α := UInt8) b2 s1] [(b2, RL (α := UInt8) 5 s1)] (fun rv h' => rv = Enc.v (r : (List UInt8)) ∧ h' = [(b2, RL (α := UInt8) 5 s1)]) := by
  refine TCX.of b66 (Nat.le_of_ble_eq_true rfl) ?_
  unfold k66
  unfold X.slices_Clone_Lbyte_byte_own at hX
  refine SR fun K3 hK3 => M rfl rfl (TL.nil (hK3 _ _ ?_))
  refine TK.seq_k fun K4 hK4 => ?_
  refine SR fun K5 hK5 => M rfl rfl ?_
  refine TLc.eqNilO (xs := s1) nd kd24 rfl rfl (j := 0) rfl rfl fun z6 hbz6 => ?_
  replace hX := nilU_t hX hbz6
  refine TL.nil (hK5 _ _ ?_)
  refine TK.cond (b := z6) rfl (fun hc => ?_) (fun hc => ?_)
  · have hX := ite_t hc hX
    refine SR fun K7 hK7 => M rfl rfl (TL.nil (hK7 _ _ ?_))
    refine TK.wk 2 (L ([] : (List UInt8))) rfl Wk_nil ?_
    refine TK.ret ?_
    try dsimp only [thenQ]
    exact retX (v := Enc.v (([] : (List UInt8)) : (List UInt8))) (res1 rfl) (by obtain rfl := some_in hX; exact ⟨rfl, rfl⟩) nd (inH_val (v_val _)) ⟨rowIn_RL, trivial⟩
  · have hX := ite_f hc hX
    refine TK.skip ?_
    refine hK4 _ _ (SR fun K8 hK8 => ?_)
    refine TLc.litZ kd24 ty5 rfl ?_
    refine M rfl rfl ?_
    obtain ⟨u9, hu9, hX⟩ := bind_some hX
    refine TLc.appN nd kd24 bo24 ty5 rfl rfl (.inr rfl) rfl (Src_OL nd (j := 0) rfl) (by decide) (need_t hu9) rfl fun b10 nd => ?_
    refine M rfl rfl (TL.nil (hK8 _ _ ?_))
    refine TK.lay [(2, L s1)] nd (j := 0) rfl ⟨⟨_, rfl, fix_OL nd (j := 0) rfl, rfl⟩, trivial⟩ fun nd => ?_
    refine TK.ret ?_
    try dsimp only [thenQ]
    exact retX (v := Enc.v s1) (res1 rfl) (by obtain rfl := some_in hX; exact ⟨rfl, rfl⟩) nd (inH_val (v_val _)) ⟨rowIn_RL, trivial⟩

/-- (*cartridge/code.Writer).Bytes -/
theorem ok_code_Writer_Bytes (b1 : (List UInt8)) (b2 : Nat) (b3 : Nat) (nd : Nd [(b2, RV 147 [OL (α := UInt8) b3 b1]), (b3, RL (α := UInt8) 5 b1)]) (r : (List UInt8)) (hX : X.code_Writer_Bytes b1 = some r) : TCX Tryd.prog 84 [.ref b2 0 1] [(b2, RV 147 [OL (α := UInt8) b3 b1]), (b3, RL (α := UInt8) 5 b1)] (fun rv h' => rv = Enc.v (r : (List UInt8)) ∧ h' = [(b2, RV 147 [OL (α := UInt8) b3 b1]), (b3, RL (α := UInt8) 5 b1)]) := by
  refine TCX.of b84 (Nat.le_of_ble_eq_true rfl) ?_
  unfold k84
  unfold X.code_Writer_Bytes at hX
  refine SR fun K4 hK4 => M rfl rfl (TL.nil (hK4 _ _ (SR fun K5 hK5 => M rfl rfl (P1 (p_ncR rfl (fun _ => refOK_of nd (j := 0) rfl rfl)) rfl rfl (P1 (p_faV fs147_0 (by decide) rfl nd (j := 0) rfl rfl) rfl rfl (P1 (p_ldV (v := OL b3 b1) ty24 rfl rfl nd (j := 0) rfl rfl rfl rfl rfl) rfl rfl ?_))))))
  obtain ⟨r6, hr6, hX⟩ := bind_some hX
  refine TL.pick [1, 0] nd (by decide) fun nd => ?_
  refine TL.tcX [(b3, RL (α := UInt8) 5 b1)] [(b2, RV 147 [OL b3 b1])] rfl nd (dlt rfl) rfl ⟨rfl, ⟨rfl, trivial⟩⟩ (ok_slices_Clone_Lbyte_byte_own b1 b3 (Nd.take nd 1 rfl) _ hr6) ?_
  rintro _ _ hQ nd
  obtain ⟨rfl, rfl⟩ := hQ
  refine M rfl rfl (TL.nil (hK5 _ _ ?_))
  refine TK.pick [1, 0] nd (by decide) fun nd => ?_
  refine TK.ret ?_
  try dsimp only [thenQ]
  exact retX (v := Enc.v r6) (res1 rfl) (by obtain rfl := some_in hX; exact ⟨rfl, rfl⟩) nd (inH_val (v_val _)) ⟨rowIn_RV ⟨inH_rs nd (j := 1) rfl, trivial⟩, rowIn_RL, trivial⟩

/-- cartridge/frame.made -/
theorem ok_frame_made (u1 : Unit_api) (r : (List UInt8)) (hX : X.frame_made u1 = some r) : Fun Tryd.prog 86 [Enc.v (u1 : Unit_api)] (· = Enc.v (r : (List UInt8))) := by
  refine Fun.of b86 (Nat.le_of_ble_eq_true rfl) (allVal.mem ⟨(by exact (v_val _)), trivial⟩) ?_
  unfold k86
  have nd : Nd [] := Nd_nil
  unfold X.frame_made at hX
  refine SR fun K2 hK2 => ?_
  refine TLc.boxV (lu := [Enc.v u1.Kind, Enc.v u1.Label, Enc.v u1.Number, Enc.v u1.Load]) nd rfl (Cells_v (u1 : Unit_api)) rfl ?_
  refine M rfl rfl (TL.nil (hK2 _ _ (SR fun K3 hK3 => P1 (p_bld (l := [.nils]) ty147 rfl all147 rfl (fun _ => trivial)) rfl rfl ?_)))
  refine TLc.boxO (lu := [.nils]) nd rfl (Cells_agg rfl (allA.mem ⟨trivial, trivial⟩)) rfl fun b4 nd => ?_
  refine M rfl rfl (TL.nil (hK3 _ _ ?_))
  refine TK.ownC (α := UInt8) nd (j := 0) rfl 0 5 (.inl rfl) fun b5 nd => ?_
  refine SR fun K6 hK6 => M rfl rfl (P1 (p_faR fs42_0 (by decide) rfl) rfl rfl (P1 (p_ldR (v := Enc.v u1.Kind) ty3 rfl rfl rfl rfl rfl rfl) rfl rfl (P1 (p_cvt src3 kd5 rfl (cv_u8 _)) rfl rfl ?_)))
  obtain ⟨r7, hr7, hX⟩ := bind_some hX
  refine TL.pick [1, 0] nd (by decide) fun nd => ?_
  refine TL.tcX [(b4, RV 147 [OL (α := UInt8) b5 ([] : List UInt8)]), (b5, RL (α := UInt8) 5 ([] : List UInt8))] [] rfl nd (dlt rfl) rfl ⟨rfl, ⟨rfl, ⟨rfl, trivial⟩⟩⟩ (ok_code_Writer_Byte (u8 u1.Kind) ([] : List UInt8) b4 b5 (Nd.take nd 2 rfl) _ hr7) ?_
  rintro _ _ hQ nd
  obtain ⟨b9, rfl, rfl⟩ := hQ
  refine TL.nil (hK6 _ _ (SR fun K10 hK10 => M rfl rfl (P1 (p_faR fs42_1 (by decide) rfl) rfl rfl (P1 (p_ldR (v := Enc.v u1.Label) ty3 rfl rfl rfl rfl rfl rfl) rfl rfl ?_))))
  obtain ⟨r11, hr11, hX⟩ := bind_some hX
  refine TL.tcX [(b4, RV 147 [OL b9 r7]), (b9, RL (α := UInt8) 5 r7)] [] rfl nd (dlt rfl) rfl ⟨rfl, ⟨rfl, ⟨rfl, trivial⟩⟩⟩ (ok_code_Writer_Int u1.Label r7 b4 b9 (Nd.take nd 2 rfl) _ hr11) ?_
  rintro _ _ hQ nd
  obtain ⟨b13, rfl, rfl⟩ := hQ
  refine TL.nil (hK10 _ _ (SR fun K14 hK14 => M rfl rfl (P1 (p_faR fs42_2 (by decide) rfl) rfl rfl (P1 (p_ldR (v := Enc.v u1.Number) ty3 rfl rfl rfl rfl rfl rfl) rfl rfl ?_))))
  obtain ⟨r15, hr15, hX⟩ := bind_some hX
  refine TL.tcX [(b4, RV 147 [OL b13 r11]), (b13, RL (α := UInt8) 5 r11)] [] rfl nd (dlt rfl) rfl ⟨rfl, ⟨rfl, ⟨rfl, trivial⟩⟩⟩ (ok_code_Writer_Int u1.Number r11 b4 b13 (Nd.take nd 2 rfl) _ hr15) ?_
  rintro _ _ hQ nd
  obtain ⟨b17, rfl, rfl⟩ := hQ
  refine TL.nil (hK14 _ _ (SR fun K18 hK18 => M rfl rfl (P1 (p_faR fs42_3 (by decide) rfl) rfl rfl (P1 (p_ldR (v := Enc.v u1.Load) ty24 rfl rfl rfl rfl rfl rfl) rfl rfl (P1 (p_lenL (xs := u1.Load) kd24 rfl) rfl rfl (P1 (p_shr rfl rfl (fun _ => by omega)) rfl rfl (P1 (p_cvt src3 kd5 rfl (cv_u8 _)) rfl rfl ?_)))))))
  obtain ⟨r19, hr19, hX⟩ := bind_some hX
  refine TL.tcX [(b4, RV 147 [OL b17 r15]), (b17, RL (α := UInt8) 5 r15)] [] rfl nd (dlt rfl) rfl ⟨rfl, ⟨rfl, ⟨rfl, trivial⟩⟩⟩ (ok_code_Writer_Byte (u8 (shr64 (u1.Load.length : Int) ((8 : UInt64).toNat : Int))) r15 b4 b17 (Nd.take nd 2 rfl) _ hr19) ?_
  rintro _ _ hQ nd
  obtain ⟨b21, rfl, rfl⟩ := hQ
  refine TL.nil (hK18 _ _ (SR fun K22 hK22 => M rfl rfl (P1 (p_faR fs42_3 (by decide) rfl) rfl rfl (P1 (p_ldR (v := Enc.v u1.Load) ty24 rfl rfl rfl rfl rfl rfl) rfl rfl (P1 (p_lenL (xs := u1.Load) kd24 rfl) rfl rfl (P1 (p_cvt src3 kd5 rfl (cv_u8 _)) rfl rfl ?_))))))
  obtain ⟨r23, hr23, hX⟩ := bind_some hX
  refine TL.tcX [(b4, RV 147 [OL b21 r19]), (b21, RL (α := UInt8) 5 r19)] [] rfl nd (dlt rfl) rfl ⟨rfl, ⟨rfl, ⟨rfl, trivial⟩⟩⟩ (ok_code_Writer_Byte (u8 (u1.Load.length : Int)) r19 b4 b21 (Nd.take nd 2 rfl) _ hr23) ?_
  rintro _ _ hQ nd
  obtain ⟨b25, rfl, rfl⟩ := hQ
  refine TL.nil (hK22 _ _ (SR fun K26 hK26 => P1 (p_faR fs42_0 (by decide) rfl) rfl rfl (P1 (p_ldR (v := Enc.v u1.Kind) ty3 rfl rfl rfl rfl rfl rfl) rfl rfl ?_)))
  obtain ⟨r27, hr27, hX⟩ := bind_some hX
  refine TL.cvX rfl rfl rfl (fun _ => ⟨rfl, ⟨rfl, trivial⟩⟩) (fun e => ok_frame_room u1.Kind _ hr27) ?_
  obtain ⟨u28, hu28, hX⟩ := bind_some hX
  refine TLc.mkO nd (0 : UInt8) kd24 ty5 rfl (fun j hj => by (have : j = 0 := by simpa [Enc.sz] using hj); subst this; rfl) rfl rfl (by decide) (need_t hu28) rfl fun b29 nd => ?_
  refine M rfl rfl (TL.nil (hK26 _ _ (SR fun K30 hK30 => M rfl rfl (P1 (p_faR fs42_3 (by decide) rfl) rfl rfl (P1 (p_ldR (v := Enc.v u1.Load) ty24 rfl rfl rfl rfl rfl rfl) rfl rfl ?_)))))
  refine TLc.copyO (xs := (List.replicate r27.toNat (0 : UInt8))) (ys := u1.Load) nd kd24 ty5 rfl rfl (j := 0) rfl rfl (Src_L _) rfl fun nd => ?_
  refine TL.cv 4 (OL b29 (cpy (List.replicate r27.toNat (0 : UInt8)) u1.Load)) rfl (Wk_eq (OL_len (cpy_len))) ?_
  refine TL.nil (hK30 _ _ (SR fun K31 hK31 => M rfl rfl ?_))
  obtain ⟨r32, hr32, hX⟩ := bind_some hX
  refine TL.pick [1, 2, 0] nd (by decide) fun nd => ?_
  refine TL.tcX [(b4, RV 147 [OL b25 r23]), (b25, RL (α := UInt8) 5 r23)] [(b29, RL (α := UInt8) 5 (cpy (List.replicate r27.toNat (0 : UInt8)) u1.Load))] rfl nd (dlt rfl) rfl ⟨rfl, ⟨rfl, trivial⟩⟩ (ok_code_Writer_Bytes_or r23 b4 b25 (Nd.take nd 2 rfl) _ hr32) ?_
  rintro _ _ hQ nd
  obtain ⟨b33, rfl, rfl⟩ := hQ
  refine M rfl rfl ?_
  obtain ⟨u34, hu34, hX⟩ := bind_some hX
  refine TLc.appO nd kd24 bo24 ty5 rfl rfl (j := 2) rfl rfl (Src_OL nd (j := 3) rfl) (by decide) (need_t hu34) rfl fun nd => ?_
  refine M rfl rfl (TL.nil (hK31 _ _ (SR fun K35 hK35 => P1 (p_bld (l := [.nils]) ty147 rfl all147 rfl (fun _ => trivial)) rfl rfl ?_)))
  refine TLc.boxO (lu := [.nils]) nd rfl (Cells_agg rfl (allA.mem ⟨trivial, trivial⟩)) rfl fun b36 nd => ?_
  refine M rfl rfl (TL.nil (hK35 _ _ ?_))
  refine TK.ownC (α := UInt8) nd (j := 0) rfl 0 5 (.inl rfl) fun b37 nd => ?_
  refine SR fun K38 hK38 => M rfl rfl (M rfl rfl ?_)
  obtain ⟨r39, hr39, hX⟩ := bind_some hX
  refine TL.lookX [L (r32 ++ (cpy (List.replicate r27.toNat (0 : UInt8)) u1.Load))] rfl rfl rfl (fun _ => ⟨rfl, ⟨rfl, trivial⟩⟩) ⟨look_OL nd (j := 4) rfl, trivial⟩ (fun e => ok_castagnoli_Sum (r32 ++ (cpy (List.replicate r27.toNat (0 : UInt8)) u1.Load)) _ hr39) (trivial) ?_
  refine P1 (p_cvt src106 kd3 rfl (cv_32 r39)) rfl rfl ?_
  obtain ⟨r40, hr40, hX⟩ := bind_some hX
  refine TL.pick [1, 0, 2, 3, 4, 5] nd (by decide) fun nd => ?_
  refine TL.tcX [(b36, RV 147 [OL (α := UInt8) b37 ([] : List UInt8)]), (b37, RL (α := UInt8) 5 ([] : List UInt8))] [(b4, RV 147 [OL b25 r23]), (b25, RL (α := UInt8) 5 r23), (b33, RL (α := UInt8) 5 (r32 ++ (cpy (List.replicate r27.toNat (0 : UInt8)) u1.Load))), (b29, RL (α := UInt8) 5 (cpy (List.replicate r27.toNat (0 : UInt8)) u1.Load))] rfl nd (dlt rfl) rfl ⟨rfl, ⟨rfl, ⟨rfl, trivial⟩⟩⟩ (ok_code_Writer_Int (r39.toNat : Int) ([] : List UInt8) b36 b37 (Nd.take nd 2 rfl) _ hr40) ?_
  rintro _ _ hQ nd
  obtain ⟨b42, rfl, rfl⟩ := hQ
  refine TL.nil (hK38 _ _ (SR fun K43 hK43 => M rfl rfl (M rfl rfl ?_)))
  obtain ⟨r44, hr44, hX⟩ := bind_some hX
  refine TL.tcX [(b36, RV 147 [OL b42 r40]), (b42, RL (α := UInt8) 5 r40)] [(b4, RV 147 [OL b25 r23]), (b25, RL (α := UInt8) 5 r23), (b33, RL (α := UInt8) 5 (r32 ++ (cpy (List.replicate r27.toNat (0 : UInt8)) u1.Load))), (b29, RL (α := UInt8) 5 (cpy (List.replicate r27.toNat (0 : UInt8)) u1.Load))] rfl nd (dlt rfl) rfl ⟨rfl, ⟨rfl, trivial⟩⟩ (ok_code_Writer_Bytes r40 b36 b42 (Nd.take nd 2 rfl) _ hr44) ?_
  rintro _ _ hQ nd
  obtain ⟨rfl, rfl⟩ := hQ
  obtain ⟨u45, hu45, hX⟩ := bind_some hX
  refine TLc.appO nd kd24 bo24 ty5 rfl rfl (j := 4) rfl rfl (Src_L _) (by decide) (need_t hu45) rfl fun nd => ?_
  refine M rfl rfl (TL.nil (hK43 _ _ ?_))
  refine TK.lay [(2, L ((r32 ++ (cpy (List.replicate r27.toNat (0 : UInt8)) u1.Load)) ++ r44))] nd (j := 4) rfl ⟨⟨_, rfl, fix_OL nd (j := 4) rfl, rfl⟩, trivial⟩ fun nd => ?_
  refine TK.ret ?_
  try dsimp only [thenQ]
  exact R1 rfl hX

/-- slices.Equal[[]byte,byte] -/
theorem ok_slices_Equal_Lbyte_byte (s11 : (List UInt8)) (s22 : (List UInt8)) (r : Bool) (hX : X.slices_Equal_Lbyte_byte s11 s22 = some r) : Fun Tryd.prog 116 [Enc.v (s11 : (List UInt8)), Enc.v (s22 : (List UInt8))] (· = Enc.v (r : Bool)) := by
  refine Fun.of b116 (Nat.le_of_ble_eq_true rfl) (allVal.mem ⟨(by exact (v_val _)), (by exact (v_val _)), trivial⟩) ?_
  unfold k116
  have nd : Nd [] := Nd_nil
  unfold X.slices_Equal_Lbyte_byte at hX
  refine SR fun K3 hK3 => M rfl rfl (TL.nil (hK3 _ _ ?_))
  refine TK.seq_k fun K4 hK4 => ?_
  refine SR fun K5 hK5 => M rfl rfl (P1 (p_lenL (xs := s11) kd24 rfl) rfl rfl (M rfl rfl (P1 (p_lenL (xs := s22) kd24 rfl) rfl rfl (P1 (p_neq rfl rfl) rfl rfl (TL.nil (hK5 _ _ ?_))))))
  refine TK.cond (b := ((s11.length : Int) != (s22.length : Int))) rfl (fun hc => ?_) (fun hc => ?_)
  · have hX := ite_t hc hX
    refine SR fun K6 hK6 => M rfl rfl (TL.nil (hK6 _ _ ?_))
    refine TK.ret ?_
    try dsimp only [thenQ]
    exact R1 rfl hX
  · have hX := ite_f hc hX
    refine TK.skip ?_
    refine hK4 _ _ ?_
    refine TK.seq_k fun K7 hK7 => ?_
    refine SR fun K8 hK8 => M rfl rfl (P1 (p_lenL (xs := s11) kd24 rfl) rfl rfl (M rfl rfl (TL.nil (hK8 _ _ ?_))))
    refine TK.block ?_
    obtain ⟨o9, hO9, hA9⟩ := bind_some hX
    have E9 : ∀ (env : Env) (h : Hp), (∃ _u : Unit, keepE [] env = [] ∧ Nd [] ∧ HSub [] h) → X.slices_Equal_Lbyte_byte_e9 = some r → K7 env h := by
      intro  env h hE hX
      obtain ⟨_u, henv, nd, hs⟩ := hE
      unfold X.slices_Equal_Lbyte_byte_e9 at hX
      refine hK7 _ _ (TK.keep [] ?_)
      rw [henv]
      refine TK.subH hs ?_
      refine SR fun K11 hK11 => M rfl rfl (TL.nil (hK11 _ _ ?_))
      refine TK.ret ?_
      try dsimp only [thenQ]
      exact R1 rfl hX
    refine TK.iter [0, 1, 12, 13] (fun s env h => match s with | x10 => ∃ _u : Unit, env = [(0, true, Enc.v s11), (1, true, Enc.v s22), (12, true, Enc.v ((s11.length : Int) : Int)), (13, true, Enc.v x10)] ∧ Nd [] ∧ HSub [] h) hO9 ⟨(), rfl, Nd_nil, HSub.refl _⟩ ?_
    rintro x10 env h x9x ⟨_u, rfl, nd, hs⟩ hX hR9
    refine TK.subH hs ?_
    unfold X.slices_Equal_Lbyte_byte_s9 at hX
    try dsimp only at hX
    refine SR fun K12 hK12 => P1 (p_lss rfl rfl) rfl rfl (TL.nil (hK12 _ _ ?_))
    refine TK.seq_k fun K13 hK13 => ?_
    refine TK.cond (b := (decide (x10 < (s11.length : Int)))) rfl (fun hc => ?_) (fun hc => ?_)
    · have hX := ite_t hc hX
      refine TK.skip ?_
      refine hK13 _ _ ?_
      refine TK.seq_k fun K14 hK14 => ?_
      refine TK.block ?_
      refine SR fun K15 hK15 => M rfl rfl (M rfl rfl (TL.nil (hK15 _ _ ?_)))
      refine TK.seq_k fun K16 hK16 => ?_
      have ndS : Nd [] := Nd.pick nd (is := []) (by decide)
      refine TK.drwX (h := []) (hS := []) [(0, 0), (0, 1), (0, 2), (0, 3), (0, 4), (0, 5), (0, 6), (0, 7), (0, 8)] mixed (by kernel_rfl) (HSub_app nd) ?_
      refine DM rfl rfl rfl ?_
      refine DM rfl rfl rfl ?_
      obtain ⟨e17, he17, hX⟩ := bind_some hX
      refine D0 rfl (p_iaL (xs := s11) kd24 ty5 rfl rfl rfl (fun _ => he17)) rfl rfl ?_
      refine D0 rfl (p_ldE (xs := s11) (a := e17) (e17 : UInt8) ty5 rfl rfl (fun _ => he17) rfl rfl rfl) rfl rfl ?_
      refine DM rfl rfl rfl ?_
      refine DM rfl rfl rfl ?_
      obtain ⟨e18, he18, hX⟩ := bind_some hX
      refine D0 rfl (p_iaL (xs := s22) kd24 ty5 rfl rfl rfl (fun _ => he18)) rfl rfl ?_
      refine D0 rfl (p_ldE (xs := s22) (a := e18) (e18 : UInt8) ty5 rfl rfl (fun _ => he18) rfl rfl rfl) rfl rfl ?_
      refine D0 rfl (p8_neq (a := e17) (b := e18) rfl rfl) rfl rfl ?_
      refine DRend ?_
      refine hK16 _ _ ?_
      refine TK.cond (b := (e17 != e18)) rfl (fun hc => ?_) (fun hc => ?_)
      · have hX := ite_t hc hX
        refine SR fun K19 hK19 => M rfl rfl (TL.nil (hK19 _ _ ?_))
        refine TK.ret ?_
        obtain rfl := hR9 _ (some_in hX).symm
        replace hX := hA9
        try dsimp only [thenQ]
        exact R1 rfl hX
      · have hX := ite_f hc hX
        refine TK.skip ?_
        refine hK14 _ _ ?_
        refine TK.reg ?_
        refine P1 (p_add rfl rfl) rfl rfl (M rfl rfl (TL.nil ?_))
        exact ⟨_, (some_in hX).symm, (), rfl, Nd_nil, HSub.refl _⟩
    · have hX := ite_f hc hX
      refine TK.exit ?_
      obtain rfl := hR9 _ (some_in hX).symm
      exact E9 _ _ ⟨(), rfl, Nd_nil, HSub.refl _⟩ hA9

/-- cartridge/frame.Get -/
theorem bc_frame_Get : BodyC cx 89 47 [.c 2 42, .t 3] k89 := ⟨Enters.of Tryd.func89 (by kernel_rfl) (by kernel_rfl), _, _, Tryd.func89, rfl, by kernel_rfl, rfl, rfl⟩
theorem ok_frame_Get (b1 : (List UInt8)) (r : (Unit_api × Int)) (hX : X.frame_Get b1 = some r) : Fun Tryd.prog 89 [Enc.v (b1 : (List UInt8))] (· = .tup 2 (ofL [Enc.v r.1, Enc.v r.2])) := by
  refine Fun.ofC (C := cx) bc_frame_Get (Nat.le_of_ble_eq_true rfl) (allVal.mem ⟨(by exact (v_val _)), trivial⟩) ?_
  unfold k89
  have nd : Nd [] := Nd_nil
  unfold X.frame_Get at hX
  refine SR fun K2 hK2 => ?_
  refine TLc.alO (l := [Enc.v ((0 : Int) : Int), Enc.v ((0 : Int) : Int), Enc.v ((0 : Int) : Int), .nils]) nd ty42 ti42_z rfl rfl fun b3 nd => ?_
  refine M rfl rfl (TL.nil (hK2 _ _ ?_))
  refine TK.cvR nd (j := 0) rfl (l' := [Enc.v ((0 : Int) : Int), Enc.v ((0 : Int) : Int), Enc.v ((0 : Int) : Int), Enc.v (([] : (List UInt8)) : (List UInt8))]) ⟨Wk.refl _, Wk.refl _, Wk.refl _, Wk_nil, trivial⟩ fun nd => ?_
  refine SR fun K4 hK4 => M rfl rfl ?_
  obtain ⟨r5, hr5, hX⟩ := bind_some hX
  refine TL.tcX [] [(b3, RV 42 [Enc.v ((0 : Int) : Int), Enc.v ((0 : Int) : Int), Enc.v ((0 : Int) : Int), Enc.v (([] : (List UInt8)) : (List UInt8))])] rfl nd (dlt rfl) rfl ⟨rfl, ⟨rfl, trivial⟩⟩ (ok_code_NewReader b1 (Nd.take nd 0 rfl) _ hr5) ?_
  rintro _ _ hQ nd
  obtain ⟨b6, rfl, rfl⟩ := hQ
  refine M rfl rfl (TL.nil (hK4 _ _ (SR fun K7 hK7 => M rfl rfl ?_)))
  obtain ⟨r8, hr8, hX⟩ := bind_some hX
  refine TL.tcX [(b6, RV 215 [Enc.v r5.1, Enc.v r5.2])] [(b3, RV 42 [Enc.v ((0 : Int) : Int), Enc.v ((0 : Int) : Int), Enc.v ((0 : Int) : Int), Enc.v (([] : (List UInt8)) : (List UInt8))])] rfl nd (dlt rfl) rfl ⟨rfl, ⟨rfl, trivial⟩⟩ (ok_code_Reader_Byte r5.1 r5.2 b6 (Nd.take nd 1 rfl) _ hr8) ?_
  rintro _ _ hQ nd
  obtain ⟨rfl, rfl⟩ := hQ
  refine P1 (p_cvt src5 kd3 rfl (cv_8 r8.1)) rfl rfl ?_
  refine TLc.p (gc := true) (p_bld (l := [Enc.v ((r8.1.toNat : Int) : Int), Enc.v ((0 : Int) : Int), Enc.v ((0 : Int) : Int), .nils]) ty42 rfl all42 rfl (fun _ => ⟨⟨rfl, trivial, rfl⟩, trivial⟩)) rfl rfl (TL.wk (v' := Enc.v ((Unit_api.mk (r8.1.toNat : Int) (0 : Int) (0 : Int) ([] : (List UInt8))) : Unit_api)) (Wk_agg ⟨Wk.refl _, Wk.refl _, Wk.refl _, Wk_nil, trivial⟩) ?_)
  refine TLc.alO (l := [Enc.v ((0 : Int) : Int), Enc.v ((0 : Int) : Int), Enc.v ((0 : Int) : Int), .nils]) nd ty42 ti42_z rfl rfl fun b10 nd => ?_
  refine TLc.stV (lu := Enc.cl ((Unit_api.mk (r8.1.toNat : Int) (0 : Int) (0 : Int) ([] : (List UInt8))) : Unit_api)) nd ty42 rfl (j := 0) rfl rfl rfl (Cells_v ((Unit_api.mk (r8.1.toNat : Int) (0 : Int) (0 : Int) ([] : (List UInt8))) : Unit_api)) rfl rfl [Enc.v ((Unit_api.mk (r8.1.toNat : Int) (0 : Int) (0 : Int) ([] : (List UInt8))).Kind : Int), Enc.v ((Unit_api.mk (r8.1.toNat : Int) (0 : Int) (0 : Int) ([] : (List UInt8))).Label : Int), Enc.v ((Unit_api.mk (r8.1.toNat : Int) (0 : Int) (0 : Int) ([] : (List UInt8))).Number : Int), Enc.v ((Unit_api.mk (r8.1.toNat : Int) (0 : Int) (0 : Int) ([] : (List UInt8))).Load : (List UInt8))] rfl fun nd => ?_
  refine TL.nil (hK7 _ _ (SR fun K11 hK11 => M rfl rfl ?_))
  obtain ⟨r12, hr12, hX⟩ := bind_some hX
  refine TL.pick [1, 0, 2] nd (by decide) fun nd => ?_
  refine TL.tcX [(b6, RV 215 [Enc.v r8.2.1, Enc.v r8.2.2])] [(b10, RV 42 [Enc.v ((Unit_api.mk (r8.1.toNat : Int) (0 : Int) (0 : Int) ([] : (List UInt8))).Kind : Int), Enc.v ((Unit_api.mk (r8.1.toNat : Int) (0 : Int) (0 : Int) ([] : (List UInt8))).Label : Int), Enc.v ((Unit_api.mk (r8.1.toNat : Int) (0 : Int) (0 : Int) ([] : (List UInt8))).Number : Int), Enc.v ((Unit_api.mk (r8.1.toNat : Int) (0 : Int) (0 : Int) ([] : (List UInt8))).Load : (List UInt8))]), (b3, RV 42 [Enc.v ((0 : Int) : Int), Enc.v ((0 : Int) : Int), Enc.v ((0 : Int) : Int), Enc.v (([] : (List UInt8)) : (List UInt8))])] rfl nd (dlt rfl) rfl ⟨rfl, ⟨rfl, trivial⟩⟩ (ok_code_Reader_Int r8.2.1 r8.2.2 b6 (Nd.take nd 1 rfl) _ hr12) ?_
  rintro _ _ hQ nd
  obtain ⟨rfl, rfl⟩ := hQ
  refine P1 (p_faV fs42_1 (by decide) rfl nd (j := 1) rfl rfl) rfl rfl ?_
  refine TLc.stV (lu := Enc.cl (r12.1 : Int)) nd ty3 rfl (j := 1) rfl rfl rfl (Cells_v (r12.1 : Int)) rfl rfl [Enc.v ((Unit_api.mk (r8.1.toNat : Int) (0 : Int) (0 : Int) ([] : (List UInt8))).Kind : Int), Enc.v r12.1, Enc.v ((Unit_api.mk (r8.1.toNat : Int) (0 : Int) (0 : Int) ([] : (List UInt8))).Number : Int), Enc.v ((Unit_api.mk (r8.1.toNat : Int) (0 : Int) (0 : Int) ([] : (List UInt8))).Load : (List UInt8))] rfl fun nd => ?_
  refine TL.nil (hK11 _ _ (SR fun K14 hK14 => M rfl rfl ?_))
  obtain ⟨r15, hr15, hX⟩ := bind_some hX
  refine TL.tcX [(b6, RV 215 [Enc.v r12.2.1, Enc.v r12.2.2])] [(b10, RV 42 [Enc.v ((Unit_api.mk (r8.1.toNat : Int) (0 : Int) (0 : Int) ([] : (List UInt8))).Kind : Int), Enc.v r12.1, Enc.v ((Unit_api.mk (r8.1.toNat : Int) (0 : Int) (0 : Int) ([] : (List UInt8))).Number : Int), Enc.v ((Unit_api.mk (r8.1.toNat : Int) (0 : Int) (0 : Int) ([] : (List UInt8))).Load : (List UInt8))]), (b3, RV 42 [Enc.v ((0 : Int) : Int), Enc.v ((0 : Int) : Int), Enc.v ((0 : Int) : Int), Enc.v (([] : (List UInt8)) : (List UInt8))])] rfl nd (dlt rfl) rfl ⟨rfl, ⟨rfl, trivial⟩⟩ (ok_code_Reader_Int r12.2.1 r12.2.2 b6 (Nd.take nd 1 rfl) _ hr15) ?_
  rintro _ _ hQ nd
  obtain ⟨rfl, rfl⟩ := hQ
  refine P1 (p_faV fs42_2 (by decide) rfl nd (j := 1) rfl rfl) rfl rfl ?_
  refine TLc.stV (lu := Enc.cl (r15.1 : Int)) nd ty3 rfl (j := 1) rfl rfl rfl (Cells_v (r15.1 : Int)) rfl rfl [Enc.v ((Unit_api.mk (r8.1.toNat : Int) (0 : Int) (0 : Int) ([] : (List UInt8))).Kind : Int), Enc.v r12.1, Enc.v r15.1, Enc.v ((Unit_api.mk (r8.1.toNat : Int) (0 : Int) (0 : Int) ([] : (List UInt8))).Load : (List UInt8))] rfl fun nd => ?_
  refine TL.nil (hK14 _ _ (SR fun K17 hK17 => M rfl rfl ?_))
  obtain ⟨r18, hr18, hX⟩ := bind_some hX
  refine TL.tcX [(b6, RV 215 [Enc.v r15.2.1, Enc.v r15.2.2])] [(b10, RV 42 [Enc.v ((Unit_api.mk (r8.1.toNat : Int) (0 : Int) (0 : Int) ([] : (List UInt8))).Kind : Int), Enc.v r12.1, Enc.v r15.1, Enc.v ((Unit_api.mk (r8.1.toNat : Int) (0 : Int) (0 : Int) ([] : (List UInt8))).Load : (List UInt8))]), (b3, RV 42 [Enc.v ((0 : Int) : Int), Enc.v ((0 : Int) : Int), Enc.v ((0 : Int) : Int), Enc.v (([] : (List UInt8)) : (List UInt8))])] rfl nd (dlt rfl) rfl ⟨rfl, ⟨rfl, trivial⟩⟩ (ok_code_Reader_Byte r15.2.1 r15.2.2 b6 (Nd.take nd 1 rfl) _ hr18) ?_
  rintro _ _ hQ nd
  obtain ⟨rfl, rfl⟩ := hQ
  refine P1 (p_cvt src5 kd3 rfl (cv_8 r18.1)) rfl rfl (P1 (p_shl rfl rfl (fun _ => by omega)) rfl rfl (M rfl rfl ?_))
  obtain ⟨r20, hr20, hX⟩ := bind_some hX
  refine TL.tcX [(b6, RV 215 [Enc.v r18.2.1, Enc.v r18.2.2])] [(b10, RV 42 [Enc.v ((Unit_api.mk (r8.1.toNat : Int) (0 : Int) (0 : Int) ([] : (List UInt8))).Kind : Int), Enc.v r12.1, Enc.v r15.1, Enc.v ((Unit_api.mk (r8.1.toNat : Int) (0 : Int) (0 : Int) ([] : (List UInt8))).Load : (List UInt8))]), (b3, RV 42 [Enc.v ((0 : Int) : Int), Enc.v ((0 : Int) : Int), Enc.v ((0 : Int) : Int), Enc.v (([] : (List UInt8)) : (List UInt8))])] rfl nd (dlt rfl) rfl ⟨rfl, ⟨rfl, trivial⟩⟩ (ok_code_Reader_Byte r18.2.1 r18.2.2 b6 (Nd.take nd 1 rfl) _ hr20) ?_
  rintro _ _ hQ nd
  obtain ⟨rfl, rfl⟩ := hQ
  refine P1 (p_cvt src5 kd3 rfl (cv_8 r20.1)) rfl rfl (P1 (p_or64 rfl rfl) rfl rfl (M rfl rfl (TL.nil (hK17 _ _ (SR fun K22 hK22 => M rfl rfl (M rfl rfl ?_))))))
  obtain ⟨r23, hr23, hX⟩ := bind_some hX
  refine TL.tcX [(b6, RV 215 [Enc.v r20.2.1, Enc.v r20.2.2])] [(b10, RV 42 [Enc.v ((Unit_api.mk (r8.1.toNat : Int) (0 : Int) (0 : Int) ([] : (List UInt8))).Kind : Int), Enc.v r12.1, Enc.v r15.1, Enc.v ((Unit_api.mk (r8.1.toNat : Int) (0 : Int) (0 : Int) ([] : (List UInt8))).Load : (List UInt8))]), (b3, RV 42 [Enc.v ((0 : Int) : Int), Enc.v ((0 : Int) : Int), Enc.v ((0 : Int) : Int), Enc.v (([] : (List UInt8)) : (List UInt8))])] rfl nd (dlt rfl) rfl ⟨rfl, ⟨rfl, ⟨rfl, trivial⟩⟩⟩ (ok_code_Reader_Raw (or64 (shl64 (r18.1.toNat : Int) ((8 : UInt64).toNat : Int)) (r20.1.toNat : Int)) r20.2.1 r20.2.2 b6 (Nd.take nd 1 rfl) _ hr23) ?_
  rintro _ _ hQ nd
  obtain ⟨rfl, rfl⟩ := hQ
  refine P1 (p_faV fs42_3 (by decide) rfl nd (j := 1) rfl rfl) rfl rfl ?_
  refine TLc.stV (lu := Enc.cl (r23.1 : (List UInt8))) nd ty24 rfl (j := 1) rfl rfl rfl (Cells_v (r23.1 : (List UInt8))) rfl rfl [Enc.v ((Unit_api.mk (r8.1.toNat : Int) (0 : Int) (0 : Int) ([] : (List UInt8))).Kind : Int), Enc.v r12.1, Enc.v r15.1, Enc.v r23.1] rfl fun nd => ?_
  refine TL.nil (hK22 _ _ ?_)
  refine TK.seq_k fun K25 hK25 => ?_
  refine SR fun K26 hK26 => M rfl rfl ?_
  obtain ⟨r27, hr27, hX⟩ := bind_some hX
  refine TL.lookX [.vref (ofL [Enc.v r23.2.1, Enc.v r23.2.2]) 2 0] rfl rfl rfl (fun _ => ⟨rfl, ⟨rfl, trivial⟩⟩) ⟨look_ref (l := [Enc.v r23.2.1, Enc.v r23.2.2]) nd (j := 0) rfl ⟨look_v (v := Enc.v r23.2.1) (v_val _), look_v (v := Enc.v r23.2.2) (v_val _), trivial⟩, trivial⟩ (fun e => ok_code_Reader_Bad r23.2.1 r23.2.2 _ hr27) (trivial) ?_
  refine M rfl rfl ?_
  refine TLc.p (gc := (!r27)) (p_ldVa (l' := Enc.cl ((Unit_api.mk (Unit_api.mk (r8.1.toNat : Int) (0 : Int) (0 : Int) ([] : (List UInt8))).Kind r12.1 r15.1 r23.1) : Unit_api)) ty42 rfl rfl nd (j := 1) rfl rfl rfl rfl (Nat.le_of_ble_eq_true rfl) (hg := fun e => rfl)) (gcF1 rfl) rfl ?_
  obtain ⟨r28, hr28, hX⟩ := bind_some hX
  refine TL.cvX (gcF1 rfl) rfl rfl (fun e => ⟨rfl, ⟨e, trivial⟩⟩) (fun e => ok_frame_check (Unit_api.mk (Unit_api.mk (r8.1.toNat : Int) (0 : Int) (0 : Int) ([] : (List UInt8))).Kind r12.1 r15.1 r23.1) _ (optG_t hr28 e)) ?_
  refine TLc.p (gc := (!r27)) (p_neq rfl rfl (hg := fun e => ⟨e, rfl⟩)) (gcF1 rfl) rfl ?_
  refine P1 (p_or rfl rfl (fun e => ⟨rfl, fun h => (not_t h)⟩)) rfl rfl (M rfl rfl ?_)
  refine TLc.p (gc := (!((r27 || (r28 != (0 : Int)))))) (p_mv rfl (hg := fun e => rfl)) (gcF1 rfl) rfl ?_
  refine TLc.p (gc := (!((r27 || (r28 != (0 : Int)))))) (p_ldVa (l' := Enc.cl ((Unit_api.mk (Unit_api.mk (r8.1.toNat : Int) (0 : Int) (0 : Int) ([] : (List UInt8))).Kind r12.1 r15.1 r23.1) : Unit_api)) ty42 rfl rfl nd (j := 1) rfl rfl rfl rfl (Nat.le_of_ble_eq_true rfl) (hg := fun e => rfl)) (gcF1 rfl) rfl ?_
  obtain ⟨r29, hr29, hX⟩ := bind_some hX
  refine TL.cvX (gcF1 rfl) rfl rfl (fun e => ⟨rfl, ⟨e, trivial⟩⟩) (fun e => ok_frame_made (Unit_api.mk (Unit_api.mk (r8.1.toNat : Int) (0 : Int) (0 : Int) ([] : (List UInt8))).Kind r12.1 r15.1 r23.1) _ (optG_t hr29 e)) ?_
  obtain ⟨r30, hr30, hX⟩ := bind_some hX
  refine TL.cvX (gcF1 rfl) rfl rfl (fun e => ⟨rfl, ⟨e, ⟨e, trivial⟩⟩⟩) (fun e => ok_slices_Equal_Lbyte_byte b1 r29 _ (optG_t hr30 e)) ?_
  refine TLc.p (gc := (!((r27 || (r28 != (0 : Int)))))) (p_not rfl (hg := fun e => e)) (gcF1 rfl) rfl ?_
  refine P1 (p_or rfl rfl (fun e => ⟨rfl, fun h => (not_t h)⟩)) rfl rfl (TL.nil (hK26 _ _ ?_))
  refine TK.cond (b := ((r27 || (r28 != (0 : Int))) || (!r30))) rfl (fun hc => ?_) (fun hc => ?_)
  · have hX := ite_t hc hX
    refine SR fun K31 hK31 => ?_
    refine TLc.p (gc := true) (p_bld (l := [Enc.v ((0 : Int) : Int), Enc.v ((0 : Int) : Int), Enc.v ((0 : Int) : Int), .nils]) ty42 rfl all42 rfl (fun _ => trivial)) rfl rfl (TL.wk (v' := Enc.v ((Unit_api.mk (0 : Int) (0 : Int) (0 : Int) ([] : (List UInt8))) : Unit_api)) (Wk_agg ⟨Wk.refl _, Wk.refl _, Wk.refl _, Wk_nil, trivial⟩) ?_)
    refine TLc.stV (lu := Enc.cl ((Unit_api.mk (0 : Int) (0 : Int) (0 : Int) ([] : (List UInt8))) : Unit_api)) nd ty42 rfl (j := 2) rfl rfl rfl (Cells_v ((Unit_api.mk (0 : Int) (0 : Int) (0 : Int) ([] : (List UInt8))) : Unit_api)) rfl rfl [Enc.v ((Unit_api.mk (0 : Int) (0 : Int) (0 : Int) ([] : (List UInt8))).Kind : Int), Enc.v ((Unit_api.mk (0 : Int) (0 : Int) (0 : Int) ([] : (List UInt8))).Label : Int), Enc.v ((Unit_api.mk (0 : Int) (0 : Int) (0 : Int) ([] : (List UInt8))).Number : Int), Enc.v ((Unit_api.mk (0 : Int) (0 : Int) (0 : Int) ([] : (List UInt8))).Load : (List UInt8))] rfl fun nd => ?_
    refine M rfl rfl (TL.nil (hK31 _ _ ?_))
    refine TK.ret ?_
    try dsimp only [thenQ]
    exact retC [Enc.v ((Unit_api.mk (0 : Int) (0 : Int) (0 : Int) ([] : (List UInt8))) : Unit_api), Enc.v ((2 : Int) : Int)] ⟨p_ldVa (l' := Enc.cl ((Unit_api.mk (0 : Int) (0 : Int) (0 : Int) ([] : (List UInt8))) : Unit_api)) ty42 rfl rfl nd (j := 2) rfl rfl rfl rfl (Nat.le_of_ble_eq_true rfl), p_mv rfl, trivial⟩ (by obtain rfl := some_in hX; rfl) (tup_val (allVal.mem ⟨v_val _, v_val _, trivial⟩))
  · have hX := ite_f hc hX
    refine TK.skip ?_
    refine hK25 _ _ (SR fun K32 hK32 => P1 (p_ldVa (l' := Enc.cl ((Unit_api.mk (Unit_api.mk (r8.1.toNat : Int) (0 : Int) (0 : Int) ([] : (List UInt8))).Kind r12.1 r15.1 r23.1) : Unit_api)) ty42 rfl rfl nd (j := 1) rfl rfl rfl rfl (Nat.le_of_ble_eq_true rfl)) rfl rfl ?_)
    refine TLc.stV (lu := Enc.cl ((Unit_api.mk (Unit_api.mk (r8.1.toNat : Int) (0 : Int) (0 : Int) ([] : (List UInt8))).Kind r12.1 r15.1 r23.1) : Unit_api)) nd ty42 rfl (j := 2) rfl rfl rfl (Cells_v ((Unit_api.mk (Unit_api.mk (r8.1.toNat : Int) (0 : Int) (0 : Int) ([] : (List UInt8))).Kind r12.1 r15.1 r23.1) : Unit_api)) rfl rfl [Enc.v ((Unit_api.mk (Unit_api.mk (r8.1.toNat : Int) (0 : Int) (0 : Int) ([] : (List UInt8))).Kind r12.1 r15.1 r23.1).Kind : Int), Enc.v ((Unit_api.mk (Unit_api.mk (r8.1.toNat : Int) (0 : Int) (0 : Int) ([] : (List UInt8))).Kind r12.1 r15.1 r23.1).Label : Int), Enc.v ((Unit_api.mk (Unit_api.mk (r8.1.toNat : Int) (0 : Int) (0 : Int) ([] : (List UInt8))).Kind r12.1 r15.1 r23.1).Number : Int), Enc.v ((Unit_api.mk (Unit_api.mk (r8.1.toNat : Int) (0 : Int) (0 : Int) ([] : (List UInt8))).Kind r12.1 r15.1 r23.1).Load : (List UInt8))] rfl fun nd => ?_
    refine M rfl rfl (TL.nil (hK32 _ _ ?_))
    refine TK.ret ?_
    try dsimp only [thenQ]
    exact retC [Enc.v ((Unit_api.mk (Unit_api.mk (r8.1.toNat : Int) (0 : Int) (0 : Int) ([] : (List UInt8))).Kind r12.1 r15.1 r23.1) : Unit_api), Enc.v ((0 : Int) : Int)] ⟨p_ldVa (l' := Enc.cl ((Unit_api.mk (Unit_api.mk (r8.1.toNat : Int) (0 : Int) (0 : Int) ([] : (List UInt8))).Kind r12.1 r15.1 r23.1) : Unit_api)) ty42 rfl rfl nd (j := 2) rfl rfl rfl rfl (Nat.le_of_ble_eq_true rfl), p_mv rfl, trivial⟩ (by obtain rfl := some_in hX; rfl) (tup_val (allVal.mem ⟨v_val _, v_val _, trivial⟩))

/-- cartridge/volume.Good -/
theorem bc_volume_Good : BodyC cx 52 48 [.c 4 42, .t 5] k52 := ⟨Enters.of Tryd.func52 (by kernel_rfl) (by kernel_rfl), _, _, Tryd.func52, rfl, by kernel_rfl, rfl, rfl⟩
theorem ok_volume_Good (t1 : Tape_api) (n2 : Int) (r : (Unit_api × Bool)) (hX : X.volume_Good t1 n2 = some r) : Fun Tryd.prog 52 [Enc.v (t1 : Tape_api), Enc.v (n2 : Int)] (· = .tup 2 (ofL [Enc.v r.1, Enc.v r.2])) := by
  refine Fun.ofC (C := cx) bc_volume_Good (Nat.le_of_ble_eq_true rfl) (allVal.mem ⟨(by exact (v_val _)), (by exact (v_val _)), trivial⟩) ?_
  unfold k52
  have nd : Nd [] := Nd_nil
  unfold X.volume_Good at hX
  refine SR fun K3 hK3 => ?_
  refine TLc.boxV (lu := [Enc.v t1.Label, Enc.v t1.Cap, Enc.v t1.Blocks, Enc.v t1.Lost]) nd rfl (Cells_v (t1 : Tape_api)) rfl ?_
  refine TLc.alO (l := [Enc.v ((0 : Int) : Int), Enc.v ((0 : Int) : Int), Enc.v ((0 : Int) : Int), .nils]) nd ty42 ti42_z rfl rfl fun b4 nd => ?_
  refine M rfl rfl (TL.nil (hK3 _ _ ?_))
  refine TK.cvR nd (j := 0) rfl (l' := [Enc.v ((0 : Int) : Int), Enc.v ((0 : Int) : Int), Enc.v ((0 : Int) : Int), Enc.v (([] : (List UInt8)) : (List UInt8))]) ⟨Wk.refl _, Wk.refl _, Wk.refl _, Wk_nil, trivial⟩ fun nd => ?_
  refine TK.seq_k fun K5 hK5 => ?_
  refine SR fun K6 hK6 => P1 (p_faR fs38_3 (by decide) rfl) rfl rfl (P1 (p_ldR (v := Enc.v t1.Lost) ty4 rfl rfl rfl rfl rfl rfl) rfl rfl (M rfl rfl ?_))
  refine TLc.p (gc := (!(t1.Lost))) (p_mv rfl (hg := fun e => rfl)) (gcF1 rfl) rfl ?_
  refine TLc.p (gc := (!(t1.Lost))) (p_lss rfl rfl (hg := fun e => ⟨e, rfl⟩)) (gcF1 rfl) rfl ?_
  refine P1 (p_or rfl rfl (fun e => ⟨rfl, fun h => (not_t h)⟩)) rfl rfl (M rfl rfl ?_)
  refine TLc.p (gc := (!((t1.Lost || (decide (n2 < (0 : Int))))))) (p_mv rfl (hg := fun e => rfl)) (gcF1 rfl) rfl ?_
  refine TLc.p (gc := (!((t1.Lost || (decide (n2 < (0 : Int))))))) (p_faR fs38_2 (by decide) rfl (hg := fun e => rfl)) (gcF1 rfl) rfl ?_
  refine TLc.p (gc := (!((t1.Lost || (decide (n2 < (0 : Int))))))) (p_ldR (v := Enc.v t1.Blocks) ty26 rfl rfl rfl rfl rfl rfl (hg := fun e => e)) (gcF1 rfl) rfl ?_
  refine TLc.p (gc := (!((t1.Lost || (decide (n2 < (0 : Int))))))) (p_lenL (xs := t1.Blocks) kd26 rfl (hg := fun e => e)) (gcF1 rfl) rfl ?_
  refine TLc.p (gc := (!((t1.Lost || (decide (n2 < (0 : Int))))))) (p_geq rfl rfl (hg := fun e => ⟨e, e⟩)) (gcF1 rfl) rfl ?_
  refine P1 (p_or rfl rfl (fun e => ⟨rfl, fun h => (not_t h)⟩)) rfl rfl (TL.nil (hK6 _ _ ?_))
  refine TK.cond (b := ((t1.Lost || (decide (n2 < (0 : Int)))) || (decide (n2 ≥ (t1.Blocks.length : Int))))) rfl (fun hc => ?_) (fun hc => ?_)
  · have hX := ite_t hc hX
    refine SR fun K7 hK7 => ?_
    refine TLc.p (gc := true) (p_bld (l := [Enc.v ((0 : Int) : Int), Enc.v ((0 : Int) : Int), Enc.v ((0 : Int) : Int), .nils]) ty42 rfl all42 rfl (fun _ => trivial)) rfl rfl (TL.wk (v' := Enc.v ((Unit_api.mk (0 : Int) (0 : Int) (0 : Int) ([] : (List UInt8))) : Unit_api)) (Wk_agg ⟨Wk.refl _, Wk.refl _, Wk.refl _, Wk_nil, trivial⟩) ?_)
    refine TLc.stV (lu := Enc.cl ((Unit_api.mk (0 : Int) (0 : Int) (0 : Int) ([] : (List UInt8))) : Unit_api)) nd ty42 rfl (j := 0) rfl rfl rfl (Cells_v ((Unit_api.mk (0 : Int) (0 : Int) (0 : Int) ([] : (List UInt8))) : Unit_api)) rfl rfl [Enc.v ((Unit_api.mk (0 : Int) (0 : Int) (0 : Int) ([] : (List UInt8))).Kind : Int), Enc.v ((Unit_api.mk (0 : Int) (0 : Int) (0 : Int) ([] : (List UInt8))).Label : Int), Enc.v ((Unit_api.mk (0 : Int) (0 : Int) (0 : Int) ([] : (List UInt8))).Number : Int), Enc.v ((Unit_api.mk (0 : Int) (0 : Int) (0 : Int) ([] : (List UInt8))).Load : (List UInt8))] rfl fun nd => ?_
    refine M rfl rfl (TL.nil (hK7 _ _ ?_))
    refine TK.ret ?_
    try dsimp only [thenQ]
    exact retC [Enc.v ((Unit_api.mk (0 : Int) (0 : Int) (0 : Int) ([] : (List UInt8))) : Unit_api), Enc.v false] ⟨p_ldVa (l' := Enc.cl ((Unit_api.mk (0 : Int) (0 : Int) (0 : Int) ([] : (List UInt8))) : Unit_api)) ty42 rfl rfl nd (j := 0) rfl rfl rfl rfl (Nat.le_of_ble_eq_true rfl), p_mv rfl, trivial⟩ (by obtain rfl := some_in hX; rfl) (tup_val (allVal.mem ⟨v_val _, v_val _, trivial⟩))
  · have hX := ite_f hc hX
    refine TK.skip ?_
    refine hK5 _ _ (SR fun K8 hK8 => P1 (p_faR fs38_2 (by decide) rfl) rfl rfl (P1 (p_ldR (v := Enc.v t1.Blocks) ty26 rfl rfl rfl rfl rfl rfl) rfl rfl (M rfl rfl ?_)))
    obtain ⟨e9, he9, hX⟩ := bind_some hX
    refine P1 (p_iaL (xs := t1.Blocks) kd26 ty24 rfl rfl rfl (fun _ => he9)) rfl rfl (P1 (p_ldE (xs := t1.Blocks) (a := e9) (e9 : (List UInt8)) ty24 rfl rfl (fun _ => he9) rfl rfl rfl) rfl rfl ?_)
    obtain ⟨r10, hr10, hX⟩ := bind_some hX
    refine TL.cvX rfl rfl rfl (fun _ => ⟨rfl, ⟨rfl, trivial⟩⟩) (fun e => ok_frame_Get e9 _ hr10) ?_
    refine M rfl rfl (P1 (p_ex rfl rfl (by decide)) rfl rfl (P1 (p_ex rfl rfl (by decide)) rfl rfl ?_))
    refine TLc.alO (l := [Enc.v ((0 : Int) : Int), Enc.v ((0 : Int) : Int), Enc.v ((0 : Int) : Int), .nils]) nd ty42 ti42_z rfl rfl fun b11 nd => ?_
    refine TLc.stV (lu := Enc.cl (r10.1 : Unit_api)) nd ty42 rfl (j := 0) rfl rfl rfl (Cells_v (r10.1 : Unit_api)) rfl rfl [Enc.v r10.1.Kind, Enc.v r10.1.Label, Enc.v r10.1.Number, Enc.v r10.1.Load] rfl fun nd => ?_
    refine M rfl rfl (TL.nil (hK8 _ _ ?_))
    refine TK.seq_k fun K12 hK12 => ?_
    refine SR fun K13 hK13 => M rfl rfl (P1 (p_neq rfl rfl) rfl rfl (M rfl rfl ?_))
    refine TLc.p (gc := (!((r10.2 != (0 : Int))))) (p_faV fs42_1 (by decide) rfl nd (j := 0) rfl rfl (hg := fun e => rfl)) (gcF1 rfl) rfl ?_
    refine TLc.p (gc := (!((r10.2 != (0 : Int))))) (p_ldV (v := Enc.v r10.1.Label) ty3 rfl rfl nd (j := 0) rfl rfl rfl rfl rfl (hg := fun e => e)) (gcF1 rfl) rfl ?_
    refine TLc.p (gc := (!((r10.2 != (0 : Int))))) (p_faR fs38_0 (by decide) rfl (hg := fun e => rfl)) (gcF1 rfl) rfl ?_
    refine TLc.p (gc := (!((r10.2 != (0 : Int))))) (p_ldR (v := Enc.v t1.Label) ty3 rfl rfl rfl rfl rfl rfl (hg := fun e => e)) (gcF1 rfl) rfl ?_
    refine TLc.p (gc := (!((r10.2 != (0 : Int))))) (p_neq rfl rfl (hg := fun e => ⟨e, e⟩)) (gcF1 rfl) rfl ?_
    refine P1 (p_or rfl rfl (fun e => ⟨rfl, fun h => (not_t h)⟩)) rfl rfl (M rfl rfl ?_)
    refine TLc.p (gc := (!(((r10.2 != (0 : Int)) || (r10.1.Label != t1.Label))))) (p_faV fs42_2 (by decide) rfl nd (j := 0) rfl rfl (hg := fun e => rfl)) (gcF1 rfl) rfl ?_
    refine TLc.p (gc := (!(((r10.2 != (0 : Int)) || (r10.1.Label != t1.Label))))) (p_ldV (v := Enc.v r10.1.Number) ty3 rfl rfl nd (j := 0) rfl rfl rfl rfl rfl (hg := fun e => e)) (gcF1 rfl) rfl ?_
    refine TLc.p (gc := (!(((r10.2 != (0 : Int)) || (r10.1.Label != t1.Label))))) (p_mv rfl (hg := fun e => rfl)) (gcF1 rfl) rfl ?_
    refine TLc.p (gc := (!(((r10.2 != (0 : Int)) || (r10.1.Label != t1.Label))))) (p_neq rfl rfl (hg := fun e => ⟨e, e⟩)) (gcF1 rfl) rfl ?_
    refine P1 (p_or rfl rfl (fun e => ⟨rfl, fun h => (not_t h)⟩)) rfl rfl (TL.nil (hK13 _ _ ?_))
    refine TK.cond (b := (((r10.2 != (0 : Int)) || (r10.1.Label != t1.Label)) || (r10.1.Number != n2))) rfl (fun hc => ?_) (fun hc => ?_)
    · have hX := ite_t hc hX
      refine SR fun K14 hK14 => ?_
      refine TLc.p (gc := true) (p_bld (l := [Enc.v ((0 : Int) : Int), Enc.v ((0 : Int) : Int), Enc.v ((0 : Int) : Int), .nils]) ty42 rfl all42 rfl (fun _ => trivial)) rfl rfl (TL.wk (v' := Enc.v ((Unit_api.mk (0 : Int) (0 : Int) (0 : Int) ([] : (List UInt8))) : Unit_api)) (Wk_agg ⟨Wk.refl _, Wk.refl _, Wk.refl _, Wk_nil, trivial⟩) ?_)
      refine TLc.stV (lu := Enc.cl ((Unit_api.mk (0 : Int) (0 : Int) (0 : Int) ([] : (List UInt8))) : Unit_api)) nd ty42 rfl (j := 1) rfl rfl rfl (Cells_v ((Unit_api.mk (0 : Int) (0 : Int) (0 : Int) ([] : (List UInt8))) : Unit_api)) rfl rfl [Enc.v ((Unit_api.mk (0 : Int) (0 : Int) (0 : Int) ([] : (List UInt8))).Kind : Int), Enc.v ((Unit_api.mk (0 : Int) (0 : Int) (0 : Int) ([] : (List UInt8))).Label : Int), Enc.v ((Unit_api.mk (0 : Int) (0 : Int) (0 : Int) ([] : (List UInt8))).Number : Int), Enc.v ((Unit_api.mk (0 : Int) (0 : Int) (0 : Int) ([] : (List UInt8))).Load : (List UInt8))] rfl fun nd => ?_
      refine M rfl rfl (TL.nil (hK14 _ _ ?_))
      refine TK.ret ?_
      try dsimp only [thenQ]
      exact retC [Enc.v ((Unit_api.mk (0 : Int) (0 : Int) (0 : Int) ([] : (List UInt8))) : Unit_api), Enc.v false] ⟨p_ldVa (l' := Enc.cl ((Unit_api.mk (0 : Int) (0 : Int) (0 : Int) ([] : (List UInt8))) : Unit_api)) ty42 rfl rfl nd (j := 1) rfl rfl rfl rfl (Nat.le_of_ble_eq_true rfl), p_mv rfl, trivial⟩ (by obtain rfl := some_in hX; rfl) (tup_val (allVal.mem ⟨v_val _, v_val _, trivial⟩))
    · have hX := ite_f hc hX
      refine TK.skip ?_
      refine hK12 _ _ (SR fun K15 hK15 => P1 (p_ldVa (l' := Enc.cl (r10.1 : Unit_api)) ty42 rfl rfl nd (j := 0) rfl rfl rfl rfl (Nat.le_of_ble_eq_true rfl)) rfl rfl ?_)
      refine TLc.stV (lu := Enc.cl (r10.1 : Unit_api)) nd ty42 rfl (j := 1) rfl rfl rfl (Cells_v (r10.1 : Unit_api)) rfl rfl [Enc.v r10.1.Kind, Enc.v r10.1.Label, Enc.v r10.1.Number, Enc.v r10.1.Load] rfl fun nd => ?_
      refine M rfl rfl (TL.nil (hK15 _ _ ?_))
      refine TK.ret ?_
      try dsimp only [thenQ]
      exact retC [Enc.v r10.1, Enc.v true] ⟨p_ldVa (l' := Enc.cl (r10.1 : Unit_api)) ty42 rfl rfl nd (j := 1) rfl rfl rfl rfl (Nat.le_of_ble_eq_true rfl), p_mv rfl, trivial⟩ (by obtain rfl := some_in hX; rfl) (tup_val (allVal.mem ⟨v_val _, v_val _, trivial⟩))

/-- cartridge/write.room -/
theorem ok_write_room (t1 : Tape_api) (seals2 : (List Seal_api)) (r : Int) (hX : X.write_room t1 seals2 = some r) : Fun Tryd.prog 63 [Enc.v (t1 : Tape_api), Enc.v (seals2 : (List Seal_api))] (· = Enc.v (r : Int)) := by
  refine Fun.of b63 (Nat.le_of_ble_eq_true rfl) (allVal.mem ⟨(by exact (v_val _)), (by exact (v_val _)), trivial⟩) ?_
  unfold k63
  have nd : Nd [] := Nd_nil
  unfold X.write_room at hX
  refine SR fun K3 hK3 => ?_
  refine TLc.boxV (lu := [Enc.v t1.Label, Enc.v t1.Cap, Enc.v t1.Blocks, Enc.v t1.Lost]) nd rfl (Cells_v (t1 : Tape_api)) rfl ?_
  refine M rfl rfl (TL.nil (hK3 _ _ ?_))
  refine TK.seq_k fun K4 hK4 => ?_
  refine SR fun K5 hK5 => M rfl rfl (P1 (p_faR fs38_0 (by decide) rfl) rfl rfl (P1 (p_ldR (v := Enc.v t1.Label) ty3 rfl rfl rfl rfl rfl rfl) rfl rfl ?_))
  obtain ⟨r6, hr6, hX⟩ := bind_some hX
  refine TL.cvX rfl rfl rfl (fun _ => ⟨rfl, ⟨rfl, ⟨rfl, trivial⟩⟩⟩) (fun e => ok_group_Of seals2 t1.Label _ hr6) ?_
  refine M rfl rfl (P1 (p_ex rfl rfl (by decide)) rfl rfl (P1 (p_ex rfl rfl (by decide)) rfl rfl ?_))
  refine TLc.alO (l := [Enc.v ((0 : Int) : Int), Enc.v ((0 : Int) : Int), Enc.v ((0 : Int) : Int), Enc.v ((0 : Int) : Int), .nils]) nd ty55 ti55_z rfl rfl fun b7 nd => ?_
  refine TLc.stV (lu := Enc.cl (r6.1 : Seal_api)) nd ty55 rfl (j := 0) rfl rfl rfl (Cells_v (r6.1 : Seal_api)) rfl rfl [Enc.v r6.1.Number, Enc.v r6.1.Index, Enc.v r6.1.Data, Enc.v r6.1.Parity, Enc.v r6.1.Labels] rfl fun nd => ?_
  refine M rfl rfl (TL.nil (hK5 _ _ (SR fun K8 hK8 => M rfl rfl (M rfl rfl ?_))))
  refine TLc.p (gc := (!(r6.2))) (p_faR fs38_3 (by decide) rfl (hg := fun e => rfl)) (gcF1 rfl) rfl ?_
  refine TLc.p (gc := (!(r6.2))) (p_ldR (v := Enc.v t1.Lost) ty4 rfl rfl rfl rfl rfl rfl (hg := fun e => e)) (gcF1 rfl) rfl ?_
  refine P1 (p_or rfl rfl (fun e => ⟨rfl, fun h => (not_t h)⟩)) rfl rfl (TL.nil (hK8 _ _ ?_))
  refine TK.cond (b := (r6.2 || t1.Lost)) rfl (fun hc => ?_) (fun hc => ?_)
  · have hX := ite_t hc hX
    refine SR fun K9 hK9 => M rfl rfl (TL.nil (hK9 _ _ ?_))
    refine TK.ret ?_
    try dsimp only [thenQ]
    exact R1 rfl hX
  · have hX := ite_f hc hX
    refine TK.skip ?_
    refine hK4 _ _ (SR fun K10 hK10 => P1 (p_faR fs38_2 (by decide) rfl) rfl rfl (P1 (p_ldR (v := Enc.v t1.Blocks) ty26 rfl rfl rfl rfl rfl rfl) rfl rfl (P1 (p_lenL (xs := t1.Blocks) kd26 rfl) rfl rfl (M rfl rfl (TL.nil (hK10 _ _ ?_))))))
    refine TK.seq_k fun K11 hK11 => ?_
    refine SR fun K12 hK12 => M rfl rfl (P1 (p_eql rfl rfl) rfl rfl (TL.nil (hK12 _ _ ?_)))
    refine TK.cond (b := ((t1.Blocks.length : Int) == (0 : Int))) rfl (fun hc => ?_) (fun hc => ?_)
    · have hX := ite_t hc hX
      refine SR fun K13 hK13 => P1 (p_faR fs38_1 (by decide) rfl) rfl rfl (P1 (p_ldR (v := Enc.v t1.Cap) ty3 rfl rfl rfl rfl rfl rfl) rfl rfl (P1 (p_max rfl rfl) rfl rfl (P1 (p_sub rfl rfl) rfl rfl (M rfl rfl (TL.nil (hK13 _ _ ?_))))))
      refine TK.ret ?_
      try dsimp only [thenQ]
      exact R1 rfl hX
    · have hX := ite_f hc hX
      refine TK.skip ?_
      refine hK11 _ _ ?_
      refine TK.seq_k fun K14 hK14 => ?_
      refine SR fun K15 hK15 => P1 (p_ldRa (l' := Enc.cl (t1 : Tape_api)) ty38 rfl rfl rfl rfl rfl (Nat.le_of_ble_eq_true rfl)) rfl rfl (M rfl rfl (P1 (p_sub rfl rfl) rfl rfl ?_))
      obtain ⟨r16, hr16, hX⟩ := bind_some hX
      refine TL.cvX rfl rfl rfl (fun _ => ⟨rfl, ⟨rfl, ⟨rfl, trivial⟩⟩⟩) (fun e => ok_volume_Good t1 (wr ((t1.Blocks.length : Int) - (1 : Int))) _ hr16) ?_
      refine M rfl rfl (P1 (p_ex rfl rfl (by decide)) rfl rfl (P1 (p_ex rfl rfl (by decide)) rfl rfl ?_))
      refine TLc.alO (l := [Enc.v ((0 : Int) : Int), Enc.v ((0 : Int) : Int), Enc.v ((0 : Int) : Int), .nils]) nd ty42 ti42_z rfl rfl fun b17 nd => ?_
      refine TLc.stV (lu := Enc.cl (r16.1 : Unit_api)) nd ty42 rfl (j := 0) rfl rfl rfl (Cells_v (r16.1 : Unit_api)) rfl rfl [Enc.v r16.1.Kind, Enc.v r16.1.Label, Enc.v r16.1.Number, Enc.v r16.1.Load] rfl fun nd => ?_
      refine M rfl rfl (TL.nil (hK15 _ _ (SR fun K18 hK18 => M rfl rfl (P1 (p_not rfl) rfl rfl (TL.nil (hK18 _ _ ?_))))))
      refine TK.cond (b := (!r16.2)) rfl (fun hc => ?_) (fun hc => ?_)
      · have hX := ite_t hc hX
        refine SR fun K19 hK19 => M rfl rfl (TL.nil (hK19 _ _ ?_))
        refine TK.ret ?_
        try dsimp only [thenQ]
        exact R1 rfl hX
      · have hX := ite_f hc hX
        refine TK.skip ?_
        refine hK14 _ _ (SR fun K20 hK20 => M rfl rfl (P1 (p_faR fs38_1 (by decide) rfl) rfl rfl (P1 (p_ldR (v := Enc.v t1.Cap) ty3 rfl rfl rfl rfl rfl rfl) rfl rfl (P1 (p_max rfl rfl) rfl rfl (M rfl rfl (P1 (p_sub rfl rfl) rfl rfl (M rfl rfl (TL.nil (hK20 _ _ ?_)))))))))
        refine TK.ret ?_
        try dsimp only [thenQ]
        exact R1 rfl hX

/-- cartridge/write.Rooms -/
theorem ok_write_Rooms (l1 : (List Tape_api)) (seals2 : (List Seal_api)) (r : (List Int)) (hX : X.write_Rooms l1 seals2 = some r) : Fun Tryd.prog 25 [Enc.v (l1 : (List Tape_api)), Enc.v (seals2 : (List Seal_api))] (· = Enc.v (r : (List Int))) := by
  refine Fun.of b25 (Nat.le_of_ble_eq_true rfl) (allVal.mem ⟨(by exact (v_val _)), (by exact (v_val _)), trivial⟩) ?_
  unfold k25
  have nd : Nd [] := Nd_nil
  unfold X.write_Rooms at hX
  refine SR fun K3 hK3 => M rfl rfl (TL.nil (hK3 _ _ (SR fun K4 hK4 => M rfl rfl (TL.nil (hK4 _ _ ?_)))))
  refine TK.ownL (α := Int) 5 3 nd rfl (.inl rfl) fun b5 nd => ?_
  refine TK.seq_k fun K6 hK6 => ?_
  refine SR fun K7 hK7 => M rfl rfl (P1 (p_lenL (xs := l1) kd57 rfl) rfl rfl (M rfl rfl (TL.nil (hK7 _ _ ?_))))
  refine TK.block ?_
  obtain ⟨o8, hO8, hA8⟩ := bind_some hX
  have E8 : ∀ (l13 : List Int) (env : Env) (h : Hp), (∃ b12, keepE [5] env = [(5, true, OL b12 l13)] ∧ Nd [(b12, RL (α := Int) 3 l13)] ∧ HSub [(b12, RL (α := Int) 3 l13)] h) → X.write_Rooms_e8 l13 = some r → K6 env h := by
    intro l13 env h hE hX
    obtain ⟨b12, henv, nd, hs⟩ := hE
    unfold X.write_Rooms_e8 at hX
    refine hK6 _ _ (TK.keep [5] ?_)
    rw [henv]
    refine TK.subH hs ?_
    refine SR fun K14 hK14 => M rfl rfl (M rfl rfl (TL.nil (hK14 _ _ ?_)))
    refine TK.lay [(4, L l13)] nd (j := 0) rfl ⟨⟨_, rfl, fix_OL nd (j := 0) rfl, rfl⟩, trivial⟩ fun nd => ?_
    refine TK.ret ?_
    try dsimp only [thenQ]
    exact R1 rfl hX
  refine TK.iter [1, 5, 8, 9, 10] (fun s env h => match s with | (out10, x11) => ∃ b9, env = [(1, true, Enc.v seals2), (5, true, OL b9 out10), (8, true, Enc.v l1), (9, true, Enc.v ((l1.length : Int) : Int)), (10, true, Enc.v x11)] ∧ Nd [(b9, RL (α := Int) 3 out10)] ∧ HSub [(b9, RL (α := Int) 3 out10)] h) hO8 ⟨b5, rfl, (Nd.pick nd (is := [0]) (by decide)), (HSub.pick nd (is := [0]) (by decide))⟩ ?_
  rintro ⟨out10, x11⟩ env h x8x ⟨b9, rfl, nd, hs⟩ hX hR8
  refine TK.subH hs ?_
  unfold X.write_Rooms_s8 at hX
  try dsimp only at hX
  refine SR fun K15 hK15 => P1 (p_lss rfl rfl) rfl rfl (TL.nil (hK15 _ _ ?_))
  refine TK.seq_k fun K16 hK16 => ?_
  refine TK.cond (b := (decide (x11 < (l1.length : Int)))) rfl (fun hc => ?_) (fun hc => ?_)
  · have hX := ite_t hc hX
    refine TK.skip ?_
    refine hK16 _ _ ?_
    refine TK.seq_k fun K17 hK17 => ?_
    refine TK.block ?_
    refine SR fun K18 hK18 => ?_
    obtain ⟨e19, he19, hX⟩ := bind_some hX
    refine P1 (p_iaL (xs := l1) kd57 ty38 rfl rfl rfl (fun _ => he19)) rfl rfl (P1 (p_ldE (xs := l1) (a := e19) (e19 : Tape_api) ty38 rfl rfl (fun _ => he19) rfl rfl rfl) rfl rfl ?_)
    refine TLc.alO (l := [Enc.v ((0 : Int) : Int), Enc.v ((0 : Int) : Int), .nils, Enc.v false]) nd ty38 ti38_z rfl rfl fun b20 nd => ?_
    refine TLc.stV (lu := Enc.cl (e19 : Tape_api)) nd ty38 rfl (j := 0) rfl rfl rfl (Cells_v (e19 : Tape_api)) rfl rfl [Enc.v e19.Label, Enc.v e19.Cap, Enc.v e19.Blocks, Enc.v e19.Lost] rfl fun nd => ?_
    refine TL.nil (hK18 _ _ ?_)
    refine TK.reg ?_
    refine M rfl rfl (P1 (p_ldVa (l' := Enc.cl (e19 : Tape_api)) ty38 rfl rfl nd (j := 0) rfl rfl rfl rfl (Nat.le_of_ble_eq_true rfl)) rfl rfl (M rfl rfl ?_))
    obtain ⟨r21, hr21, hX⟩ := bind_some hX
    refine TL.cvX rfl rfl rfl (fun _ => ⟨rfl, ⟨rfl, ⟨rfl, trivial⟩⟩⟩) (fun e => ok_write_room e19 seals2 _ hr21) ?_
    refine TLc.lit ([r21] : List Int) kd36 ty3 rfl ⟨⟨rfl, rfl⟩, trivial⟩ rfl rfl rfl ?_
    obtain ⟨u22, hu22, hX⟩ := bind_some hX
    refine TLc.appO nd kd36 bo36 ty3 rfl rfl (j := 1) rfl rfl (Src_L _) (by decide) (need_t hu22) rfl fun nd => ?_
    refine M rfl rfl (TL.nil (hK17 _ _ ?_))
    refine TK.reg ?_
    refine P1 (p_add rfl rfl) rfl rfl (M rfl rfl (TL.nil ?_))
    exact ⟨_, (some_in hX).symm, b9, rfl, (Nd.pick nd (is := [1]) (by decide)), (HSub.pick nd (is := [1]) (by decide))⟩
  · have hX := ite_f hc hX
    refine TK.exit ?_
    obtain rfl := hR8 _ (some_in hX).symm
    exact E8 out10 _ _ ⟨b9, rfl, (Nd.pick nd (is := [0]) (by decide)), (HSub.pick nd (is := [0]) (by decide))⟩ hA8

/-- cartridge/span.Fits -/
theorem ok_span_Fits (room1 : Int) (r : Int) (hX : X.span_Fits room1 = some r) : Fun Tryd.prog 118 [Enc.v (room1 : Int)] (· = Enc.v (r : Int)) := by
  refine Fun.of b118 (Nat.le_of_ble_eq_true rfl) (allVal.mem ⟨(by exact (v_val _)), trivial⟩) ?_
  unfold k118
  have nd : Nd [] := Nd_nil
  unfold X.span_Fits at hX
  refine SR fun K2 hK2 => M rfl rfl (TL.nil (hK2 _ _ (SR fun K3 hK3 => M rfl rfl (P1 (p_min rfl rfl) rfl rfl (P1 (p_max rfl rfl) rfl rfl (P1 (p_sub rfl rfl) rfl rfl (P1 (p_mul rfl rfl) rfl rfl (M rfl rfl (TL.nil (hK3 _ _ ?_))))))))))
  refine TK.ret ?_
  try dsimp only [thenQ]
  exact R1 rfl hX

/-- cartridge/span.Plan -/
theorem ok_span_Plan (rooms1 : (List Int)) (size2 : Int) (r : ((List Piece_api) × Int)) (hX : X.span_Plan rooms1 size2 = some r) : Fun Tryd.prog 91 [Enc.v (rooms1 : (List Int)), Enc.v (size2 : Int)] (· = .tup 2 (ofL [Enc.v r.1, Enc.v r.2])) := by
  refine Fun.of b91 (Nat.le_of_ble_eq_true rfl) (allVal.mem ⟨(by exact (v_val _)), (by exact (v_val _)), trivial⟩) ?_
  unfold k91
  have nd : Nd [] := Nd_nil
  unfold X.span_Plan at hX
  refine SR fun K3 hK3 => M rfl rfl (M rfl rfl (TL.nil (hK3 _ _ ?_)))
  refine TK.seq_k fun K4 hK4 => ?_
  refine SR fun K5 hK5 => M rfl rfl (P1 (p_lss rfl rfl) rfl rfl (M rfl rfl ?_))
  refine TLc.p (gc := (!((decide (size2 < (0 : Int)))))) (p_mv rfl (hg := fun e => rfl)) (gcF1 rfl) rfl ?_
  refine TLc.p (gc := (!((decide (size2 < (0 : Int)))))) (p_gtr rfl rfl (hg := fun e => ⟨e, rfl⟩)) (gcF1 rfl) rfl ?_
  refine P1 (p_or rfl rfl (fun e => ⟨rfl, fun h => (not_t h)⟩)) rfl rfl (TL.nil (hK5 _ _ ?_))
  refine TK.cond (b := ((decide (size2 < (0 : Int))) || (decide (size2 > (4000 : Int))))) rfl (fun hc => ?_) (fun hc => ?_)
  · have hX := ite_t hc hX
    refine SR fun K6 hK6 => M rfl rfl (M rfl rfl (TL.nil (hK6 _ _ ?_)))
    refine TK.wk 4 (L ([] : (List Piece_api))) rfl Wk_nil ?_
    refine TK.ret ?_
    try dsimp only [thenQ]
    exact retN (vs := [Enc.v (([] : (List Piece_api)) : (List Piece_api)), Enc.v ((1 : Int) : Int)]) ⟨rfl, rfl, trivial⟩ (by obtain rfl := some_in hX; rfl) (allVal.mem ⟨v_val _, v_val _, trivial⟩)
  · have hX := ite_f hc hX
    refine TK.skip ?_
    refine hK4 _ _ (SR fun K7 hK7 => M rfl rfl (TL.nil (hK7 _ _ ?_)))
    refine TK.ownL (α := Piece_api) 6 164 nd rfl (.inl rfl) fun b8 nd => ?_
    refine SR fun K9 hK9 => M rfl rfl (TL.nil (hK9 _ _ ?_))
    refine TK.seq_k fun K10 hK10 => ?_
    refine SR fun K11 hK11 => M rfl rfl (P1 (p_lenL (xs := rooms1) kd36 rfl) rfl rfl (M rfl rfl (TL.nil (hK11 _ _ ?_))))
    refine TK.block ?_
    obtain ⟨o12, hO12, hA12⟩ := bind_some hX
    have E12 : ∀ (env : Env) (h : Hp), (∃ _u : Unit, keepE [] env = [] ∧ Nd [] ∧ HSub [] h) → X.span_Plan_e12 = some r → K10 env h := by
      intro  env h hE hX
      obtain ⟨_u, henv, nd, hs⟩ := hE
      unfold X.span_Plan_e12 at hX
      refine hK10 _ _ (TK.keep [] ?_)
      rw [henv]
      refine TK.subH hs ?_
      refine SR fun K17 hK17 => M rfl rfl (M rfl rfl (TL.nil (hK17 _ _ ?_)))
      refine TK.wk 4 (L ([] : (List Piece_api))) rfl Wk_nil ?_
      refine TK.ret ?_
      try dsimp only [thenQ]
      exact retN (vs := [Enc.v (([] : (List Piece_api)) : (List Piece_api)), Enc.v ((7 : Int) : Int)]) ⟨rfl, rfl, trivial⟩ (by obtain rfl := some_in hX; rfl) (allVal.mem ⟨v_val _, v_val _, trivial⟩)
    refine TK.iter [1, 6, 7, 17, 18, 19] (fun s env h => match s with | (out14, at15, x16) => ∃ b13, env = [(1, true, Enc.v size2), (6, true, OL b13 out14), (7, true, Enc.v at15), (17, true, Enc.v rooms1), (18, true, Enc.v ((rooms1.length : Int) : Int)), (19, true, Enc.v x16)] ∧ Nd [(b13, RL (α := Piece_api) 164 out14)] ∧ HSub [(b13, RL (α := Piece_api) 164 out14)] h) hO12 ⟨b8, rfl, (Nd.pick nd (is := [0]) (by decide)), (HSub.pick nd (is := [0]) (by decide))⟩ ?_
    rintro ⟨out14, at15, x16⟩ env h x12x ⟨b13, rfl, nd, hs⟩ hX hR12
    refine TK.subH hs ?_
    unfold X.span_Plan_s12 at hX
    try dsimp only at hX
    refine SR fun K18 hK18 => P1 (p_lss rfl rfl) rfl rfl (TL.nil (hK18 _ _ ?_))
    refine TK.seq_k fun K19 hK19 => ?_
    refine TK.cond (b := (decide (x16 < (rooms1.length : Int)))) rfl (fun hc => ?_) (fun hc => ?_)
    · have hX := ite_t hc hX
      refine TK.skip ?_
      refine hK19 _ _ ?_
      refine TK.seq_k fun K20 hK20 => ?_
      refine TK.block ?_
      refine SR fun K21 hK21 => M rfl rfl ?_
      obtain ⟨e22, he22, hX⟩ := bind_some hX
      refine P1 (p_iaL (xs := rooms1) kd36 ty3 rfl rfl rfl (fun _ => he22)) rfl rfl (P1 (p_ldE (xs := rooms1) (a := e22) (e22 : Int) ty3 rfl rfl (fun _ => he22) rfl rfl rfl) rfl rfl (M rfl rfl (M rfl rfl (TL.nil (hK21 _ _ (SR fun K23 hK23 => M rfl rfl ?_))))))
      obtain ⟨r24, hr24, hX⟩ := bind_some hX
      refine TL.cvX rfl rfl rfl (fun _ => ⟨rfl, ⟨rfl, trivial⟩⟩) (fun e => ok_span_Fits e22 _ hr24) ?_
      refine M rfl rfl (M rfl rfl (P1 (p_sub rfl rfl) rfl rfl (P1 (p_min rfl rfl) rfl rfl (M rfl rfl (TL.nil (hK23 _ _ ?_))))))
      refine TK.seq_k fun K25 hK25 => ?_
      refine SR fun K26 hK26 => M rfl rfl (P1 (p_eql rfl rfl) rfl rfl (M rfl rfl ?_))
      refine TLc.p (gc := (((min r24 (wr (size2 - at15))) == (0 : Int)))) (p_mv rfl (hg := fun e => rfl)) (gcT1 rfl) rfl ?_
      refine TLc.p (gc := (((min r24 (wr (size2 - at15))) == (0 : Int)))) (p_gtr rfl rfl (hg := fun e => ⟨e, rfl⟩)) (gcT1 rfl) rfl ?_
      refine TLc.p (gc := (((min r24 (wr (size2 - at15))) == (0 : Int)))) (p_mv rfl (hg := fun e => e)) (gcT1 rfl) rfl ?_
      refine TLc.p (gc := ((((min r24 (wr (size2 - at15))) == (0 : Int))) && (!((decide (size2 > (0 : Int))))))) (p_mv rfl (hg := fun e => rfl)) (gcF rfl) rfl ?_
      refine TLc.p (gc := ((((min r24 (wr (size2 - at15))) == (0 : Int))) && (!((decide (size2 > (0 : Int))))))) (p_lss rfl rfl (hg := fun e => ⟨e, rfl⟩)) (gcF rfl) rfl ?_
      refine TLc.p (gc := (((min r24 (wr (size2 - at15))) == (0 : Int)))) (p_or rfl rfl (fun e => ⟨e, fun h => (and_i e (not_t h))⟩)) (gcT1 rfl) rfl ?_
      refine P1 (p_and rfl rfl (fun e => ⟨rfl, fun h => h⟩)) rfl rfl (TL.nil (hK26 _ _ ?_))
      refine TK.cond (b := (((min r24 (wr (size2 - at15))) == (0 : Int)) && ((decide (size2 > (0 : Int))) || (decide (e22 < (2 : Int)))))) rfl (fun hc => ?_) (fun hc => ?_)
      · have hX := ite_t hc hX
        refine TK.exit ?_
        refine hK20 _ _ ?_
        refine TK.reg ?_
        refine P1 (p_add rfl rfl) rfl rfl (M rfl rfl (TL.nil ?_))
        exact ⟨_, (some_in hX).symm, b13, rfl, (Nd.pick nd (is := [0]) (by decide)), (HSub.pick nd (is := [0]) (by decide))⟩
      · have hX := ite_f hc hX
        refine TK.skip ?_
        refine hK25 _ _ (SR fun K27 hK27 => M rfl rfl (M rfl rfl (M rfl rfl (M rfl rfl (P1 (p_bld (l := Enc.cl ((Piece_api.mk x16 at15 (min r24 (wr (size2 - at15)))) : Piece_api)) ty164 rfl all164 rfl (fun _ => ⟨⟨rfl, trivial, rfl⟩, ⟨rfl, trivial, rfl⟩, ⟨rfl, trivial, rfl⟩, trivial⟩)) rfl rfl ?_)))))
        refine TLc.lit ([(Piece_api.mk x16 at15 (min r24 (wr (size2 - at15))))] : List Piece_api) kd160 ty164 rfl ⟨⟨rfl, rfl⟩, trivial⟩ rfl rfl rfl ?_
        obtain ⟨u28, hu28, hX⟩ := bind_some hX
        refine TLc.appO nd kd160 bo160 ty164 rfl rfl (j := 0) rfl rfl (Src_L _) (by decide) (need_t hu28) rfl fun nd => ?_
        refine M rfl rfl (TL.nil (hK27 _ _ (SR fun K29 hK29 => M rfl rfl (M rfl rfl (P1 (p_add rfl rfl) rfl rfl (M rfl rfl (TL.nil (hK29 _ _ (SR fun K30 hK30 => M rfl rfl (M rfl rfl (P1 (p_eql rfl rfl) rfl rfl (TL.nil (hK30 _ _ ?_)))))))))))))
        refine TK.cond (b := ((wr (at15 + (min r24 (wr (size2 - at15))))) == size2)) rfl (fun hc => ?_) (fun hc => ?_)
        · have hX := ite_t hc hX
          refine SR fun K31 hK31 => M rfl rfl (M rfl rfl (M rfl rfl (TL.nil (hK31 _ _ ?_))))
          refine TK.lay [(4, L (out14 ++ ([(Piece_api.mk x16 at15 (min r24 (wr (size2 - at15))))] : List Piece_api)))] nd (j := 0) rfl ⟨⟨_, rfl, fix_OL nd (j := 0) rfl, rfl⟩, trivial⟩ fun nd => ?_
          refine TK.ret ?_
          obtain rfl := hR12 _ (some_in hX).symm
          replace hX := hA12
          try dsimp only [thenQ]
          exact retN (vs := [Enc.v ((out14 ++ ([(Piece_api.mk x16 at15 (min r24 (wr (size2 - at15))))] : List Piece_api)) : (List Piece_api)), Enc.v ((0 : Int) : Int)]) ⟨rfl, rfl, trivial⟩ (by obtain rfl := some_in hX; rfl) (allVal.mem ⟨v_val _, v_val _, trivial⟩)
        · have hX := ite_f hc hX
          refine TK.skip ?_
          refine hK20 _ _ ?_
          refine TK.reg ?_
          refine P1 (p_add rfl rfl) rfl rfl (M rfl rfl (TL.nil ?_))
          exact ⟨_, (some_in hX).symm, b13, rfl, (Nd.pick nd (is := [0]) (by decide)), (HSub.pick nd (is := [0]) (by decide))⟩
    · have hX := ite_f hc hX
      refine TK.exit ?_
      obtain rfl := hR12 _ (some_in hX).symm
      exact E12 _ _ ⟨(), rfl, (Nd.pick nd (is := []) (by decide)), (HSub.pick nd (is := []) (by decide))⟩ hA12

/-- strings.Count -/
theorem ok_strings_Count_k47 (s1 : Str) (r : Int) (hX : X.strings_Count_k47 s1 = some r) : Fun Tryd.prog 153 [Enc.v (s1 : Str), Enc.v ((Str.mk [47]) : Str)] (· = Enc.v (r : Int)) := by
  refine Fun.of b153 (Nat.le_of_ble_eq_true rfl) (allVal.mem ⟨(by exact (v_val _)), (by exact (v_val _)), trivial⟩) ?_
  unfold k153
  have nd : Nd [] := Nd_nil
  unfold X.strings_Count_k47 at hX
  refine SR fun K2 hK2 => M rfl rfl (TL.nil (hK2 _ _ ?_))
  refine TK.seq_k fun K3 hK3 => ?_
  refine SR fun K4 hK4 => M rfl rfl (P1 (p_lenS (s := (Str.mk [47])) kd9 rfl) rfl rfl (P1 (p_eql rfl rfl) rfl rfl (TL.nil (hK4 _ _ ?_))))
  refine TK.cond (b := false) rfl (fun hc => by simp at hc) (fun _ => ?_)
  refine TK.skip ?_
  refine hK3 _ _ ?_
  refine TK.seq_k fun K5 hK5 => ?_
  refine SR fun K6 hK6 => M rfl rfl (P1 (p_lenS (s := (Str.mk [47])) kd9 rfl) rfl rfl (P1 (p_eql rfl rfl) rfl rfl (TL.nil (hK6 _ _ ?_))))
  refine TK.cond (b := true) rfl (fun _ => ?_) (fun hc => by simp at hc)
  refine SR fun K7 hK7 => M rfl rfl (M rfl rfl ?_)
  obtain ⟨x8, hx8, hX⟩ := bind_some hX
  refine P1 (p_ix kd9 rfl rfl (fun _ => hx8)) rfl rfl ?_
  refine TL.ofV (gc := true) (vok_countS (C := cx) ex167 rfl (fun _ => ⟨rfl, ⟨rfl, ⟨rfl, trivial⟩⟩⟩)) rfl rfl ?_
  refine M rfl rfl (TL.nil (hK7 _ _ ?_))
  refine TK.ret ?_
  try dsimp only [thenQ]
  exact R1 rfl hX

/-- internal/stringslite.IndexByte -/
theorem ok_stringslite_IndexByte (s1 : Str) (c2 : UInt8) (r : Int) (hX : X.stringslite_IndexByte s1 c2 = some r) : Fun Tryd.prog 173 [Enc.v (s1 : Str), Enc.v (c2 : UInt8)] (· = Enc.v (r : Int)) := by
  refine Fun.of b173 (Nat.le_of_ble_eq_true rfl) (allVal.mem ⟨(by exact (v_val _)), (by exact (v_val _)), trivial⟩) ?_
  unfold k173
  have nd : Nd [] := Nd_nil
  unfold X.stringslite_IndexByte at hX
  refine SR fun K3 hK3 => M rfl rfl (TL.nil (hK3 _ _ (SR fun K4 hK4 => M rfl rfl (M rfl rfl ?_))))
  refine TL.ofV (gc := true) (vok_indexS (C := cx) ex177 rfl (fun _ => ⟨rfl, ⟨rfl, ⟨rfl, trivial⟩⟩⟩)) rfl rfl ?_
  refine M rfl rfl (TL.nil (hK4 _ _ ?_))
  refine TK.ret ?_
  try dsimp only [thenQ]
  exact R1 rfl hX

/-- internal/stringslite.Index -/
theorem ok_stringslite_Index_k47 (s1 : Str) (r : Int) (hX : X.stringslite_Index_k47 s1 = some r) : Fun Tryd.prog 168 [Enc.v (s1 : Str), Enc.v ((Str.mk [47]) : Str)] (· = Enc.v (r : Int)) := by
  refine Fun.of b168 (Nat.le_of_ble_eq_true rfl) (allVal.mem ⟨(by exact (v_val _)), (by exact (v_val _)), trivial⟩) ?_
  unfold k168
  have nd : Nd [] := Nd_nil
  unfold X.stringslite_Index_k47 at hX
  refine SR fun K2 hK2 => M rfl rfl (TL.nil (hK2 _ _ (SR fun K3 hK3 => M rfl rfl (P1 (p_lenS (s := (Str.mk [47])) kd9 rfl) rfl rfl (M rfl rfl (TL.nil (hK3 _ _ ?_)))))))
  refine TK.seq_k fun K4 hK4 => ?_
  refine TK.block ?_
  refine SR fun K5 hK5 => M rfl rfl (P1 (p_eql rfl rfl) rfl rfl (M rfl rfl ?_))
  refine TL.guardT rfl ?_
  refine M rfl rfl ?_
  refine TL.guardT rfl ?_
  refine M rfl rfl ?_
  refine TL.guardT rfl ?_
  refine P1 (ps_eql (s := (Str.mk [47])) (r := s1) rfl rfl) rfl rfl (P1 (p_or rfl rfl (fun e => ⟨rfl, fun h => rfl⟩)) rfl rfl (M rfl rfl (TL.nil (hK5 _ _ ?_))))
  refine TK.cond (b := ((Str.mk [47]).l == s1.l)) rfl (fun hc => ?_) (fun hc => ?_)
  · have hX := ite_t hc hX
    refine SR fun K6 hK6 => M rfl rfl (TL.nil (hK6 _ _ ?_))
    refine TK.ret ?_
    try dsimp only [thenQ]
    exact R1 rfl hX
  · have hX := ite_f hc hX
    refine SR fun K7 hK7 => M rfl rfl (P1 (p_eql rfl rfl) rfl rfl (M rfl rfl (TL.nil (hK7 _ _ ?_))))
    refine TK.cond (b := true) rfl (fun _ => ?_) (fun hc => by simp at hc)
    refine SR fun K8 hK8 => M rfl rfl (M rfl rfl ?_)
    obtain ⟨x9, hx9, hX⟩ := bind_some hX
    refine P1 (p_ix kd9 rfl rfl (fun _ => hx9)) rfl rfl ?_
    obtain ⟨r10, hr10, hX⟩ := bind_some hX
    refine TL.cvX rfl rfl rfl (fun _ => ⟨rfl, ⟨rfl, ⟨rfl, trivial⟩⟩⟩) (fun e => ok_stringslite_IndexByte s1 x9 _ hr10) ?_
    refine M rfl rfl (TL.nil (hK8 _ _ ?_))
    refine TK.ret ?_
    try dsimp only [thenQ]
    exact R1 rfl hX

/-- strings.Index -/
theorem ok_strings_Index_k47 (s1 : Str) (r : Int) (hX : X.strings_Index_k47 s1 = some r) : Fun Tryd.prog 154 [Enc.v (s1 : Str), Enc.v ((Str.mk [47]) : Str)] (· = Enc.v (r : Int)) := by
  refine Fun.of b154 (Nat.le_of_ble_eq_true rfl) (allVal.mem ⟨(by exact (v_val _)), (by exact (v_val _)), trivial⟩) ?_
  unfold k154
  have nd : Nd [] := Nd_nil
  unfold X.strings_Index_k47 at hX
  refine SR fun K2 hK2 => M rfl rfl (TL.nil (hK2 _ _ (SR fun K3 hK3 => M rfl rfl (M rfl rfl ?_))))
  obtain ⟨r4, hr4, hX⟩ := bind_some hX
  refine TL.cvX rfl rfl rfl (fun _ => ⟨rfl, ⟨rfl, ⟨rfl, trivial⟩⟩⟩) (fun e => ok_stringslite_Index_k47 s1 _ hr4) ?_
  refine M rfl rfl (TL.nil (hK3 _ _ ?_))
  refine TK.ret ?_
  try dsimp only [thenQ]
  exact R1 rfl hX

/-- strings.genSplit -/
theorem ok_strings_genSplit_k47_0_1 (s1 : Str) (r : (List Str)) (hX : X.strings_genSplit_k47_0_1 s1 = some r) : Fun Tryd.prog 127 [Enc.v (s1 : Str), Enc.v ((Str.mk [47]) : Str), Enc.v ((0 : Int) : Int), Enc.v (((-1) : Int) : Int)] (· = Enc.v (r : (List Str))) := by
  refine Fun.of b127 (Nat.le_of_ble_eq_true rfl) (allVal.mem ⟨(by exact (v_val _)), (by exact (v_val _)), (by exact (v_val _)), (by exact (v_val _)), trivial⟩) ?_
  unfold k127
  have nd : Nd [] := Nd_nil
  unfold X.strings_genSplit_k47_0_1 at hX
  refine SR fun K2 hK2 => M rfl rfl (TL.nil (hK2 _ _ ?_))
  refine TK.seq_k fun K3 hK3 => ?_
  refine SR fun K4 hK4 => M rfl rfl (P1 (p_eql rfl rfl) rfl rfl (TL.nil (hK4 _ _ ?_)))
  refine TK.cond (b := false) rfl (fun hc => by simp at hc) (fun _ => ?_)
  refine TK.skip ?_
  refine hK3 _ _ ?_
  refine TK.seq_k fun K5 hK5 => ?_
  refine SR fun K6 hK6 => M rfl rfl (P1 (ps_eql (s := (Str.mk [47])) (r := (Str.mk [])) rfl rfl) rfl rfl (TL.nil (hK6 _ _ ?_)))
  refine TK.cond (b := false) rfl (fun hc => by simp at hc) (fun _ => ?_)
  refine TK.skip ?_
  refine hK5 _ _ ?_
  refine TK.seq_k fun K7 hK7 => ?_
  refine SR fun K8 hK8 => M rfl rfl (P1 (p_lss rfl rfl) rfl rfl (TL.nil (hK8 _ _ ?_)))
  refine TK.cond (b := true) rfl (fun _ => ?_) (fun hc => by simp at hc)
  refine TK.reg ?_
  refine M rfl rfl (M rfl rfl ?_)
  obtain ⟨r9, hr9, hX⟩ := bind_some hX
  refine TL.cvX rfl rfl rfl (fun _ => ⟨rfl, ⟨rfl, ⟨rfl, trivial⟩⟩⟩) (fun e => ok_strings_Count_k47 s1 _ hr9) ?_
  refine P1 (p_add rfl rfl) rfl rfl (M rfl rfl (TL.nil (hK7 _ _ (SR fun K10 hK10 => M rfl rfl (M rfl rfl (P1 (p_lenS (s := s1) kd9 rfl) rfl rfl (P1 (p_add rfl rfl) rfl rfl (P1 (p_min rfl rfl) rfl rfl (M rfl rfl (TL.nil (hK10 _ _ (SR fun K11 hK11 => M rfl rfl ?_))))))))))))
  obtain ⟨u12, hu12, hX⟩ := bind_some hX
  refine TLc.mkO nd (Str.mk []) kd80 ty9 rfl (fun j hj => by (have : j = 0 := by simpa [Enc.sz] using hj); subst this; rfl) rfl rfl (by decide) (need_t hu12) rfl fun b13 nd => ?_
  refine M rfl rfl (TL.nil (hK11 _ _ (SR fun K14 hK14 => M rfl rfl (P1 (p_sub rfl rfl) rfl rfl (M rfl rfl (TL.nil (hK14 _ _ (SR fun K15 hK15 => M rfl rfl (TL.nil (hK15 _ _ ?_))))))))))
  refine TK.seq_k fun K16 hK16 => ?_
  refine TK.block ?_
  obtain ⟨o17, hO17, hA17⟩ := bind_some hX
  have E17 : ∀ (s22 : Str) (l24 : List Str) (i25 : Int) (env : Env) (h : Hp), (∃ b23, keepE [0, 9, 10] env = [(0, true, Enc.v s22), (9, true, OL b23 l24), (10, true, Enc.v i25)] ∧ Nd [(b23, RL (α := Str) 9 l24)] ∧ HSub [(b23, RL (α := Str) 9 l24)] h) → X.strings_genSplit_k47_0_1_e17 s22 l24 i25 = some r → K16 env h := by
    intro s22 l24 i25 env h hE hX
    obtain ⟨b23, henv, nd, hs⟩ := hE
    unfold X.strings_genSplit_k47_0_1_e17 at hX
    refine hK16 _ _ (TK.keep [0, 9, 10] ?_)
    rw [henv]
    refine TK.subH hs ?_
    refine SR fun K26 hK26 => M rfl rfl (M rfl rfl (M rfl rfl ?_))
    obtain ⟨e27, he27, hX⟩ := bind_some hX
    refine P1 (p_iaO (xs := l24) kd80 ty9 rfl rfl rfl nd (j := 0) rfl (fun _ => he27)) rfl rfl ?_
    refine TLc.stW (xs := l24) (i := i25) (lu := Enc.cl (s22 : Str)) (a' := s22) nd ty9 rfl (j := 0) rfl (by simp [Enc.sz]) (inb_of he27 (by simp)) rfl (Cells_v (s22 : Str)) rfl (WkL_refl _) fun nd => ?_
    refine TL.cv 9 (OL b23 (l24.set i25.toNat s22)) rfl (Wk_eq (OL_len (by simp))) ?_
    refine TL.nil (hK26 _ _ (SR fun K28 hK28 => M rfl rfl (M rfl rfl (P1 (p_add rfl rfl) rfl rfl ?_))))
    obtain ⟨u29, hu29, hX⟩ := bind_some hX
    refine P1 (p_sliO (xs := (l24.set i25.toNat s22)) (l := (0 : Int)) (k := (wr (i25 + (1 : Int)))) kd80 ty9 rfl rfl nd (j := 0) rfl rfl rfl (fun e => need_t hu29)) rfl rfl (M rfl rfl (TL.nil (hK28 _ _ ?_)))
    refine TK.lay [(8, L (slc (l24.set i25.toNat s22) (0 : Int) (wr (i25 + (1 : Int)))))] nd (j := 0) rfl ⟨⟨_, rfl, fix_OS nd (j := 0) rfl (need_t hu29).1, rfl⟩, trivial⟩ fun nd => ?_
    refine TK.ret ?_
    try dsimp only [thenQ]
    exact R1 rfl hX
  refine TK.iter [0, 1, 2, 3, 9, 10] (fun s env h => match s with | (s18, a20, i21) => ∃ b19, env = [(0, true, Enc.v s18), (1, true, Enc.v ((Str.mk [47]) : Str)), (2, true, Enc.v ((0 : Int) : Int)), (3, true, Enc.v ((wr ((min (wr (r9 + (1 : Int))) (wr ((s1.l.length : Int) + (1 : Int)))) - (1 : Int))) : Int)), (9, true, OL b19 a20), (10, true, Enc.v i21)] ∧ Nd [(b19, RL (α := Str) 9 a20)] ∧ HSub [(b19, RL (α := Str) 9 a20)] h) hO17 ⟨b13, rfl, (Nd.pick nd (is := [0]) (by decide)), (HSub.pick nd (is := [0]) (by decide))⟩ ?_
  rintro ⟨s18, a20, i21⟩ env h x17x ⟨b19, rfl, nd, hs⟩ hX hR17
  refine TK.subH hs ?_
  unfold X.strings_genSplit_k47_0_1_s17 at hX
  try dsimp only at hX
  refine TK.seq_k fun K30 hK30 => ?_
  refine SR fun K31 hK31 => M rfl rfl (M rfl rfl (P1 (p_lss rfl rfl) rfl rfl (TL.nil (hK31 _ _ ?_))))
  refine TK.cond (b := (decide (i21 < (wr ((min (wr (r9 + (1 : Int))) (wr ((s1.l.length : Int) + (1 : Int)))) - (1 : Int)))))) rfl (fun hc => ?_) (fun hc => ?_)
  · have hX := ite_t hc hX
    refine TK.skip ?_
    refine hK30 _ _ ?_
    refine TK.block ?_
    refine SR fun K32 hK32 => M rfl rfl (M rfl rfl ?_)
    obtain ⟨r33, hr33, hX⟩ := bind_some hX
    refine TL.cvX rfl rfl rfl (fun _ => ⟨rfl, ⟨rfl, ⟨rfl, trivial⟩⟩⟩) (fun e => ok_strings_Index_k47 s18 _ hr33) ?_
    refine M rfl rfl (TL.nil (hK32 _ _ ?_))
    refine TK.seq_k fun K34 hK34 => ?_
    refine SR fun K35 hK35 => M rfl rfl (P1 (p_lss rfl rfl) rfl rfl (TL.nil (hK35 _ _ ?_)))
    refine TK.cond (b := (decide (r33 < (0 : Int)))) rfl (fun hc => ?_) (fun hc => ?_)
    · have hX := ite_t hc hX
      refine TK.exit ?_
      obtain rfl := hR17 _ (some_in hX).symm
      exact E17 s18 a20 i21 _ _ ⟨b19, rfl, (Nd.pick nd (is := [0]) (by decide)), (HSub.pick nd (is := [0]) (by decide))⟩ hA17
    · have hX := ite_f hc hX
      refine TK.skip ?_
      refine hK34 _ _ (SR fun K36 hK36 => M rfl rfl (M rfl rfl (M rfl rfl (M rfl rfl (M rfl rfl (P1 (p_add rfl rfl) rfl rfl ?_))))))
      obtain ⟨u37, hu37, hX⟩ := bind_some hX
      refine P1 (p_sliS (s := s18) (l := (0 : Int)) (k := (wr (r33 + (0 : Int)))) kd9 rfl rfl (fun n hn => rfl) (fun e => need_t hu37)) rfl rfl ?_
      obtain ⟨e38, he38, hX⟩ := bind_some hX
      refine P1 (p_iaO (xs := a20) kd80 ty9 rfl rfl rfl nd (j := 0) rfl (fun _ => he38)) rfl rfl ?_
      refine TLc.stW (xs := a20) (i := i21) (lu := Enc.cl ((Str.mk (slc s18.l (0 : Int) (wr (r33 + (0 : Int))))) : Str)) (a' := (Str.mk (slc s18.l (0 : Int) (wr (r33 + (0 : Int)))))) nd ty9 rfl (j := 0) rfl (by simp [Enc.sz]) (inb_of he38 (by simp)) rfl (Cells_v ((Str.mk (slc s18.l (0 : Int) (wr (r33 + (0 : Int))))) : Str)) rfl (WkL_refl _) fun nd => ?_
      refine TL.cv 9 (OL b19 (a20.set i21.toNat (Str.mk (slc s18.l (0 : Int) (wr (r33 + (0 : Int))))))) rfl (Wk_eq (OL_len (by simp))) ?_
      refine TL.nil (hK36 _ _ (SR fun K39 hK39 => M rfl rfl (M rfl rfl (M rfl rfl (P1 (p_lenS (s := (Str.mk [47])) kd9 rfl) rfl rfl (P1 (p_add rfl rfl) rfl rfl ?_))))))
      obtain ⟨u40, hu40, hX⟩ := bind_some hX
      refine P1 (p_sliS (s := s18) (l := (wr (r33 + (1 : Int)))) (k := (s18.l.length : Int)) kd9 rfl rfl (fun n hn => by subst hn; rfl) (fun e => need_t hu40)) rfl rfl (M rfl rfl (TL.nil (hK39 _ _ ?_)))
      refine TK.reg ?_
      refine M rfl rfl (P1 (p_add rfl rfl) rfl rfl (M rfl rfl (TL.nil ?_)))
      exact ⟨_, (some_in hX).symm, b19, rfl, (Nd.pick nd (is := [0]) (by decide)), (HSub.pick nd (is := [0]) (by decide))⟩
  · have hX := ite_f hc hX
    refine TK.exit ?_
    obtain rfl := hR17 _ (some_in hX).symm
    exact E17 s18 a20 i21 _ _ ⟨b19, rfl, (Nd.pick nd (is := [0]) (by decide)), (HSub.pick nd (is := [0]) (by decide))⟩ hA17

/-- strings.Split -/
theorem ok_strings_Split_k47 (s1 : Str) (r : (List Str)) (hX : X.strings_Split_k47 s1 = some r) : Fun Tryd.prog 98 [Enc.v (s1 : Str), Enc.v ((Str.mk [47]) : Str)] (· = Enc.v (r : (List Str))) := by
  refine Fun.of b98 (Nat.le_of_ble_eq_true rfl) (allVal.mem ⟨(by exact (v_val _)), (by exact (v_val _)), trivial⟩) ?_
  unfold k98
  have nd : Nd [] := Nd_nil
  unfold X.strings_Split_k47 at hX
  refine SR fun K2 hK2 => M rfl rfl (TL.nil (hK2 _ _ (SR fun K3 hK3 => M rfl rfl (M rfl rfl ?_))))
  obtain ⟨r4, hr4, hX⟩ := bind_some hX
  refine TL.cvX rfl rfl rfl (fun _ => ⟨rfl, ⟨rfl, ⟨rfl, ⟨rfl, ⟨rfl, trivial⟩⟩⟩⟩⟩) (fun e => ok_strings_genSplit_k47_0_1 s1 _ hr4) ?_
  refine M rfl rfl (TL.nil (hK3 _ _ ?_))
  refine TK.ret ?_
  try dsimp only [thenQ]
  exact R1 rfl hX

/-- slices.IndexFunc[[]string,string] -/
theorem ok_slices_IndexFunc_Lstring_string (s1 : (List Str)) (g2 : Str → Option Bool) (r : Int) (hX : X.slices_IndexFunc_Lstring_string s1 g2 = some r) {g2V : AV} (hg2V : ∃ f m c, g2V = .fn f m c ∧ (∀ i, i < m → (c i).val) ∧ ∀ (a0 : Str) r, g2 a0 = some r → Fun Tryd.prog f ([Enc.v a0] ++ (List.range m).map c) (· = Enc.v r)) : Fun Tryd.prog 126 [Enc.v (s1 : (List Str)), g2V] (· = Enc.v (r : Int)) := by
  obtain ⟨g2f, g2m, g2c, rfl, hg2v, hg2⟩ := hg2V
  refine Fun.of b126 (Nat.le_of_ble_eq_true rfl) (allVal.mem ⟨(by exact (v_val _)), hg2v, trivial⟩) ?_
  unfold k126
  have nd : Nd [] := Nd_nil
  unfold X.slices_IndexFunc_Lstring_string at hX
  refine SR fun K3 hK3 => M rfl rfl (TL.nil (hK3 _ _ ?_))
  refine TK.seq_k fun K4 hK4 => ?_
  refine SR fun K5 hK5 => M rfl rfl (P1 (p_lenL (xs := s1) kd80 rfl) rfl rfl (M rfl rfl (TL.nil (hK5 _ _ ?_))))
  refine TK.block ?_
  obtain ⟨o6, hO6, hA6⟩ := bind_some hX
  have E6 : ∀ (env : Env) (h : Hp), (∃ _u : Unit, keepE [] env = [] ∧ Nd [] ∧ HSub [] h) → X.slices_IndexFunc_Lstring_string_e6 = some r → K4 env h := by
    intro  env h hE hX
    obtain ⟨_u, henv, nd, hs⟩ := hE
    unfold X.slices_IndexFunc_Lstring_string_e6 at hX
    refine hK4 _ _ (TK.keep [] ?_)
    rw [henv]
    refine TK.subH hs ?_
    refine SR fun K8 hK8 => M rfl rfl (TL.nil (hK8 _ _ ?_))
    refine TK.ret ?_
    try dsimp only [thenQ]
    exact R1 rfl hX
  refine TK.iter [0, 1, 7, 8] (fun s env h => match s with | x7 => ∃ _u : Unit, env = [(0, true, Enc.v s1), (1, true, .fn g2f g2m g2c), (7, true, Enc.v ((s1.length : Int) : Int)), (8, true, Enc.v x7)] ∧ Nd [] ∧ HSub [] h) hO6 ⟨(), rfl, Nd_nil, HSub.refl _⟩ ?_
  rintro x7 env h x6x ⟨_u, rfl, nd, hs⟩ hX hR6
  refine TK.subH hs ?_
  unfold X.slices_IndexFunc_Lstring_string_s6 at hX
  try dsimp only at hX
  refine SR fun K9 hK9 => P1 (p_lss rfl rfl) rfl rfl (TL.nil (hK9 _ _ ?_))
  refine TK.seq_k fun K10 hK10 => ?_
  refine TK.cond (b := (decide (x7 < (s1.length : Int)))) rfl (fun hc => ?_) (fun hc => ?_)
  · have hX := ite_t hc hX
    refine TK.skip ?_
    refine hK10 _ _ ?_
    refine TK.seq_k fun K11 hK11 => ?_
    refine TK.block ?_
    refine SR fun K12 hK12 => M rfl rfl (M rfl rfl (TL.nil (hK12 _ _ (SR fun K13 hK13 => M rfl rfl (M rfl rfl (M rfl rfl ?_))))))
    obtain ⟨e14, he14, hX⟩ := bind_some hX
    refine P1 (p_iaL (xs := s1) kd80 ty9 rfl rfl rfl (fun _ => he14)) rfl rfl (P1 (p_ldE (xs := s1) (a := e14) (e14 : Str) ty9 rfl rfl (fun _ => he14) rfl rfl rfl) rfl rfl ?_)
    obtain ⟨r15, hr15, hX⟩ := bind_some hX
    refine TL.cvX rfl rfl rfl (fun _ => ⟨rfl, ⟨rfl, trivial⟩⟩) (fun e => hg2 e14 _ hr15) ?_
    refine TL.nil (hK13 _ _ ?_)
    refine TK.cond (b := r15) rfl (fun hc => ?_) (fun hc => ?_)
    · have hX := ite_t hc hX
      refine SR fun K16 hK16 => M rfl rfl (M rfl rfl (TL.nil (hK16 _ _ ?_)))
      refine TK.ret ?_
      obtain rfl := hR6 _ (some_in hX).symm
      replace hX := hA6
      try dsimp only [thenQ]
      exact R1 rfl hX
    · have hX := ite_f hc hX
      refine TK.skip ?_
      refine hK11 _ _ ?_
      refine TK.reg ?_
      refine P1 (p_add rfl rfl) rfl rfl (M rfl rfl (TL.nil ?_))
      exact ⟨_, (some_in hX).symm, (), rfl, Nd_nil, HSub.refl _⟩
  · have hX := ite_f hc hX
    refine TK.exit ?_
    obtain rfl := hR6 _ (some_in hX).symm
    exact E6 _ _ ⟨(), rfl, Nd_nil, HSub.refl _⟩ hA6

/-- slices.ContainsFunc[[]string,string] -/
theorem ok_slices_ContainsFunc_Lstring_string (s1 : (List Str)) (g2 : Str → Option Bool) (r : Bool) (hX : X.slices_ContainsFunc_Lstring_string s1 g2 = some r) {g2V : AV} (hg2V : ∃ f m c, g2V = .fn f m c ∧ (∀ i, i < m → (c i).val) ∧ ∀ (a0 : Str) r, g2 a0 = some r → Fun Tryd.prog f ([Enc.v a0] ++ (List.range m).map c) (· = Enc.v r)) : Fun Tryd.prog 97 [Enc.v (s1 : (List Str)), g2V] (· = Enc.v (r : Bool)) := by
  obtain ⟨g2f, g2m, g2c, rfl, hg2v, hg2⟩ := hg2V
  refine Fun.of b97 (Nat.le_of_ble_eq_true rfl) (allVal.mem ⟨(by exact (v_val _)), hg2v, trivial⟩) ?_
  unfold k97
  have nd : Nd [] := Nd_nil
  unfold X.slices_ContainsFunc_Lstring_string at hX
  refine SR fun K3 hK3 => M rfl rfl (TL.nil (hK3 _ _ (SR fun K4 hK4 => M rfl rfl (M rfl rfl ?_))))
  obtain ⟨r5, hr5, hX⟩ := bind_some hX
  refine TL.cvX rfl rfl rfl (fun _ => ⟨rfl, ⟨rfl, ⟨rfl, trivial⟩⟩⟩) (fun e => ok_slices_IndexFunc_Lstring_string s1 g2 _ hr5 ⟨_, _, _, rfl, hg2v, hg2⟩) ?_
  refine P1 (p_geq rfl rfl) rfl rfl (M rfl rfl (TL.nil (hK4 _ _ ?_)))
  refine TK.ret ?_
  try dsimp only [thenQ]
  exact R1 rfl hX

/-- strings.indexFunc -/
theorem ok_strings_indexFunc (s1 : Str) (g2 : I32 → Option Bool) (truth3 : Bool) (r : Int) (hX : X.strings_indexFunc s1 g2 truth3 = some r) {g2V : AV} (hg2V : ∃ f m c, g2V = .fn f m c ∧ (∀ i, i < m → (c i).val) ∧ ∀ (a0 : I32) r, g2 a0 = some r → Fun Tryd.prog f ([Enc.v a0] ++ (List.range m).map c) (· = Enc.v r)) : Fun Tryd.prog 169 [Enc.v s1, g2V, Enc.v truth3] (· = Enc.v r) := by
  unfold X.strings_indexFunc at hX
  split at hX
  · rename_i ht
    injection hX with hX
    subst hX
    exact fun_indexFunc (Enters.of Tryd.func169 (by kernel_rfl) (by kernel_rfl)) (fun g lb eg p truth s w hp => Go.Proofs.Tryd.strings_indexFunc_grows g lb eg p truth s w hp) hg2V ht
  · cases hX

/-- strings.IndexFunc -/
theorem ok_strings_IndexFunc (s1 : Str) (g2 : I32 → Option Bool) (r : Int) (hX : X.strings_IndexFunc s1 g2 = some r) {g2V : AV} (hg2V : ∃ f m c, g2V = .fn f m c ∧ (∀ i, i < m → (c i).val) ∧ ∀ (a0 : I32) r, g2 a0 = some r → Fun Tryd.prog f ([Enc.v a0] ++ (List.range m).map c) (· = Enc.v r)) : Fun Tryd.prog 155 [Enc.v (s1 : Str), g2V] (· = Enc.v (r : Int)) := by
  obtain ⟨g2f, g2m, g2c, rfl, hg2v, hg2⟩ := hg2V
  refine Fun.of b155 (Nat.le_of_ble_eq_true rfl) (allVal.mem ⟨(by exact (v_val _)), hg2v, trivial⟩) ?_
  unfold k155
  have nd : Nd [] := Nd_nil
  unfold X.strings_IndexFunc at hX
  refine SR fun K3 hK3 => M rfl rfl (TL.nil (hK3 _ _ (SR fun K4 hK4 => M rfl rfl (M rfl rfl ?_))))
  obtain ⟨r5, hr5, hX⟩ := bind_some hX
  refine TL.cvX rfl rfl rfl (fun _ => ⟨rfl, ⟨rfl, ⟨rfl, ⟨rfl, trivial⟩⟩⟩⟩) (fun e => ok_strings_indexFunc s1 g2 true _ hr5 ⟨_, _, _, rfl, hg2v, hg2⟩) ?_
  refine M rfl rfl (TL.nil (hK4 _ _ ?_))
  refine TK.ret ?_
  try dsimp only [thenQ]
  exact R1 rfl hX

/-- strings.ContainsFunc -/
theorem ok_strings_ContainsFunc (s1 : Str) (g2 : I32 → Option Bool) (r : Bool) (hX : X.strings_ContainsFunc s1 g2 = some r) {g2V : AV} (hg2V : ∃ f m c, g2V = .fn f m c ∧ (∀ i, i < m → (c i).val) ∧ ∀ (a0 : I32) r, g2 a0 = some r → Fun Tryd.prog f ([Enc.v a0] ++ (List.range m).map c) (· = Enc.v r)) : Fun Tryd.prog 128 [Enc.v (s1 : Str), g2V] (· = Enc.v (r : Bool)) := by
  obtain ⟨g2f, g2m, g2c, rfl, hg2v, hg2⟩ := hg2V
  refine Fun.of b128 (Nat.le_of_ble_eq_true rfl) (allVal.mem ⟨(by exact (v_val _)), hg2v, trivial⟩) ?_
  unfold k128
  have nd : Nd [] := Nd_nil
  unfold X.strings_ContainsFunc at hX
  refine SR fun K3 hK3 => M rfl rfl (TL.nil (hK3 _ _ (SR fun K4 hK4 => M rfl rfl (M rfl rfl ?_))))
  obtain ⟨r5, hr5, hX⟩ := bind_some hX
  refine TL.cvX rfl rfl rfl (fun _ => ⟨rfl, ⟨rfl, ⟨rfl, trivial⟩⟩⟩) (fun e => ok_strings_IndexFunc s1 g2 _ hr5 ⟨_, _, _, rfl, hg2v, hg2⟩) ?_
  refine P1 (p_geq rfl rfl) rfl rfl (M rfl rfl (TL.nil (hK4 _ _ ?_)))
  refine TK.ret ?_
  try dsimp only [thenQ]
  exact R1 rfl hX

/-- cartridge/path.other -/
theorem ok_path_other (c1 : I32) (r : Bool) (hX : X.path_other c1 = some r) : Fun Tryd.prog 129 [Enc.v (c1 : I32)] (· = Enc.v (r : Bool)) := by
  refine Fun.of b129 (Nat.le_of_ble_eq_true rfl) (allVal.mem ⟨(by exact (v_val _)), trivial⟩) ?_
  unfold k129
  have nd : Nd [] := Nd_nil
  unfold X.path_other at hX
  refine SR fun K2 hK2 => M rfl rfl (TL.nil (hK2 _ _ (SR fun K3 hK3 => M rfl rfl (P1 (p_lss (a := c1.n) (b := (I32.mk (97)).n) rfl rfl) rfl rfl (M rfl rfl ?_)))))
  refine TLc.p (gc := (!((decide (c1.n < (I32.mk (97)).n))))) (p_mv rfl (hg := fun e => rfl)) (gcF1 rfl) rfl ?_
  refine TLc.p (gc := (!((decide (c1.n < (I32.mk (97)).n))))) (p_gtr (a := c1.n) (b := (I32.mk (122)).n) rfl rfl (hg := fun e => ⟨e, rfl⟩)) (gcF1 rfl) rfl ?_
  refine P1 (p_or rfl rfl (fun e => ⟨rfl, fun h => (not_t h)⟩)) rfl rfl (M rfl rfl ?_)
  refine TLc.p (gc := (((decide (c1.n < (I32.mk (97)).n)) || (decide (c1.n > (I32.mk (122)).n))))) (p_mv rfl (hg := fun e => rfl)) (gcT1 rfl) rfl ?_
  refine TLc.p (gc := (((decide (c1.n < (I32.mk (97)).n)) || (decide (c1.n > (I32.mk (122)).n))))) (p_lss (a := c1.n) (b := (I32.mk (48)).n) rfl rfl (hg := fun e => ⟨e, rfl⟩)) (gcT1 rfl) rfl ?_
  refine TLc.p (gc := (((decide (c1.n < (I32.mk (97)).n)) || (decide (c1.n > (I32.mk (122)).n))))) (p_mv rfl (hg := fun e => e)) (gcT1 rfl) rfl ?_
  refine TLc.p (gc := ((((decide (c1.n < (I32.mk (97)).n)) || (decide (c1.n > (I32.mk (122)).n)))) && (!((decide (c1.n < (I32.mk (48)).n)))))) (p_mv rfl (hg := fun e => rfl)) (gcF rfl) rfl ?_
  refine TLc.p (gc := ((((decide (c1.n < (I32.mk (97)).n)) || (decide (c1.n > (I32.mk (122)).n)))) && (!((decide (c1.n < (I32.mk (48)).n)))))) (p_gtr (a := c1.n) (b := (I32.mk (57)).n) rfl rfl (hg := fun e => ⟨e, rfl⟩)) (gcF rfl) rfl ?_
  refine TLc.p (gc := (((decide (c1.n < (I32.mk (97)).n)) || (decide (c1.n > (I32.mk (122)).n))))) (p_or rfl rfl (fun e => ⟨e, fun h => (and_i e (not_t h))⟩)) (gcT1 rfl) rfl ?_
  refine P1 (p_and rfl rfl (fun e => ⟨rfl, fun h => h⟩)) rfl rfl (M rfl rfl ?_)
  refine TLc.p (gc := ((((decide (c1.n < (I32.mk (97)).n)) || (decide (c1.n > (I32.mk (122)).n))) && ((decide (c1.n < (I32.mk (48)).n)) || (decide (c1.n > (I32.mk (57)).n)))))) (p_mv rfl (hg := fun e => rfl)) (gcT1 rfl) rfl ?_
  refine TLc.p (gc := ((((decide (c1.n < (I32.mk (97)).n)) || (decide (c1.n > (I32.mk (122)).n))) && ((decide (c1.n < (I32.mk (48)).n)) || (decide (c1.n > (I32.mk (57)).n)))))) (p_neq (a := c1.n) (b := (I32.mk (46)).n) rfl rfl (hg := fun e => ⟨e, rfl⟩)) (gcT1 rfl) rfl ?_
  refine P1 (p_and rfl rfl (fun e => ⟨rfl, fun h => h⟩)) rfl rfl (M rfl rfl ?_)
  refine TLc.p (gc := (((((decide (c1.n < (I32.mk (97)).n)) || (decide (c1.n > (I32.mk (122)).n))) && ((decide (c1.n < (I32.mk (48)).n)) || (decide (c1.n > (I32.mk (57)).n)))) && (c1.n != (I32.mk (46)).n)))) (p_mv rfl (hg := fun e => rfl)) (gcT1 rfl) rfl ?_
  refine TLc.p (gc := (((((decide (c1.n < (I32.mk (97)).n)) || (decide (c1.n > (I32.mk (122)).n))) && ((decide (c1.n < (I32.mk (48)).n)) || (decide (c1.n > (I32.mk (57)).n)))) && (c1.n != (I32.mk (46)).n)))) (p_neq (a := c1.n) (b := (I32.mk (45)).n) rfl rfl (hg := fun e => ⟨e, rfl⟩)) (gcT1 rfl) rfl ?_
  refine P1 (p_and rfl rfl (fun e => ⟨rfl, fun h => h⟩)) rfl rfl (M rfl rfl ?_)
  refine TLc.p (gc := ((((((decide (c1.n < (I32.mk (97)).n)) || (decide (c1.n > (I32.mk (122)).n))) && ((decide (c1.n < (I32.mk (48)).n)) || (decide (c1.n > (I32.mk (57)).n)))) && (c1.n != (I32.mk (46)).n)) && (c1.n != (I32.mk (45)).n)))) (p_mv rfl (hg := fun e => rfl)) (gcT1 rfl) rfl ?_
  refine TLc.p (gc := ((((((decide (c1.n < (I32.mk (97)).n)) || (decide (c1.n > (I32.mk (122)).n))) && ((decide (c1.n < (I32.mk (48)).n)) || (decide (c1.n > (I32.mk (57)).n)))) && (c1.n != (I32.mk (46)).n)) && (c1.n != (I32.mk (45)).n)))) (p_neq (a := c1.n) (b := (I32.mk (95)).n) rfl rfl (hg := fun e => ⟨e, rfl⟩)) (gcT1 rfl) rfl ?_
  refine P1 (p_and rfl rfl (fun e => ⟨rfl, fun h => h⟩)) rfl rfl (M rfl rfl (TL.nil (hK3 _ _ ?_)))
  refine TK.ret ?_
  try dsimp only [thenQ]
  exact R1 rfl hX

/-- cartridge/path.wrong -/
theorem ok_path_wrong (s1 : Str) (r : Bool) (hX : X.path_wrong s1 = some r) : Fun Tryd.prog 99 [Enc.v (s1 : Str)] (· = Enc.v (r : Bool)) := by
  refine Fun.of b99 (Nat.le_of_ble_eq_true rfl) (allVal.mem ⟨(by exact (v_val _)), trivial⟩) ?_
  unfold k99
  have nd : Nd [] := Nd_nil
  unfold X.path_wrong at hX
  refine SR fun K2 hK2 => M rfl rfl (TL.nil (hK2 _ _ (SR fun K3 hK3 => M rfl rfl (P1 (ps_eql (s := s1) (r := (Str.mk [])) rfl rfl) rfl rfl (M rfl rfl ?_)))))
  refine TLc.p (gc := (!((s1.l == (Str.mk []).l)))) (p_mv rfl (hg := fun e => rfl)) (gcF1 rfl) rfl ?_
  refine TLc.p (gc := (!((s1.l == (Str.mk []).l)))) (ps_eql (s := s1) (r := (Str.mk [46])) rfl rfl (hg := fun e => ⟨e, rfl⟩)) (gcF1 rfl) rfl ?_
  refine P1 (p_or rfl rfl (fun e => ⟨rfl, fun h => (not_t h)⟩)) rfl rfl (M rfl rfl ?_)
  refine TLc.p (gc := (!(((s1.l == (Str.mk []).l) || (s1.l == (Str.mk [46]).l))))) (p_mv rfl (hg := fun e => rfl)) (gcF1 rfl) rfl ?_
  refine TLc.p (gc := (!(((s1.l == (Str.mk []).l) || (s1.l == (Str.mk [46]).l))))) (ps_eql (s := s1) (r := (Str.mk [46, 46])) rfl rfl (hg := fun e => ⟨e, rfl⟩)) (gcF1 rfl) rfl ?_
  refine P1 (p_or rfl rfl (fun e => ⟨rfl, fun h => (not_t h)⟩)) rfl rfl (M rfl rfl ?_)
  refine TLc.p (gc := (!((((s1.l == (Str.mk []).l) || (s1.l == (Str.mk [46]).l)) || (s1.l == (Str.mk [46, 46]).l))))) (p_mv rfl (hg := fun e => rfl)) (gcF1 rfl) rfl ?_
  obtain ⟨r4, hr4, hX⟩ := bind_some hX
  refine TL.cvX (gcF1 rfl) rfl rfl (fun e => ⟨rfl, ⟨e, ⟨rfl, trivial⟩⟩⟩) (fun e => ok_strings_ContainsFunc s1 (fun a1 => X.path_other a1) _ (optG_t hr4 e) ⟨129, 0, ofL [], rfl, (fun i hi => by cases hi), fun a1 r hr => ok_path_other a1 r hr⟩) ?_
  refine P1 (p_or rfl rfl (fun e => ⟨rfl, fun h => (not_t h)⟩)) rfl rfl (M rfl rfl (TL.nil (hK3 _ _ ?_)))
  refine TK.ret ?_
  try dsimp only [thenQ]
  exact R1 rfl hX

/-- cartridge/path.Right -/
theorem ok_path_Right (s1 : Str) (r : Bool) (hX : X.path_Right s1 = some r) : Fun Tryd.prog 64 [Enc.v (s1 : Str)] (· = Enc.v (r : Bool)) := by
  refine Fun.of b64 (Nat.le_of_ble_eq_true rfl) (allVal.mem ⟨(by exact (v_val _)), trivial⟩) ?_
  unfold k64
  have nd : Nd [] := Nd_nil
  unfold X.path_Right at hX
  refine SR fun K2 hK2 => M rfl rfl (TL.nil (hK2 _ _ (SR fun K3 hK3 => M rfl rfl (P1 (p_lenS (s := s1) kd9 rfl) rfl rfl (P1 (p_leq rfl rfl) rfl rfl (M rfl rfl ?_))))))
  refine TLc.p (gc := ((decide ((s1.l.length : Int) ≤ (24 : Int))))) (p_mv rfl (hg := fun e => rfl)) (gcT1 rfl) rfl ?_
  obtain ⟨r4, hr4, hX⟩ := bind_some hX
  refine TL.cvX (gcT1 rfl) rfl rfl (fun e => ⟨rfl, ⟨e, ⟨rfl, trivial⟩⟩⟩) (fun e => ok_strings_Split_k47 s1 _ (optG_t hr4 e)) ?_
  obtain ⟨r5, hr5, hX⟩ := bind_some hX
  refine TL.cvX (gcT1 rfl) rfl rfl (fun e => ⟨rfl, ⟨e, ⟨rfl, trivial⟩⟩⟩) (fun e => ok_slices_ContainsFunc_Lstring_string r4 (fun a1 => X.path_wrong a1) _ (optG_t hr5 e) ⟨99, 0, ofL [], rfl, (fun i hi => by cases hi), fun a1 r hr => ok_path_wrong a1 r hr⟩) ?_
  refine TLc.p (gc := ((decide ((s1.l.length : Int) ≤ (24 : Int))))) (p_not rfl (hg := fun e => e)) (gcT1 rfl) rfl ?_
  refine P1 (p_and rfl rfl (fun e => ⟨rfl, fun h => h⟩)) rfl rfl (M rfl rfl (TL.nil (hK3 _ _ ?_)))
  refine TK.ret ?_
  try dsimp only [thenQ]
  exact R1 rfl hX

/-- cartridge/record.within -/
theorem ok_record_within (n1 : Int) (low2 : Int) (high3 : Int) (r : Bool) (hX : X.record_within n1 low2 high3 = some r) : Fun Tryd.prog 80 [Enc.v (n1 : Int), Enc.v (low2 : Int), Enc.v (high3 : Int)] (· = Enc.v (r : Bool)) := by
  refine Fun.of b80 (Nat.le_of_ble_eq_true rfl) (allVal.mem ⟨(by exact (v_val _)), (by exact (v_val _)), (by exact (v_val _)), trivial⟩) ?_
  unfold k80
  have nd : Nd [] := Nd_nil
  unfold X.record_within at hX
  refine SR fun K4 hK4 => M rfl rfl (TL.nil (hK4 _ _ (SR fun K5 hK5 => M rfl rfl (M rfl rfl (P1 (p_geq rfl rfl) rfl rfl (M rfl rfl ?_))))))
  refine TLc.p (gc := ((decide (n1 ≥ low2)))) (p_mv rfl (hg := fun e => rfl)) (gcT1 rfl) rfl ?_
  refine TLc.p (gc := ((decide (n1 ≥ low2)))) (p_mv rfl (hg := fun e => rfl)) (gcT1 rfl) rfl ?_
  refine TLc.p (gc := ((decide (n1 ≥ low2)))) (p_leq rfl rfl (hg := fun e => ⟨e, e⟩)) (gcT1 rfl) rfl ?_
  refine P1 (p_and rfl rfl (fun e => ⟨rfl, fun h => h⟩)) rfl rfl (M rfl rfl (TL.nil (hK5 _ _ ?_)))
  refine TK.ret ?_
  try dsimp only [thenQ]
  exact R1 rfl hX

/-- cartridge/record.RightHead -/
theorem ok_record_RightHead (h1 : Head_api) (r : Bool) (hX : X.record_RightHead h1 = some r) : Fun Tryd.prog 41 [Enc.v (h1 : Head_api)] (· = Enc.v (r : Bool)) := by
  refine Fun.of b41 (Nat.le_of_ble_eq_true rfl) (allVal.mem ⟨(by exact (v_val _)), trivial⟩) ?_
  unfold k41
  have nd : Nd [] := Nd_nil
  unfold X.record_RightHead at hX
  refine SR fun K2 hK2 => ?_
  refine TLc.boxV (lu := [Enc.v h1.Path, Enc.v h1.Version, Enc.v h1.Size, Enc.v h1.From, Enc.v h1.Len, Enc.v h1.Serial, Enc.v h1.Sum, Enc.v h1.Gone]) nd rfl (Cells_v (h1 : Head_api)) rfl ?_
  refine M rfl rfl (TL.nil (hK2 _ _ ?_))
  refine TK.seq_k fun K3 hK3 => ?_
  refine SR fun K4 hK4 => P1 (p_faR fs23_0 (by decide) rfl) rfl rfl (P1 (p_ldR (v := Enc.v h1.Path) ty9 rfl rfl rfl rfl rfl rfl) rfl rfl ?_)
  obtain ⟨r5, hr5, hX⟩ := bind_some hX
  refine TL.cvX rfl rfl rfl (fun _ => ⟨rfl, ⟨rfl, trivial⟩⟩) (fun e => ok_path_Right h1.Path _ hr5) ?_
  refine P1 (p_not rfl) rfl rfl (M rfl rfl ?_)
  refine TLc.p (gc := (!((!r5)))) (p_faR fs23_1 (by decide) rfl (hg := fun e => rfl)) (gcF1 rfl) rfl ?_
  refine TLc.p (gc := (!((!r5)))) (p_ldR (v := Enc.v h1.Version) ty3 rfl rfl rfl rfl rfl rfl (hg := fun e => e)) (gcF1 rfl) rfl ?_
  obtain ⟨r6, hr6, hX⟩ := bind_some hX
  refine TL.cvX (gcF1 rfl) rfl rfl (fun e => ⟨rfl, ⟨e, ⟨rfl, ⟨rfl, trivial⟩⟩⟩⟩) (fun e => ok_record_within h1.Version (1 : Int) (1073741824 : Int) _ (optG_t hr6 e)) ?_
  refine TLc.p (gc := (!((!r5)))) (p_not rfl (hg := fun e => e)) (gcF1 rfl) rfl ?_
  refine P1 (p_or rfl rfl (fun e => ⟨rfl, fun h => (not_t h)⟩)) rfl rfl (M rfl rfl ?_)
  refine TLc.p (gc := (!(((!r5) || (!r6))))) (p_faR fs23_5 (by decide) rfl (hg := fun e => rfl)) (gcF1 rfl) rfl ?_
  refine TLc.p (gc := (!(((!r5) || (!r6))))) (p_ldR (v := Enc.v h1.Serial) ty3 rfl rfl rfl rfl rfl rfl (hg := fun e => e)) (gcF1 rfl) rfl ?_
  obtain ⟨r7, hr7, hX⟩ := bind_some hX
  refine TL.cvX (gcF1 rfl) rfl rfl (fun e => ⟨rfl, ⟨e, ⟨rfl, ⟨rfl, trivial⟩⟩⟩⟩) (fun e => ok_record_within h1.Serial (1 : Int) (1073741824 : Int) _ (optG_t hr7 e)) ?_
  refine TLc.p (gc := (!(((!r5) || (!r6))))) (p_not rfl (hg := fun e => e)) (gcF1 rfl) rfl ?_
  refine P1 (p_or rfl rfl (fun e => ⟨rfl, fun h => (not_t h)⟩)) rfl rfl (M rfl rfl ?_)
  refine TLc.p (gc := (!((((!r5) || (!r6)) || (!r7))))) (p_faR fs23_2 (by decide) rfl (hg := fun e => rfl)) (gcF1 rfl) rfl ?_
  refine TLc.p (gc := (!((((!r5) || (!r6)) || (!r7))))) (p_ldR (v := Enc.v h1.Size) ty3 rfl rfl rfl rfl rfl rfl (hg := fun e => e)) (gcF1 rfl) rfl ?_
  obtain ⟨r8, hr8, hX⟩ := bind_some hX
  refine TL.cvX (gcF1 rfl) rfl rfl (fun e => ⟨rfl, ⟨e, ⟨rfl, ⟨rfl, trivial⟩⟩⟩⟩) (fun e => ok_record_within h1.Size (0 : Int) (4000 : Int) _ (optG_t hr8 e)) ?_
  refine TLc.p (gc := (!((((!r5) || (!r6)) || (!r7))))) (p_not rfl (hg := fun e => e)) (gcF1 rfl) rfl ?_
  refine P1 (p_or rfl rfl (fun e => ⟨rfl, fun h => (not_t h)⟩)) rfl rfl (M rfl rfl ?_)
  refine TLc.p (gc := (!(((((!r5) || (!r6)) || (!r7)) || (!r8))))) (p_faR fs23_6 (by decide) rfl (hg := fun e => rfl)) (gcF1 rfl) rfl ?_
  refine TLc.p (gc := (!(((((!r5) || (!r6)) || (!r7)) || (!r8))))) (p_ldR (v := Enc.v h1.Sum) ty3 rfl rfl rfl rfl rfl rfl (hg := fun e => e)) (gcF1 rfl) rfl ?_
  obtain ⟨r9, hr9, hX⟩ := bind_some hX
  refine TL.cvX (gcF1 rfl) rfl rfl (fun e => ⟨rfl, ⟨e, ⟨rfl, ⟨rfl, trivial⟩⟩⟩⟩) (fun e => ok_record_within h1.Sum (0 : Int) (4294967295 : Int) _ (optG_t hr9 e)) ?_
  refine TLc.p (gc := (!(((((!r5) || (!r6)) || (!r7)) || (!r8))))) (p_not rfl (hg := fun e => e)) (gcF1 rfl) rfl ?_
  refine P1 (p_or rfl rfl (fun e => ⟨rfl, fun h => (not_t h)⟩)) rfl rfl (TL.nil (hK4 _ _ ?_))
  refine TK.cond (b := (((((!r5) || (!r6)) || (!r7)) || (!r8)) || (!r9))) rfl (fun hc => ?_) (fun hc => ?_)
  · have hX := ite_t hc hX
    refine SR fun K10 hK10 => M rfl rfl (TL.nil (hK10 _ _ ?_))
    refine TK.ret ?_
    try dsimp only [thenQ]
    exact R1 rfl hX
  · have hX := ite_f hc hX
    refine TK.skip ?_
    refine hK3 _ _ ?_
    refine TK.seq_k fun K11 hK11 => ?_
    refine SR fun K12 hK12 => P1 (p_faR fs23_3 (by decide) rfl) rfl rfl (P1 (p_ldR (v := Enc.v h1.From) ty3 rfl rfl rfl rfl rfl rfl) rfl rfl (P1 (p_faR fs23_2 (by decide) rfl) rfl rfl (P1 (p_ldR (v := Enc.v h1.Size) ty3 rfl rfl rfl rfl rfl rfl) rfl rfl ?_)))
    obtain ⟨r13, hr13, hX⟩ := bind_some hX
    refine TL.cvX rfl rfl rfl (fun _ => ⟨rfl, ⟨rfl, ⟨rfl, ⟨rfl, trivial⟩⟩⟩⟩) (fun e => ok_record_within h1.From (0 : Int) h1.Size _ hr13) ?_
    refine P1 (p_not rfl) rfl rfl (M rfl rfl ?_)
    refine TLc.p (gc := (!((!r13)))) (p_faR fs23_4 (by decide) rfl (hg := fun e => rfl)) (gcF1 rfl) rfl ?_
    refine TLc.p (gc := (!((!r13)))) (p_ldR (v := Enc.v h1.Len) ty3 rfl rfl rfl rfl rfl rfl (hg := fun e => e)) (gcF1 rfl) rfl ?_
    refine TLc.p (gc := (!((!r13)))) (p_faR fs23_2 (by decide) rfl (hg := fun e => rfl)) (gcF1 rfl) rfl ?_
    refine TLc.p (gc := (!((!r13)))) (p_ldR (v := Enc.v h1.Size) ty3 rfl rfl rfl rfl rfl rfl (hg := fun e => e)) (gcF1 rfl) rfl ?_
    refine TLc.p (gc := (!((!r13)))) (p_faR fs23_3 (by decide) rfl (hg := fun e => rfl)) (gcF1 rfl) rfl ?_
    refine TLc.p (gc := (!((!r13)))) (p_ldR (v := Enc.v h1.From) ty3 rfl rfl rfl rfl rfl rfl (hg := fun e => e)) (gcF1 rfl) rfl ?_
    refine TLc.p (gc := (!((!r13)))) (p_sub rfl rfl (hg := fun e => ⟨e, e⟩)) (gcF1 rfl) rfl ?_
    obtain ⟨r14, hr14, hX⟩ := bind_some hX
    refine TL.cvX (gcF1 rfl) rfl rfl (fun e => ⟨rfl, ⟨e, ⟨rfl, ⟨e, trivial⟩⟩⟩⟩) (fun e => ok_record_within h1.Len (0 : Int) (wr (h1.Size - h1.From)) _ (optG_t hr14 e)) ?_
    refine TLc.p (gc := (!((!r13)))) (p_not rfl (hg := fun e => e)) (gcF1 rfl) rfl ?_
    refine P1 (p_or rfl rfl (fun e => ⟨rfl, fun h => (not_t h)⟩)) rfl rfl (M rfl rfl ?_)
    refine TLc.p (gc := (!(((!r13) || (!r14))))) (p_faR fs23_4 (by decide) rfl (hg := fun e => rfl)) (gcF1 rfl) rfl ?_
    refine TLc.p (gc := (!(((!r13) || (!r14))))) (p_ldR (v := Enc.v h1.Len) ty3 rfl rfl rfl rfl rfl rfl (hg := fun e => e)) (gcF1 rfl) rfl ?_
    refine TLc.p (gc := (!(((!r13) || (!r14))))) (p_eql rfl rfl (hg := fun e => ⟨e, rfl⟩)) (gcF1 rfl) rfl ?_
    refine TLc.p (gc := (!(((!r13) || (!r14))))) (p_mv rfl (hg := fun e => e)) (gcF1 rfl) rfl ?_
    refine TLc.p (gc := ((!(((!r13) || (!r14)))) && ((h1.Len == (0 : Int))))) (p_faR fs23_2 (by decide) rfl (hg := fun e => rfl)) (gcT rfl) rfl ?_
    refine TLc.p (gc := ((!(((!r13) || (!r14)))) && ((h1.Len == (0 : Int))))) (p_ldR (v := Enc.v h1.Size) ty3 rfl rfl rfl rfl rfl rfl (hg := fun e => e)) (gcT rfl) rfl ?_
    refine TLc.p (gc := ((!(((!r13) || (!r14)))) && ((h1.Len == (0 : Int))))) (p_gtr rfl rfl (hg := fun e => ⟨e, rfl⟩)) (gcT rfl) rfl ?_
    refine TLc.p (gc := (!(((!r13) || (!r14))))) (p_and rfl rfl (fun e => ⟨e, fun h => (and_i e h)⟩)) (gcF1 rfl) rfl ?_
    refine P1 (p_or rfl rfl (fun e => ⟨rfl, fun h => (not_t h)⟩)) rfl rfl (TL.nil (hK12 _ _ ?_))
    refine TK.cond (b := (((!r13) || (!r14)) || ((h1.Len == (0 : Int)) && (decide (h1.Size > (0 : Int)))))) rfl (fun hc => ?_) (fun hc => ?_)
    · have hX := ite_t hc hX
      refine SR fun K15 hK15 => M rfl rfl (TL.nil (hK15 _ _ ?_))
      refine TK.ret ?_
      try dsimp only [thenQ]
      exact R1 rfl hX
    · have hX := ite_f hc hX
      refine TK.skip ?_
      refine hK11 _ _ (SR fun K16 hK16 => P1 (p_faR fs23_7 (by decide) rfl) rfl rfl (P1 (p_ldR (v := Enc.v h1.Gone) ty4 rfl rfl rfl rfl rfl rfl) rfl rfl (P1 (p_not rfl) rfl rfl (M rfl rfl ?_))))
      refine TLc.p (gc := (!((!h1.Gone)))) (p_faR fs23_2 (by decide) rfl (hg := fun e => rfl)) (gcF1 rfl) rfl ?_
      refine TLc.p (gc := (!((!h1.Gone)))) (p_ldR (v := Enc.v h1.Size) ty3 rfl rfl rfl rfl rfl rfl (hg := fun e => e)) (gcF1 rfl) rfl ?_
      refine TLc.p (gc := (!((!h1.Gone)))) (p_eql rfl rfl (hg := fun e => ⟨e, rfl⟩)) (gcF1 rfl) rfl ?_
      refine TLc.p (gc := (!((!h1.Gone)))) (p_mv rfl (hg := fun e => e)) (gcF1 rfl) rfl ?_
      refine TLc.p (gc := ((!((!h1.Gone))) && ((h1.Size == (0 : Int))))) (p_faR fs23_6 (by decide) rfl (hg := fun e => rfl)) (gcT rfl) rfl ?_
      refine TLc.p (gc := ((!((!h1.Gone))) && ((h1.Size == (0 : Int))))) (p_ldR (v := Enc.v h1.Sum) ty3 rfl rfl rfl rfl rfl rfl (hg := fun e => e)) (gcT rfl) rfl ?_
      refine TLc.p (gc := ((!((!h1.Gone))) && ((h1.Size == (0 : Int))))) (p_eql rfl rfl (hg := fun e => ⟨e, rfl⟩)) (gcT rfl) rfl ?_
      refine TLc.p (gc := (!((!h1.Gone)))) (p_and rfl rfl (fun e => ⟨e, fun h => (and_i e h)⟩)) (gcF1 rfl) rfl ?_
      refine P1 (p_or rfl rfl (fun e => ⟨rfl, fun h => (not_t h)⟩)) rfl rfl (M rfl rfl (TL.nil (hK16 _ _ ?_)))
      refine TK.ret ?_
      try dsimp only [thenQ]
      exact R1 rfl hX

/-- cartridge/frame.Put -/
theorem ok_frame_Put (u1 : Unit_api) (r : ((List UInt8) × Int)) (hX : X.frame_Put u1 = some r) : Fun Tryd.prog 43 [Enc.v (u1 : Unit_api)] (· = .tup 2 (ofL [Enc.v r.1, Enc.v r.2])) := by
  refine Fun.of b43 (Nat.le_of_ble_eq_true rfl) (allVal.mem ⟨(by exact (v_val _)), trivial⟩) ?_
  unfold k43
  have nd : Nd [] := Nd_nil
  unfold X.frame_Put at hX
  refine SR fun K2 hK2 => ?_
  refine TLc.boxV (lu := [Enc.v u1.Kind, Enc.v u1.Label, Enc.v u1.Number, Enc.v u1.Load]) nd rfl (Cells_v (u1 : Unit_api)) rfl ?_
  refine M rfl rfl (M rfl rfl (TL.nil (hK2 _ _ ?_)))
  refine TK.seq_k fun K3 hK3 => ?_
  refine SR fun K4 hK4 => P1 (p_ldRa (l' := Enc.cl (u1 : Unit_api)) ty42 rfl rfl rfl rfl rfl (Nat.le_of_ble_eq_true rfl)) rfl rfl ?_
  obtain ⟨r5, hr5, hX⟩ := bind_some hX
  refine TL.cvX rfl rfl rfl (fun _ => ⟨rfl, ⟨rfl, trivial⟩⟩) (fun e => ok_frame_check u1 _ hr5) ?_
  refine M rfl rfl (TL.nil (hK4 _ _ (SR fun K6 hK6 => M rfl rfl (P1 (p_neq rfl rfl) rfl rfl (TL.nil (hK6 _ _ ?_))))))
  refine TK.cond (b := (r5 != (0 : Int))) rfl (fun hc => ?_) (fun hc => ?_)
  · have hX := ite_t hc hX
    refine SR fun K7 hK7 => M rfl rfl (M rfl rfl (M rfl rfl (TL.nil (hK7 _ _ ?_))))
    refine TK.wk 2 (L ([] : (List UInt8))) rfl Wk_nil ?_
    refine TK.ret ?_
    try dsimp only [thenQ]
    exact retN (vs := [Enc.v (([] : (List UInt8)) : (List UInt8)), Enc.v r5]) ⟨rfl, rfl, trivial⟩ (by obtain rfl := some_in hX; rfl) (allVal.mem ⟨v_val _, v_val _, trivial⟩)
  · have hX := ite_f hc hX
    refine TK.skip ?_
    refine hK3 _ _ (SR fun K8 hK8 => P1 (p_ldRa (l' := Enc.cl (u1 : Unit_api)) ty42 rfl rfl rfl rfl rfl (Nat.le_of_ble_eq_true rfl)) rfl rfl ?_)
    obtain ⟨r9, hr9, hX⟩ := bind_some hX
    refine TL.cvX rfl rfl rfl (fun _ => ⟨rfl, ⟨rfl, trivial⟩⟩) (fun e => ok_frame_made u1 _ hr9) ?_
    refine M rfl rfl (M rfl rfl (TL.nil (hK8 _ _ ?_)))
    refine TK.ret ?_
    try dsimp only [thenQ]
    exact retN (vs := [Enc.v r9, Enc.v ((0 : Int) : Int)]) ⟨rfl, rfl, trivial⟩ (by obtain rfl := some_in hX; rfl) (allVal.mem ⟨v_val _, v_val _, trivial⟩)

/-- (*cartridge/code.Writer).Text -/
theorem ok_code_Writer_Text (s4 : Str) (b1 : (List UInt8)) (b2 : Nat) (b3 : Nat) (nd : Nd [(b2, RV 147 [OL (α := UInt8) b3 b1]), (b3, RL (α := UInt8) 5 b1)]) (r : (List UInt8)) (hX : X.code_Writer_Text s4 b1 = some r) : TCX Tryd.prog 81 [.ref b2 0 1, Enc.v (s4 : Str)] [(b2, RV 147 [OL (α := UInt8) b3 b1]), (b3, RL (α := UInt8) 5 b1)] (fun rv h' => ∃ b12, rv = .tup 0 (ofL []) ∧ h' = [(b2, RV 147 [OL (α := UInt8) b12 r]), (b12, RL (α := UInt8) 5 r)]) := by
  refine TCX.of b81 (Nat.le_of_ble_eq_true rfl) ?_
  unfold k81
  unfold X.code_Writer_Text at hX
  refine TK.endK fun KE hKE => ?_
  refine SR fun K5 hK5 => M rfl rfl (M rfl rfl (P1 (p_lenS (s := s4) kd9 rfl) rfl rfl (P1 (p_min rfl rfl) rfl rfl ?_)))
  obtain ⟨u6, hu6, hX⟩ := bind_some hX
  refine P1 (p_sliS (s := s4) (l := (0 : Int)) (k := (min (s4.l.length : Int) (255 : Int))) kd9 rfl rfl (fun n hn => rfl) (fun e => need_t hu6)) rfl rfl (M rfl rfl (TL.nil (hK5 _ _ (SR fun K7 hK7 => M rfl rfl (M rfl rfl (P1 (p_ncR rfl (fun _ => refOK_of nd (j := 0) rfl rfl)) rfl rfl (P1 (p_faV fs147_0 (by decide) rfl nd (j := 0) rfl rfl) rfl rfl ?_)))))))
  refine P1 (p_ldV (v := OL b3 b1) ty24 rfl rfl nd (j := 0) rfl rfl rfl rfl rfl) rfl rfl (M rfl rfl (P1 (p_lenS (s := (Str.mk (slc s4.l (0 : Int) (min (s4.l.length : Int) (255 : Int))))) kd9 rfl) rfl rfl (P1 (p_cvt src3 kd5 rfl (cv_u8 _)) rfl rfl ?_)))
  refine TLc.lit ([(u8 ((Str.mk (slc s4.l (0 : Int) (min (s4.l.length : Int) (255 : Int)))).l.length : Int))] : List UInt8) kd24 ty5 rfl ⟨⟨rfl, rfl⟩, trivial⟩ rfl rfl rfl ?_
  obtain ⟨u9, hu9, hX⟩ := bind_some hX
  refine TLc.appO nd kd24 bo24 ty5 rfl rfl (j := 1) rfl rfl (Src_L _) (by decide) (need_t hu9) rfl fun nd => ?_
  refine P1 (p_ncR rfl (fun _ => refOK_of nd (j := 0) rfl rfl)) rfl rfl (P1 (p_faV fs147_0 (by decide) rfl nd (j := 0) rfl rfl) rfl rfl ?_)
  refine TLc.stV (lu := [OL (α := UInt8) b3 (b1 ++ ([(u8 ((Str.mk (slc s4.l (0 : Int) (min (s4.l.length : Int) (255 : Int)))).l.length : Int))] : List UInt8))]) nd ty24 rfl (j := 0) rfl rfl rfl (Cells_rs (refOK_of nd (j := 1) rfl rfl)) rfl rfl [OL (α := UInt8) b3 (b1 ++ ([(u8 ((Str.mk (slc s4.l (0 : Int) (min (s4.l.length : Int) (255 : Int)))).l.length : Int))] : List UInt8))] rfl fun nd => ?_
  refine TL.nil (hK7 _ _ ?_)
  refine TK.reg ?_
  refine M rfl rfl (M rfl rfl (P1 (p_ncR rfl (fun _ => refOK_of nd (j := 0) rfl rfl)) rfl rfl (P1 (p_faV fs147_0 (by decide) rfl nd (j := 0) rfl rfl) rfl rfl (P1 (p_ldV (v := OL (α := UInt8) b3 (b1 ++ ([(u8 ((Str.mk (slc s4.l (0 : Int) (min (s4.l.length : Int) (255 : Int)))).l.length : Int))] : List UInt8))) ty24 rfl rfl nd (j := 0) rfl rfl rfl rfl rfl) rfl rfl (M rfl rfl ?_)))))
  obtain ⟨u10, hu10, hX⟩ := bind_some hX
  refine TLc.appO nd kd24 bo9 ty5 rfl rfl (j := 1) rfl rfl (Src_str (Str.mk (slc s4.l (0 : Int) (min (s4.l.length : Int) (255 : Int))))) (by decide) (need_t hu10) rfl fun nd => ?_
  refine P1 (p_ncR rfl (fun _ => refOK_of nd (j := 0) rfl rfl)) rfl rfl (P1 (p_faV fs147_0 (by decide) rfl nd (j := 0) rfl rfl) rfl rfl ?_)
  refine TLc.stV (lu := [OL (α := UInt8) b3 ((b1 ++ ([(u8 ((Str.mk (slc s4.l (0 : Int) (min (s4.l.length : Int) (255 : Int)))).l.length : Int))] : List UInt8)) ++ (Str.mk (slc s4.l (0 : Int) (min (s4.l.length : Int) (255 : Int)))).l)]) nd ty24 rfl (j := 0) rfl rfl rfl (Cells_rs (refOK_of nd (j := 1) rfl rfl)) rfl rfl [OL (α := UInt8) b3 ((b1 ++ ([(u8 ((Str.mk (slc s4.l (0 : Int) (min (s4.l.length : Int) (255 : Int)))).l.length : Int))] : List UInt8)) ++ (Str.mk (slc s4.l (0 : Int) (min (s4.l.length : Int) (255 : Int)))).l)] rfl fun nd => ?_
  refine TL.nil (hKE _ _ (TL.nil ?_))
  try dsimp only [thenQ]
  refine RetQ_end ?_
  exact retX (v := .tup 0 (ofL [])) res0 (by obtain rfl := some_in hX; exact ⟨b3, rfl, rfl⟩) nd (inH_tup (l := []) trivial) ⟨rowIn_RV ⟨inH_rs nd (j := 1) rfl, trivial⟩, rowIn_RL, trivial⟩

/-- cartridge/record.HeadBytes -/
theorem ok_record_HeadBytes (h1 : Head_api) (r : (List UInt8)) (hX : X.record_HeadBytes h1 = some r) : Fun Tryd.prog 42 [Enc.v (h1 : Head_api)] (· = Enc.v (r : (List UInt8))) := by
  refine Fun.of b42 (Nat.le_of_ble_eq_true rfl) (allVal.mem ⟨(by exact (v_val _)), trivial⟩) ?_
  unfold k42
  have nd : Nd [] := Nd_nil
  unfold X.record_HeadBytes at hX
  refine SR fun K2 hK2 => ?_
  refine TLc.boxV (lu := [Enc.v h1.Path, Enc.v h1.Version, Enc.v h1.Size, Enc.v h1.From, Enc.v h1.Len, Enc.v h1.Serial, Enc.v h1.Sum, Enc.v h1.Gone]) nd rfl (Cells_v (h1 : Head_api)) rfl ?_
  refine M rfl rfl (TL.nil (hK2 _ _ ?_))
  refine TK.seq_k fun K3 hK3 => ?_
  refine SR fun K4 hK4 => P1 (p_ldRa (l' := Enc.cl (h1 : Head_api)) ty23 rfl rfl rfl rfl rfl (Nat.le_of_ble_eq_true rfl)) rfl rfl ?_
  obtain ⟨r5, hr5, hX⟩ := bind_some hX
  refine TL.cvX rfl rfl rfl (fun _ => ⟨rfl, ⟨rfl, trivial⟩⟩) (fun e => ok_record_RightHead h1 _ hr5) ?_
  refine P1 (p_not rfl) rfl rfl (TL.nil (hK4 _ _ ?_))
  refine TK.cond (b := (!r5)) rfl (fun hc => ?_) (fun hc => ?_)
  · have hX := ite_t hc hX
    refine SR fun K6 hK6 => M rfl rfl (TL.nil (hK6 _ _ ?_))
    refine TK.wk 2 (L ([] : (List UInt8))) rfl Wk_nil ?_
    refine TK.ret ?_
    try dsimp only [thenQ]
    exact R1 rfl hX
  · have hX := ite_f hc hX
    refine TK.skip ?_
    refine hK3 _ _ (SR fun K7 hK7 => P1 (p_bld (l := [.nils]) ty147 rfl all147 rfl (fun _ => trivial)) rfl rfl ?_)
    refine TLc.boxO (lu := [.nils]) nd rfl (Cells_agg rfl (allA.mem ⟨trivial, trivial⟩)) rfl fun b8 nd => ?_
    refine M rfl rfl (TL.nil (hK7 _ _ ?_))
    refine TK.ownC (α := UInt8) nd (j := 0) rfl 0 5 (.inl rfl) fun b9 nd => ?_
    refine SR fun K10 hK10 => M rfl rfl (P1 (p_faR fs23_0 (by decide) rfl) rfl rfl (P1 (p_ldR (v := Enc.v h1.Path) ty9 rfl rfl rfl rfl rfl rfl) rfl rfl ?_))
    obtain ⟨r11, hr11, hX⟩ := bind_some hX
    refine TL.pick [1, 0] nd (by decide) fun nd => ?_
    refine TL.tcX [(b8, RV 147 [OL (α := UInt8) b9 ([] : List UInt8)]), (b9, RL (α := UInt8) 5 ([] : List UInt8))] [] rfl nd (dlt rfl) rfl ⟨rfl, ⟨rfl, ⟨rfl, trivial⟩⟩⟩ (ok_code_Writer_Text h1.Path ([] : List UInt8) b8 b9 (Nd.take nd 2 rfl) _ hr11) ?_
    rintro _ _ hQ nd
    obtain ⟨b13, rfl, rfl⟩ := hQ
    refine TL.nil (hK10 _ _ ?_)
    refine TK.seq_k fun K14 hK14 => ?_
    refine SR fun K15 hK15 => P1 (p_faR fs23_1 (by decide) rfl) rfl rfl (P1 (p_ldR (v := Enc.v h1.Version) ty3 rfl rfl rfl rfl rfl rfl) rfl rfl (P1 (p_faR fs23_2 (by decide) rfl) rfl rfl (P1 (p_ldR (v := Enc.v h1.Size) ty3 rfl rfl rfl rfl rfl rfl) rfl rfl (P1 (p_faR fs23_3 (by decide) rfl) rfl rfl (P1 (p_ldR (v := Enc.v h1.From) ty3 rfl rfl rfl rfl rfl rfl) rfl rfl (P1 (p_faR fs23_4 (by decide) rfl) rfl rfl ?_))))))
    refine P1 (p_ldR (v := Enc.v h1.Len) ty3 rfl rfl rfl rfl rfl rfl) rfl rfl (P1 (p_faR fs23_5 (by decide) rfl) rfl rfl (P1 (p_ldR (v := Enc.v h1.Serial) ty3 rfl rfl rfl rfl rfl rfl) rfl rfl (P1 (p_faR fs23_6 (by decide) rfl) rfl rfl (P1 (p_ldR (v := Enc.v h1.Sum) ty3 rfl rfl rfl rfl rfl rfl) rfl rfl ?_))))
    refine TLc.lit ([h1.Version, h1.Size, h1.From, h1.Len, h1.Serial, h1.Sum] : List Int) kd36 ty3 rfl ⟨⟨rfl, rfl⟩, ⟨rfl, rfl⟩, ⟨rfl, rfl⟩, ⟨rfl, rfl⟩, ⟨rfl, rfl⟩, ⟨rfl, rfl⟩, trivial⟩ rfl rfl rfl ?_
    refine P1 (p_lenL (xs := ([h1.Version, h1.Size, h1.From, h1.Len, h1.Serial, h1.Sum] : List Int)) kd36 rfl) rfl rfl (M rfl rfl (TL.nil (hK15 _ _ ?_)))
    refine TK.block ?_
    obtain ⟨o16, hO16, hA16⟩ := bind_some hX
    have E16 : ∀ (l23 : List UInt8) (env : Env) (h : Hp), (∃ b22 b21, keepE [1, 3] env = [(1, true, .vref (ofL [Enc.v h1.Path, Enc.v h1.Version, Enc.v h1.Size, Enc.v h1.From, Enc.v h1.Len, Enc.v h1.Serial, Enc.v h1.Sum, Enc.v h1.Gone]) 8 0), (3, true, .ref b21 0 1)] ∧ Nd [(b22, RL (α := UInt8) 5 l23), (b21, RV 147 [OL b22 l23])] ∧ HSub [(b22, RL (α := UInt8) 5 l23), (b21, RV 147 [OL b22 l23])] h) → X.record_HeadBytes_e16 h1 l23 = some r → K14 env h := by
      intro l23 env h hE hX
      obtain ⟨b22, b21, henv, nd, hs⟩ := hE
      unfold X.record_HeadBytes_e16 at hX
      refine hK14 _ _ (TK.keep [1, 3] ?_)
      rw [henv]
      refine TK.subH hs ?_
      refine SR fun K24 hK24 => M rfl rfl (TL.nil (hK24 _ _ ?_))
      refine TK.seq_k fun K25 hK25 => ?_
      have J25 : ∀ (gone28 : UInt8) (env : Env) (h : Hp), (∃ b27 b26, keepE [3, 6] env = [(3, true, .ref b26 0 1), (6, true, Enc.v gone28)] ∧ Nd [(b27, RL (α := UInt8) 5 l23), (b26, RV 147 [OL b27 l23])] ∧ HSub [(b27, RL (α := UInt8) 5 l23), (b26, RV 147 [OL b27 l23])] h) → X.record_HeadBytes_j25 l23 gone28 = some r → K25 env h := by
        intro gone28 env h hE hX
        obtain ⟨b27, b26, henv, nd, hs⟩ := hE
        unfold X.record_HeadBytes_j25 at hX
        refine hK25 _ _ (TK.keep [3, 6] ?_)
        rw [henv]
        refine TK.subH hs ?_
        refine SR fun K29 hK29 => M rfl rfl (M rfl rfl ?_)
        obtain ⟨r30, hr30, hX⟩ := bind_some hX
        refine TL.pick [1, 0] nd (by decide) fun nd => ?_
        refine TL.tcX [(b26, RV 147 [OL b27 l23]), (b27, RL (α := UInt8) 5 l23)] [] rfl nd (dlt rfl) rfl ⟨rfl, ⟨rfl, ⟨rfl, trivial⟩⟩⟩ (ok_code_Writer_Byte gone28 l23 b26 b27 (Nd.take nd 2 rfl) _ hr30) ?_
        rintro _ _ hQ nd
        obtain ⟨b32, rfl, rfl⟩ := hQ
        refine TL.nil (hK29 _ _ (SR fun K33 hK33 => M rfl rfl ?_))
        obtain ⟨r34, hr34, hX⟩ := bind_some hX
        refine TL.tcX [(b26, RV 147 [OL b32 r30]), (b32, RL (α := UInt8) 5 r30)] [] rfl nd (dlt rfl) rfl ⟨rfl, ⟨rfl, trivial⟩⟩ (ok_code_Writer_Bytes r30 b26 b32 (Nd.take nd 2 rfl) _ hr34) ?_
        rintro _ _ hQ nd
        obtain ⟨rfl, rfl⟩ := hQ
        refine M rfl rfl (TL.nil (hK33 _ _ ?_))
        refine TK.ret ?_
        try dsimp only [thenQ]
        exact R1 rfl hX
      refine SR fun K35 hK35 => P1 (p_faR fs23_7 (by decide) rfl) rfl rfl (P1 (p_ldR (v := Enc.v h1.Gone) ty4 rfl rfl rfl rfl rfl rfl) rfl rfl (TL.nil (hK35 _ _ ?_)))
      refine TK.cond (b := h1.Gone) rfl (fun hc => ?_) (fun hc => ?_)
      · have hX := ite_t hc hX
        refine TK.reg ?_
        refine M rfl rfl (TL.nil ?_)
        exact J25 (1 : UInt8) _ _ ⟨b22, b21, rfl, (Nd.pick nd (is := [0, 1]) (by decide)), (HSub.pick nd (is := [0, 1]) (by decide))⟩ hX
      · have hX := ite_f hc hX
        refine TK.skip ?_
        exact J25 (0 : UInt8) _ _ ⟨b22, b21, rfl, (Nd.pick nd (is := [0, 1]) (by decide)), (HSub.pick nd (is := [0, 1]) (by decide))⟩ hX
    refine TK.iter [1, 3, 28, 29, 30] (fun s env h => match s with | (l19, x20) => ∃ b18 b17, env = [(1, true, .vref (ofL [Enc.v h1.Path, Enc.v h1.Version, Enc.v h1.Size, Enc.v h1.From, Enc.v h1.Len, Enc.v h1.Serial, Enc.v h1.Sum, Enc.v h1.Gone]) 8 0), (3, true, .ref b17 0 1), (28, true, Enc.v (([h1.Version, h1.Size, h1.From, h1.Len, h1.Serial, h1.Sum] : List Int) : (List Int))), (29, true, Enc.v ((([h1.Version, h1.Size, h1.From, h1.Len, h1.Serial, h1.Sum] : List Int).length : Int) : Int)), (30, true, Enc.v x20)] ∧ Nd [(b18, RL (α := UInt8) 5 l19), (b17, RV 147 [OL b18 l19])] ∧ HSub [(b18, RL (α := UInt8) 5 l19), (b17, RV 147 [OL b18 l19])] h) hO16 ⟨b13, b8, rfl, (Nd.pick nd (is := [1, 0]) (by decide)), (HSub.pick nd (is := [1, 0]) (by decide))⟩ ?_
    rintro ⟨l19, x20⟩ env h x16x ⟨b18, b17, rfl, nd, hs⟩ hX hR16
    refine TK.subH hs ?_
    unfold X.record_HeadBytes_s16 at hX
    try dsimp only at hX
    refine SR fun K36 hK36 => P1 (p_lss rfl rfl) rfl rfl (TL.nil (hK36 _ _ ?_))
    refine TK.seq_k fun K37 hK37 => ?_
    refine TK.cond (b := (decide (x20 < (([h1.Version, h1.Size, h1.From, h1.Len, h1.Serial, h1.Sum] : List Int).length : Int)))) rfl (fun hc => ?_) (fun hc => ?_)
    · have hX := ite_t hc hX
      refine TK.skip ?_
      refine hK37 _ _ ?_
      refine TK.seq_k fun K38 hK38 => ?_
      refine TK.block ?_
      refine SR fun K39 hK39 => ?_
      obtain ⟨e40, he40, hX⟩ := bind_some hX
      refine P1 (p_iaL (xs := ([h1.Version, h1.Size, h1.From, h1.Len, h1.Serial, h1.Sum] : List Int)) kd36 ty3 rfl rfl rfl (fun _ => he40)) rfl rfl (P1 (p_ldE (xs := ([h1.Version, h1.Size, h1.From, h1.Len, h1.Serial, h1.Sum] : List Int)) (a := e40) (e40 : Int) ty3 rfl rfl (fun _ => he40) rfl rfl rfl) rfl rfl (M rfl rfl (TL.nil (hK39 _ _ ?_))))
      refine TK.reg ?_
      refine M rfl rfl (M rfl rfl ?_)
      obtain ⟨r41, hr41, hX⟩ := bind_some hX
      refine TL.pick [1, 0] nd (by decide) fun nd => ?_
      refine TL.tcX [(b17, RV 147 [OL b18 l19]), (b18, RL (α := UInt8) 5 l19)] [] rfl nd (dlt rfl) rfl ⟨rfl, ⟨rfl, ⟨rfl, trivial⟩⟩⟩ (ok_code_Writer_Int e40 l19 b17 b18 (Nd.take nd 2 rfl) _ hr41) ?_
      rintro _ _ hQ nd
      obtain ⟨b43, rfl, rfl⟩ := hQ
      refine TL.nil (hK38 _ _ ?_)
      refine TK.reg ?_
      refine P1 (p_add rfl rfl) rfl rfl (M rfl rfl (TL.nil ?_))
      exact ⟨_, (some_in hX).symm, b43, b17, rfl, (Nd.pick nd (is := [1, 0]) (by decide)), (HSub.pick nd (is := [1, 0]) (by decide))⟩
    · have hX := ite_f hc hX
      refine TK.exit ?_
      obtain rfl := hR16 _ (some_in hX).symm
      exact E16 l19 _ _ ⟨b18, b17, rfl, (Nd.pick nd (is := [0, 1]) (by decide)), (HSub.pick nd (is := [0, 1]) (by decide))⟩ hA16

/-- cartridge/volume.Blocks -/
theorem ok_volume_Blocks (label1 : Int) (at2 : Int) (h3 : Head_api) (b4 : (List UInt8)) (r : ((List (List UInt8)) × Int)) (hX : X.volume_Blocks label1 at2 h3 b4 = some r) : Fun Tryd.prog 13 [Enc.v (label1 : Int), Enc.v (at2 : Int), Enc.v (h3 : Head_api), Enc.v (b4 : (List UInt8))] (· = .tup 2 (ofL [Enc.v r.1, Enc.v r.2])) := by
  refine Fun.of b13 (Nat.le_of_ble_eq_true rfl) (allVal.mem ⟨(by exact (v_val _)), (by exact (v_val _)), (by exact (v_val _)), (by exact (v_val _)), trivial⟩) ?_
  unfold k13
  have nd : Nd [] := Nd_nil
  unfold X.volume_Blocks at hX
  refine SR fun K5 hK5 => ?_
  refine TLc.boxV (lu := [Enc.v h3.Path, Enc.v h3.Version, Enc.v h3.Size, Enc.v h3.From, Enc.v h3.Len, Enc.v h3.Serial, Enc.v h3.Sum, Enc.v h3.Gone]) nd rfl (Cells_v (h3 : Head_api)) rfl ?_
  refine M rfl rfl (M rfl rfl (TL.nil (hK5 _ _ ?_)))
  refine TK.seq_k fun K6 hK6 => ?_
  refine SR fun K7 hK7 => P1 (p_ldRa (l' := Enc.cl (h3 : Head_api)) ty23 rfl rfl rfl rfl rfl (Nat.le_of_ble_eq_true rfl)) rfl rfl ?_
  obtain ⟨r8, hr8, hX⟩ := bind_some hX
  refine TL.cvX rfl rfl rfl (fun _ => ⟨rfl, ⟨rfl, trivial⟩⟩) (fun e => ok_record_RightHead h3 _ hr8) ?_
  refine P1 (p_not rfl) rfl rfl (M rfl rfl ?_)
  refine TLc.p (gc := (!((!r8)))) (p_mv rfl (hg := fun e => rfl)) (gcF1 rfl) rfl ?_
  refine TLc.p (gc := (!((!r8)))) (p_lenL (xs := b4) kd24 rfl (hg := fun e => e)) (gcF1 rfl) rfl ?_
  refine TLc.p (gc := (!((!r8)))) (p_faR fs23_4 (by decide) rfl (hg := fun e => rfl)) (gcF1 rfl) rfl ?_
  refine TLc.p (gc := (!((!r8)))) (p_ldR (v := Enc.v h3.Len) ty3 rfl rfl rfl rfl rfl rfl (hg := fun e => e)) (gcF1 rfl) rfl ?_
  refine TLc.p (gc := (!((!r8)))) (p_neq rfl rfl (hg := fun e => ⟨e, e⟩)) (gcF1 rfl) rfl ?_
  refine P1 (p_or rfl rfl (fun e => ⟨rfl, fun h => (not_t h)⟩)) rfl rfl (TL.nil (hK7 _ _ ?_))
  refine TK.cond (b := ((!r8) || ((b4.length : Int) != h3.Len))) rfl (fun hc => ?_) (fun hc => ?_)
  · have hX := ite_t hc hX
    refine SR fun K9 hK9 => M rfl rfl (M rfl rfl (TL.nil (hK9 _ _ ?_)))
    refine TK.wk 8 (L ([] : (List (List UInt8)))) rfl Wk_nil ?_
    refine TK.ret ?_
    try dsimp only [thenQ]
    exact retN (vs := [Enc.v (([] : (List (List UInt8))) : (List (List UInt8))), Enc.v ((1 : Int) : Int)]) ⟨rfl, rfl, trivial⟩ (by obtain rfl := some_in hX; rfl) (allVal.mem ⟨v_val _, v_val _, trivial⟩)
  · have hX := ite_f hc hX
    refine TK.skip ?_
    refine hK6 _ _ (SR fun K10 hK10 => P1 (p_ldRa (l' := Enc.cl (h3 : Head_api)) ty23 rfl rfl rfl rfl rfl (Nat.le_of_ble_eq_true rfl)) rfl rfl ?_)
    obtain ⟨r11, hr11, hX⟩ := bind_some hX
    refine TL.cvX rfl rfl rfl (fun _ => ⟨rfl, ⟨rfl, trivial⟩⟩) (fun e => ok_record_HeadBytes h3 _ hr11) ?_
    refine P1 (p_bld (l := Enc.cl ((Unit_api.mk (2 : Int) (0 : Int) (0 : Int) r11) : Unit_api)) ty42 rfl all42 rfl (fun _ => ⟨⟨rfl, trivial, rfl⟩, ⟨rfl, trivial, rfl⟩, trivial⟩)) rfl rfl ?_
    refine TLc.litO nd ([(Unit_api.mk (2 : Int) (0 : Int) (0 : Int) r11)] : List Unit_api) kd97 ty42 rfl ⟨⟨rfl, rfl⟩, trivial⟩ rfl rfl rfl fun b12 nd => ?_
    refine M rfl rfl (TL.nil (hK10 _ _ ?_))
    refine TK.seq_k fun K13 hK13 => ?_
    refine TK.block ?_
    obtain ⟨o14, hO14, hA14⟩ := bind_some hX
    have E14 : ∀ (l19 : List Unit_api) (env : Env) (h : Hp), (∃ b18, keepE [0, 1, 10] env = [(0, true, Enc.v label1), (1, true, Enc.v at2), (10, true, OL b18 l19)] ∧ Nd [(b18, RL (α := Unit_api) 42 l19)] ∧ HSub [(b18, RL (α := Unit_api) 42 l19)] h) → X.volume_Blocks_e14 label1 at2 l19 = some r → K13 env h := by
      intro l19 env h hE hX
      obtain ⟨b18, henv, nd, hs⟩ := hE
      unfold X.volume_Blocks_e14 at hX
      refine hK13 _ _ (TK.keep [0, 1, 10] ?_)
      rw [henv]
      refine TK.subH hs ?_
      refine SR fun K20 hK20 => M rfl rfl ?_
      refine TLc.p (gc := true) (p_bld (l := [Enc.v ((4 : Int) : Int), Enc.v ((0 : Int) : Int), Enc.v ((0 : Int) : Int), .nils]) ty42 rfl all42 rfl (fun _ => ⟨⟨rfl, trivial, rfl⟩, trivial⟩)) rfl rfl (TL.wk (v' := Enc.v ((Unit_api.mk (4 : Int) (0 : Int) (0 : Int) ([] : (List UInt8))) : Unit_api)) (Wk_agg ⟨Wk.refl _, Wk.refl _, Wk.refl _, Wk_nil, trivial⟩) ?_)
      refine TLc.lit ([(Unit_api.mk (4 : Int) (0 : Int) (0 : Int) ([] : (List UInt8)))] : List Unit_api) kd97 ty42 rfl ⟨⟨rfl, rfl⟩, trivial⟩ rfl rfl rfl ?_
      obtain ⟨u21, hu21, hX⟩ := bind_some hX
      refine TLc.appO nd kd97 bo97 ty42 rfl rfl (j := 0) rfl rfl (Src_L _) (by decide) (need_t hu21) rfl fun nd => ?_
      refine M rfl rfl (TL.nil (hK20 _ _ (SR fun K22 hK22 => M rfl rfl (TL.nil (hK22 _ _ ?_)))))
      refine TK.ownL (α := (List UInt8)) 11 24 nd rfl (.inl rfl) fun b23 nd => ?_
      refine TK.seq_k fun K24 hK24 => ?_
      refine SR fun K25 hK25 => M rfl rfl (P1 (p_lenR kd97 rfl (fun _ => refOK_of nd (j := 1) rfl rfl)) rfl rfl (M rfl rfl (TL.nil (hK25 _ _ ?_))))
      refine TK.block ?_
      obtain ⟨o26, hO26, hA26⟩ := bind_some hX
      have E26 : ∀ (l32 : List (List UInt8)) (env : Env) (h : Hp), (∃ b31, keepE [11] env = [(11, true, OL b31 l32)] ∧ Nd [(b31, RL (α := (List UInt8)) 24 l32)] ∧ HSub [(b31, RL (α := (List UInt8)) 24 l32)] h) → X.volume_Blocks_e26 l32 = some r → K24 env h := by
        intro l32 env h hE hX
        obtain ⟨b31, henv, nd, hs⟩ := hE
        unfold X.volume_Blocks_e26 at hX
        refine hK24 _ _ (TK.keep [11] ?_)
        rw [henv]
        refine TK.subH hs ?_
        refine SR fun K33 hK33 => M rfl rfl (M rfl rfl (M rfl rfl (TL.nil (hK33 _ _ ?_))))
        refine TK.lay [(8, L l32)] nd (j := 0) rfl ⟨⟨_, rfl, fix_OL nd (j := 0) rfl, rfl⟩, trivial⟩ fun nd => ?_
        refine TK.ret ?_
        try dsimp only [thenQ]
        exact retN (vs := [Enc.v l32, Enc.v ((0 : Int) : Int)]) ⟨rfl, rfl, trivial⟩ (by obtain rfl := some_in hX; rfl) (allVal.mem ⟨v_val _, v_val _, trivial⟩)
      refine TK.iter [0, 1, 11, 51, 52, 53] (fun s env h => match s with | (out28, x30) => ∃ b27 b29, env = [(0, true, Enc.v label1), (1, true, Enc.v at2), (11, true, OL b27 out28), (51, true, OL (α := Unit_api) b29 (l19 ++ ([(Unit_api.mk (4 : Int) (0 : Int) (0 : Int) ([] : (List UInt8)))] : List Unit_api))), (52, true, Enc.v (((l19 ++ ([(Unit_api.mk (4 : Int) (0 : Int) (0 : Int) ([] : (List UInt8)))] : List Unit_api)).length : Int) : Int)), (53, true, Enc.v x30)] ∧ Nd [(b27, RL (α := (List UInt8)) 24 out28), (b29, RL (α := Unit_api) 42 (l19 ++ ([(Unit_api.mk (4 : Int) (0 : Int) (0 : Int) ([] : (List UInt8)))] : List Unit_api)))] ∧ HSub [(b27, RL (α := (List UInt8)) 24 out28), (b29, RL (α := Unit_api) 42 (l19 ++ ([(Unit_api.mk (4 : Int) (0 : Int) (0 : Int) ([] : (List UInt8)))] : List Unit_api)))] h) hO26 ⟨b23, b18, rfl, (Nd.pick nd (is := [0, 1]) (by decide)), (HSub.pick nd (is := [0, 1]) (by decide))⟩ ?_
      rintro ⟨out28, x30⟩ env h x26x ⟨b27, b29, rfl, nd, hs⟩ hX hR26
      refine TK.subH hs ?_
      unfold X.volume_Blocks_s26 at hX
      try dsimp only at hX
      refine SR fun K34 hK34 => P1 (p_lss rfl rfl) rfl rfl (TL.nil (hK34 _ _ ?_))
      refine TK.seq_k fun K35 hK35 => ?_
      refine TK.cond (b := (decide (x30 < ((l19 ++ ([(Unit_api.mk (4 : Int) (0 : Int) (0 : Int) ([] : (List UInt8)))] : List Unit_api)).length : Int)))) rfl (fun hc => ?_) (fun hc => ?_)
      · have hX := ite_t hc hX
        refine TK.skip ?_
        refine hK35 _ _ ?_
        refine TK.seq_k fun K36 hK36 => ?_
        refine TK.block ?_
        refine SR fun K37 hK37 => M rfl rfl ?_
        obtain ⟨e38, he38, hX⟩ := bind_some hX
        refine P1 (p_iaO (xs := (l19 ++ ([(Unit_api.mk (4 : Int) (0 : Int) (0 : Int) ([] : (List UInt8)))] : List Unit_api))) kd97 ty42 rfl rfl rfl nd (j := 1) rfl (fun _ => he38)) rfl rfl (P1 (p_ldO (xs := (l19 ++ ([(Unit_api.mk (4 : Int) (0 : Int) (0 : Int) ([] : (List UInt8)))] : List Unit_api))) (a := e38) (e38 : Unit_api) ty42 rfl rfl nd (j := 1) rfl (fun _ => he38) rfl rfl rfl) rfl rfl ?_)
        refine TLc.alO (l := [Enc.v ((0 : Int) : Int), Enc.v ((0 : Int) : Int), Enc.v ((0 : Int) : Int), .nils]) nd ty42 ti42_z rfl rfl fun b39 nd => ?_
        refine M rfl rfl ?_
        refine TLc.stV (lu := Enc.cl (e38 : Unit_api)) nd ty42 rfl (j := 0) rfl rfl rfl (Cells_v (e38 : Unit_api)) rfl rfl [Enc.v e38.Kind, Enc.v e38.Label, Enc.v e38.Number, Enc.v e38.Load] rfl fun nd => ?_
        refine TL.nil (hK37 _ _ (SR fun K40 hK40 => M rfl rfl (M rfl rfl (M rfl rfl (P1 (p_add rfl rfl) rfl rfl (P1 (p_faV fs42_1 (by decide) rfl nd (j := 0) rfl rfl) rfl rfl ?_))))))
        refine TLc.stV (lu := Enc.cl (label1 : Int)) nd ty3 rfl (j := 0) rfl rfl rfl (Cells_v (label1 : Int)) rfl rfl [Enc.v e38.Kind, Enc.v label1, Enc.v e38.Number, Enc.v e38.Load] rfl fun nd => ?_
        refine P1 (p_faV fs42_2 (by decide) rfl nd (j := 0) rfl rfl) rfl rfl ?_
        refine TLc.stV (lu := Enc.cl ((wr (at2 + x30)) : Int)) nd ty3 rfl (j := 0) rfl rfl rfl (Cells_v ((wr (at2 + x30)) : Int)) rfl rfl [Enc.v e38.Kind, Enc.v label1, Enc.v ((wr (at2 + x30)) : Int), Enc.v e38.Load] rfl fun nd => ?_
        refine TL.nil (hK40 _ _ (SR fun K41 hK41 => P1 (p_ldVa (l' := Enc.cl ((Unit_api.mk e38.Kind label1 (wr (at2 + x30)) e38.Load) : Unit_api)) ty42 rfl rfl nd (j := 0) rfl rfl rfl rfl (Nat.le_of_ble_eq_true rfl)) rfl rfl ?_))
        obtain ⟨r42, hr42, hX⟩ := bind_some hX
        refine TL.cvX rfl rfl rfl (fun _ => ⟨rfl, ⟨rfl, trivial⟩⟩) (fun e => ok_frame_Put (Unit_api.mk e38.Kind label1 (wr (at2 + x30)) e38.Load) _ hr42) ?_
        refine M rfl rfl (P1 (p_ex rfl rfl (by decide)) rfl rfl (P1 (p_ex rfl rfl (by decide)) rfl rfl (M rfl rfl (M rfl rfl (TL.nil (hK41 _ _ ?_))))))
        refine TK.seq_k fun K43 hK43 => ?_
        refine SR fun K44 hK44 => M rfl rfl (P1 (p_neq rfl rfl) rfl rfl (TL.nil (hK44 _ _ ?_)))
        refine TK.cond (b := (r42.2 != (0 : Int))) rfl (fun hc => ?_) (fun hc => ?_)
        · have hX := ite_t hc hX
          refine SR fun K45 hK45 => M rfl rfl (M rfl rfl (M rfl rfl (TL.nil (hK45 _ _ ?_))))
          refine TK.wk 8 (L ([] : (List (List UInt8)))) rfl Wk_nil ?_
          refine TK.ret ?_
          obtain rfl := hR26 _ (some_in hX).symm
          replace hX := hA26
          try dsimp only [thenQ]
          exact retN (vs := [Enc.v (([] : (List (List UInt8))) : (List (List UInt8))), Enc.v r42.2]) ⟨rfl, rfl, trivial⟩ (by obtain rfl := some_in hX; rfl) (allVal.mem ⟨v_val _, v_val _, trivial⟩)
        · have hX := ite_f hc hX
          refine TK.skip ?_
          refine hK43 _ _ ?_
          refine TK.reg ?_
          refine M rfl rfl (M rfl rfl ?_)
          refine TLc.lit ([r42.1] : List (List UInt8)) kd26 ty24 rfl ⟨⟨rfl, rfl⟩, trivial⟩ rfl rfl rfl ?_
          obtain ⟨u46, hu46, hX⟩ := bind_some hX
          refine TLc.appO nd kd26 bo26 ty24 rfl rfl (j := 1) rfl rfl (Src_L _) (by decide) (need_t hu46) rfl fun nd => ?_
          refine M rfl rfl (TL.nil (hK36 _ _ ?_))
          refine TK.reg ?_
          refine P1 (p_add rfl rfl) rfl rfl (M rfl rfl (TL.nil ?_))
          exact ⟨_, (some_in hX).symm, b27, b29, rfl, (Nd.pick nd (is := [1, 2]) (by decide)), (HSub.pick nd (is := [1, 2]) (by decide))⟩
      · have hX := ite_f hc hX
        refine TK.exit ?_
        obtain rfl := hR26 _ (some_in hX).symm
        exact E26 out28 _ _ ⟨b27, rfl, (Nd.pick nd (is := [0]) (by decide)), (HSub.pick nd (is := [0]) (by decide))⟩ hA26
    refine TK.iter [0, 1, 3, 10] (fun s env h => match s with | (b15, l17) => ∃ b16, env = [(0, true, Enc.v label1), (1, true, Enc.v at2), (3, true, Enc.v b15), (10, true, OL b16 l17)] ∧ Nd [(b16, RL (α := Unit_api) 42 l17)] ∧ HSub [(b16, RL (α := Unit_api) 42 l17)] h) hO14 ⟨b12, rfl, (Nd.pick nd (is := [0]) (by decide)), (HSub.pick nd (is := [0]) (by decide))⟩ ?_
    rintro ⟨b15, l17⟩ env h x14x ⟨b16, rfl, nd, hs⟩ hX hR14
    refine TK.subH hs ?_
    unfold X.volume_Blocks_s14 at hX
    try dsimp only at hX
    refine TK.seq_k fun K47 hK47 => ?_
    refine SR fun K48 hK48 => M rfl rfl (P1 (p_lenL (xs := b15) kd24 rfl) rfl rfl (P1 (p_gtr rfl rfl) rfl rfl (TL.nil (hK48 _ _ ?_))))
    refine TK.cond (b := (decide ((b15.length : Int) > (0 : Int)))) rfl (fun hc => ?_) (fun hc => ?_)
    · have hX := ite_t hc hX
      refine TK.skip ?_
      refine hK47 _ _ ?_
      refine TK.seq_k fun K49 hK49 => ?_
      refine TK.block ?_
      refine TK.reg ?_
      refine M rfl rfl (M rfl rfl (M rfl rfl (P1 (p_lenL (xs := b15) kd24 rfl) rfl rfl (P1 (p_min rfl rfl) rfl rfl ?_))))
      obtain ⟨u50, hu50, hX⟩ := bind_some hX
      refine P1 (p_sliL (xs := b15) (l := (0 : Int)) (k := (min (b15.length : Int) (64 : Int))) kd24 ty5 rfl rfl rfl rfl (fun e => need_t hu50)) rfl rfl (P1 (p_bld (l := Enc.cl ((Unit_api.mk (3 : Int) (0 : Int) (0 : Int) (slc b15 (0 : Int) (min (b15.length : Int) (64 : Int)))) : Unit_api)) ty42 rfl all42 rfl (fun _ => ⟨⟨rfl, trivial, rfl⟩, ⟨rfl, trivial, rfl⟩, trivial⟩)) rfl rfl ?_)
      refine TLc.lit ([(Unit_api.mk (3 : Int) (0 : Int) (0 : Int) (slc b15 (0 : Int) (min (b15.length : Int) (64 : Int))))] : List Unit_api) kd97 ty42 rfl ⟨⟨rfl, rfl⟩, trivial⟩ rfl rfl rfl ?_
      obtain ⟨u51, hu51, hX⟩ := bind_some hX
      refine TLc.appO nd kd97 bo97 ty42 rfl rfl (j := 0) rfl rfl (Src_L _) (by decide) (need_t hu51) rfl fun nd => ?_
      refine M rfl rfl (TL.nil (hK49 _ _ ?_))
      refine TK.reg ?_
      refine M rfl rfl (M rfl rfl (P1 (p_lenL (xs := b15) kd24 rfl) rfl rfl (P1 (p_min rfl rfl) rfl rfl ?_)))
      obtain ⟨u52, hu52, hX⟩ := bind_some hX
      refine P1 (p_sliL (xs := b15) (l := (min (b15.length : Int) (64 : Int))) (k := (b15.length : Int)) kd24 ty5 rfl rfl rfl rfl (fun e => need_t hu52)) rfl rfl (M rfl rfl (TL.nil ?_))
      exact ⟨_, (some_in hX).symm, b16, rfl, (Nd.pick nd (is := [0]) (by decide)), (HSub.pick nd (is := [0]) (by decide))⟩
    · have hX := ite_f hc hX
      refine TK.exit ?_
      obtain rfl := hR14 _ (some_in hX).symm
      exact E14 l17 _ _ ⟨b16, rfl, (Nd.pick nd (is := [0]) (by decide)), (HSub.pick nd (is := [0]) (by decide))⟩ hA14

/-- cartridge/write.piece -/
theorem ok_write_piece (t1 : Tape_api) (h2 : Head_api) (b3 : (List UInt8)) (r : ((List (List UInt8)) × Int)) (hX : X.write_piece t1 h2 b3 = some r) : Fun Tryd.prog 93 [Enc.v (t1 : Tape_api), Enc.v (h2 : Head_api), Enc.v (b3 : (List UInt8))] (· = .tup 2 (ofL [Enc.v r.1, Enc.v r.2])) := by
  refine Fun.of b93 (Nat.le_of_ble_eq_true rfl) (allVal.mem ⟨(by exact (v_val _)), (by exact (v_val _)), (by exact (v_val _)), trivial⟩) ?_
  unfold k93
  have nd : Nd [] := Nd_nil
  unfold X.write_piece at hX
  refine SR fun K4 hK4 => ?_
  refine TLc.boxV (lu := [Enc.v t1.Label, Enc.v t1.Cap, Enc.v t1.Blocks, Enc.v t1.Lost]) nd rfl (Cells_v (t1 : Tape_api)) rfl ?_
  refine TLc.boxV (lu := [Enc.v h2.Path, Enc.v h2.Version, Enc.v h2.Size, Enc.v h2.From, Enc.v h2.Len, Enc.v h2.Serial, Enc.v h2.Sum, Enc.v h2.Gone]) nd rfl (Cells_v (h2 : Head_api)) rfl ?_
  refine M rfl rfl (M rfl rfl (TL.nil (hK4 _ _ (SR fun K5 hK5 => M rfl rfl (TL.nil (hK5 _ _ ?_))))))
  refine TK.ownL (α := (List UInt8)) 8 24 nd rfl (.inl rfl) fun b6 nd => ?_
  refine TK.seq_k fun K7 hK7 => ?_
  have J7 : ∀ (l9 : List (List UInt8)) (env : Env) (h : Hp), (∃ b8, keepE [2, 3, 4, 8] env = [(2, true, Enc.v b3), (3, true, .vref (ofL [Enc.v t1.Label, Enc.v t1.Cap, Enc.v t1.Blocks, Enc.v t1.Lost]) 4 0), (4, true, .vref (ofL [Enc.v h2.Path, Enc.v h2.Version, Enc.v h2.Size, Enc.v h2.From, Enc.v h2.Len, Enc.v h2.Serial, Enc.v h2.Sum, Enc.v h2.Gone]) 8 0), (8, true, OL b8 l9)] ∧ Nd [(b8, RL (α := (List UInt8)) 24 l9)] ∧ HSub [(b8, RL (α := (List UInt8)) 24 l9)] h) → X.write_piece_j7 t1 h2 b3 l9 = some r → K7 env h := by
    intro l9 env h hE hX
    obtain ⟨b8, henv, nd, hs⟩ := hE
    unfold X.write_piece_j7 at hX
    refine hK7 _ _ (TK.keep [2, 3, 4, 8] ?_)
    rw [henv]
    refine TK.subH hs ?_
    refine SR fun K10 hK10 => P1 (p_faR fs38_0 (by decide) rfl) rfl rfl (P1 (p_ldR (v := Enc.v t1.Label) ty3 rfl rfl rfl rfl rfl rfl) rfl rfl (P1 (p_faR fs38_2 (by decide) rfl) rfl rfl (P1 (p_ldR (v := Enc.v t1.Blocks) ty26 rfl rfl rfl rfl rfl rfl) rfl rfl (P1 (p_lenL (xs := t1.Blocks) kd26 rfl) rfl rfl (M rfl rfl (P1 (p_lenR kd26 rfl (fun _ => refOK_of nd (j := 0) rfl rfl)) rfl rfl ?_))))))
    refine P1 (p_add rfl rfl) rfl rfl (P1 (p_ldRa (l' := Enc.cl (h2 : Head_api)) ty23 rfl rfl rfl rfl rfl (Nat.le_of_ble_eq_true rfl)) rfl rfl (M rfl rfl ?_))
    obtain ⟨r11, hr11, hX⟩ := bind_some hX
    refine TL.cvX rfl rfl rfl (fun _ => ⟨rfl, ⟨rfl, ⟨rfl, ⟨rfl, ⟨rfl, trivial⟩⟩⟩⟩⟩) (fun e => ok_volume_Blocks t1.Label (wr ((t1.Blocks.length : Int) + (l9.length : Int))) h2 b3 _ hr11) ?_
    refine M rfl rfl (P1 (p_ex rfl rfl (by decide)) rfl rfl (P1 (p_ex rfl rfl (by decide)) rfl rfl (M rfl rfl (M rfl rfl (TL.nil (hK10 _ _ (SR fun K12 hK12 => M rfl rfl (M rfl rfl ?_))))))))
    obtain ⟨u13, hu13, hX⟩ := bind_some hX
    refine TLc.appO nd kd26 bo26 ty24 rfl rfl (j := 0) rfl rfl (Src_L _) (by decide) (need_t hu13) rfl fun nd => ?_
    refine M rfl rfl (M rfl rfl (M rfl rfl (TL.nil (hK12 _ _ ?_))))
    refine TK.lay [(6, L (l9 ++ r11.1))] nd (j := 0) rfl ⟨⟨_, rfl, fix_OL nd (j := 0) rfl, rfl⟩, trivial⟩ fun nd => ?_
    refine TK.ret ?_
    try dsimp only [thenQ]
    exact retN (vs := [Enc.v ((l9 ++ r11.1) : (List (List UInt8))), Enc.v r11.2]) ⟨rfl, rfl, trivial⟩ (by obtain rfl := some_in hX; rfl) (allVal.mem ⟨v_val _, v_val _, trivial⟩)
  refine SR fun K14 hK14 => P1 (p_faR fs38_2 (by decide) rfl) rfl rfl (P1 (p_ldR (v := Enc.v t1.Blocks) ty26 rfl rfl rfl rfl rfl rfl) rfl rfl (P1 (p_lenL (xs := t1.Blocks) kd26 rfl) rfl rfl (P1 (p_eql rfl rfl) rfl rfl (TL.nil (hK14 _ _ ?_)))))
  refine TK.cond (b := ((t1.Blocks.length : Int) == (0 : Int))) rfl (fun hc => ?_) (fun hc => ?_)
  · have hX := ite_t hc hX
    refine SR fun K15 hK15 => P1 (p_faR fs38_0 (by decide) rfl) rfl rfl (P1 (p_ldR (v := Enc.v t1.Label) ty3 rfl rfl rfl rfl rfl rfl) rfl rfl ?_)
    refine TLc.litO nd ([(68 : UInt8)] : List UInt8) kd24 ty5 rfl ⟨⟨rfl, rfl⟩, trivial⟩ rfl rfl rfl fun b16 nd => ?_
    refine TLc.cvtF (xs := ([(68 : UInt8)] : List UInt8)) nd kd24 kd5 rfl (j := 0) rfl (by simp) rfl fun nd => ?_
    refine P1 (p_bld (l := Enc.cl ((Unit_api.mk (1 : Int) t1.Label (0 : Int) ([(68 : UInt8)] : List UInt8)) : Unit_api)) ty42 rfl all42 rfl (fun _ => ⟨⟨rfl, trivial, rfl⟩, ⟨rfl, trivial, rfl⟩, ⟨rfl, trivial, rfl⟩, trivial⟩)) rfl rfl ?_
    obtain ⟨r17, hr17, hX⟩ := bind_some hX
    refine TL.cvX rfl rfl rfl (fun _ => ⟨rfl, ⟨rfl, trivial⟩⟩) (fun e => ok_frame_Put (Unit_api.mk (1 : Int) t1.Label (0 : Int) ([(68 : UInt8)] : List UInt8)) _ hr17) ?_
    refine M rfl rfl (P1 (p_ex rfl rfl (by decide)) rfl rfl (P1 (p_ex rfl rfl (by decide)) rfl rfl (M rfl rfl (M rfl rfl (TL.nil (hK15 _ _ ?_))))))
    refine TK.seq_k fun K18 hK18 => ?_
    refine SR fun K19 hK19 => M rfl rfl (P1 (p_neq rfl rfl) rfl rfl (TL.nil (hK19 _ _ ?_)))
    refine TK.cond (b := (r17.2 != (0 : Int))) rfl (fun hc => ?_) (fun hc => ?_)
    · have hX := ite_t hc hX
      refine SR fun K20 hK20 => M rfl rfl (M rfl rfl (M rfl rfl (TL.nil (hK20 _ _ ?_))))
      refine TK.wk 6 (L ([] : (List (List UInt8)))) rfl Wk_nil ?_
      refine TK.ret ?_
      try dsimp only [thenQ]
      exact retN (vs := [Enc.v (([] : (List (List UInt8))) : (List (List UInt8))), Enc.v r17.2]) ⟨rfl, rfl, trivial⟩ (by obtain rfl := some_in hX; rfl) (allVal.mem ⟨v_val _, v_val _, trivial⟩)
    · have hX := ite_f hc hX
      refine TK.skip ?_
      refine hK18 _ _ ?_
      refine TK.reg ?_
      refine M rfl rfl (M rfl rfl ?_)
      refine TLc.lit ([r17.1] : List (List UInt8)) kd26 ty24 rfl ⟨⟨rfl, rfl⟩, trivial⟩ rfl rfl rfl ?_
      obtain ⟨u21, hu21, hX⟩ := bind_some hX
      refine TLc.appO nd kd26 bo26 ty24 rfl rfl (j := 0) rfl rfl (Src_L _) (by decide) (need_t hu21) rfl fun nd => ?_
      refine M rfl rfl (TL.nil ?_)
      exact J7 (([] : List (List UInt8)) ++ ([r17.1] : List (List UInt8))) _ _ ⟨b6, rfl, (Nd.pick nd (is := [0]) (by decide)), (HSub.pick nd (is := [0]) (by decide))⟩ hX
  · have hX := ite_f hc hX
    refine TK.skip ?_
    exact J7 ([] : List (List UInt8)) _ _ ⟨b6, rfl, (Nd.pick nd (is := [0]) (by decide)), (HSub.pick nd (is := [0]) (by decide))⟩ hX

/-- cartridge/write.File -/
theorem ok_write_File (l1 : (List Tape_api)) (seals2 : (List Seal_api)) (h3 : Head_api) (b4 : (List UInt8)) (r : ((List Step_api) × Int)) (hX : X.write_File l1 seals2 h3 b4 = some r) : Fun Tryd.prog 60 [Enc.v (l1 : (List Tape_api)), Enc.v (seals2 : (List Seal_api)), Enc.v (h3 : Head_api), Enc.v (b4 : (List UInt8))] (· = .tup 2 (ofL [Enc.v r.1, Enc.v r.2])) := by
  refine Fun.of b60 (Nat.le_of_ble_eq_true rfl) (allVal.mem ⟨(by exact (v_val _)), (by exact (v_val _)), (by exact (v_val _)), (by exact (v_val _)), trivial⟩) ?_
  unfold k60
  have nd : Nd [] := Nd_nil
  unfold X.write_File at hX
  refine SR fun K5 hK5 => ?_
  refine TLc.boxO (lu := [Enc.v h3.Path, Enc.v h3.Version, Enc.v h3.Size, Enc.v h3.From, Enc.v h3.Len, Enc.v h3.Serial, Enc.v h3.Sum, Enc.v h3.Gone]) nd rfl (Cells_v (h3 : Head_api)) rfl fun b6 nd => ?_
  refine M rfl rfl (M rfl rfl (TL.nil (hK5 _ _ (SR fun K7 hK7 => M rfl rfl (M rfl rfl ?_)))))
  obtain ⟨r8, hr8, hX⟩ := bind_some hX
  refine TL.cvX rfl rfl rfl (fun _ => ⟨rfl, ⟨rfl, ⟨rfl, trivial⟩⟩⟩) (fun e => ok_write_Rooms l1 seals2 _ hr8) ?_
  refine M rfl rfl (P1 (p_lenL (xs := b4) kd24 rfl) rfl rfl ?_)
  obtain ⟨r9, hr9, hX⟩ := bind_some hX
  refine TL.cvX rfl rfl rfl (fun _ => ⟨rfl, ⟨rfl, ⟨rfl, trivial⟩⟩⟩) (fun e => ok_span_Plan r8 (b4.length : Int) _ hr9) ?_
  refine M rfl rfl (P1 (p_ex rfl rfl (by decide)) rfl rfl (P1 (p_ex rfl rfl (by decide)) rfl rfl (M rfl rfl (M rfl rfl (TL.nil (hK7 _ _ ?_))))))
  refine TK.seq_k fun K10 hK10 => ?_
  refine SR fun K11 hK11 => M rfl rfl (P1 (p_neq rfl rfl) rfl rfl (TL.nil (hK11 _ _ ?_)))
  refine TK.cond (b := (r9.2 != (0 : Int))) rfl (fun hc => ?_) (fun hc => ?_)
  · have hX := ite_t hc hX
    refine SR fun K12 hK12 => M rfl rfl (M rfl rfl (M rfl rfl (TL.nil (hK12 _ _ ?_))))
    refine TK.wk 8 (L ([] : (List Step_api))) rfl Wk_nil ?_
    refine TK.ret ?_
    try dsimp only [thenQ]
    exact retN (vs := [Enc.v (([] : (List Step_api)) : (List Step_api)), Enc.v r9.2]) ⟨rfl, rfl, trivial⟩ (by obtain rfl := some_in hX; rfl) (allVal.mem ⟨v_val _, v_val _, trivial⟩)
  · have hX := ite_f hc hX
    refine TK.skip ?_
    refine hK10 _ _ (SR fun K13 hK13 => M rfl rfl ?_)
    obtain ⟨r14, hr14, hX⟩ := bind_some hX
    refine TL.cvX rfl rfl rfl (fun _ => ⟨rfl, ⟨rfl, trivial⟩⟩) (fun e => ok_castagnoli_Sum b4 _ hr14) ?_
    refine P1 (p_cvt src106 kd3 rfl (cv_32 r14)) rfl rfl (P1 (p_faV fs23_6 (by decide) rfl nd (j := 0) rfl rfl) rfl rfl ?_)
    refine TLc.stV (lu := Enc.cl ((r14.toNat : Int) : Int)) nd ty3 rfl (j := 0) rfl rfl rfl (Cells_v ((r14.toNat : Int) : Int)) rfl rfl [Enc.v h3.Path, Enc.v h3.Version, Enc.v h3.Size, Enc.v h3.From, Enc.v h3.Len, Enc.v h3.Serial, Enc.v ((r14.toNat : Int) : Int), Enc.v h3.Gone] rfl fun nd => ?_
    refine TL.nil (hK13 _ _ ?_)
    refine TK.seq_k fun K15 hK15 => ?_
    refine SR fun K16 hK16 => P1 (p_faV fs23_2 (by decide) rfl nd (j := 0) rfl rfl) rfl rfl (P1 (p_ldV (v := Enc.v h3.Size) ty3 rfl rfl nd (j := 0) rfl rfl rfl rfl rfl) rfl rfl (M rfl rfl (P1 (p_lenL (xs := b4) kd24 rfl) rfl rfl (P1 (p_neq rfl rfl) rfl rfl (TL.nil (hK16 _ _ ?_))))))
    refine TK.cond (b := (h3.Size != (b4.length : Int))) rfl (fun hc => ?_) (fun hc => ?_)
    · have hX := ite_t hc hX
      refine SR fun K17 hK17 => M rfl rfl (M rfl rfl (TL.nil (hK17 _ _ ?_)))
      refine TK.wk 8 (L ([] : (List Step_api))) rfl Wk_nil ?_
      refine TK.ret ?_
      try dsimp only [thenQ]
      exact retN (vs := [Enc.v (([] : (List Step_api)) : (List Step_api)), Enc.v ((1 : Int) : Int)]) ⟨rfl, rfl, trivial⟩ (by obtain rfl := some_in hX; rfl) (allVal.mem ⟨v_val _, v_val _, trivial⟩)
    · have hX := ite_f hc hX
      refine TK.skip ?_
      refine hK15 _ _ (SR fun K18 hK18 => M rfl rfl (TL.nil (hK18 _ _ ?_)))
      refine TK.ownL (α := Step_api) 12 167 nd rfl (.inl rfl) fun b19 nd => ?_
      refine TK.seq_k fun K20 hK20 => ?_
      refine SR fun K21 hK21 => M rfl rfl (P1 (p_lenL (xs := r9.1) kd160 rfl) rfl rfl (M rfl rfl (TL.nil (hK21 _ _ ?_))))
      refine TK.block ?_
      obtain ⟨o22, hO22, hA22⟩ := bind_some hX
      have E22 : ∀ (l36 : List Step_api) (env : Env) (h : Hp), (∃ b35, keepE [12] env = [(12, true, OL b35 l36)] ∧ Nd [(b35, RL (α := Step_api) 167 l36)] ∧ HSub [(b35, RL (α := Step_api) 167 l36)] h) → X.write_File_e22 l36 = some r → K20 env h := by
        intro l36 env h hE hX
        obtain ⟨b35, henv, nd, hs⟩ := hE
        unfold X.write_File_e22 at hX
        refine hK20 _ _ (TK.keep [12] ?_)
        rw [henv]
        refine TK.subH hs ?_
        refine SR fun K37 hK37 => M rfl rfl (M rfl rfl (M rfl rfl (TL.nil (hK37 _ _ ?_))))
        refine TK.lay [(8, L l36)] nd (j := 0) rfl ⟨⟨_, rfl, fix_OL nd (j := 0) rfl, rfl⟩, trivial⟩ fun nd => ?_
        refine TK.ret ?_
        try dsimp only [thenQ]
        exact retN (vs := [Enc.v l36, Enc.v ((0 : Int) : Int)]) ⟨rfl, rfl, trivial⟩ (by obtain rfl := some_in hX; rfl) (allVal.mem ⟨v_val _, v_val _, trivial⟩)
      refine TK.iter [0, 3, 6, 12, 40, 41, 42] (fun s env h => match s with | (c24, c25, c26, c27, c28, c29, c30, c31, out33, x34) => ∃ b23 b32, env = [(0, true, Enc.v l1), (3, true, Enc.v b4), (6, true, .ref b23 0 8), (12, true, OL b32 out33), (40, true, Enc.v r9.1), (41, true, Enc.v ((r9.1.length : Int) : Int)), (42, true, Enc.v x34)] ∧ Nd [(b23, RV 23 [Enc.v c24, Enc.v c25, Enc.v c26, Enc.v c27, Enc.v c28, Enc.v c29, Enc.v c30, Enc.v c31]), (b32, RL (α := Step_api) 167 out33)] ∧ HSub [(b23, RV 23 [Enc.v c24, Enc.v c25, Enc.v c26, Enc.v c27, Enc.v c28, Enc.v c29, Enc.v c30, Enc.v c31]), (b32, RL (α := Step_api) 167 out33)] h) hO22 ⟨b6, b19, rfl, (Nd.pick nd (is := [1, 0]) (by decide)), (HSub.pick nd (is := [1, 0]) (by decide))⟩ ?_
      rintro ⟨c24, c25, c26, c27, c28, c29, c30, c31, out33, x34⟩ env h x22x ⟨b23, b32, rfl, nd, hs⟩ hX hR22
      refine TK.subH hs ?_
      unfold X.write_File_s22 at hX
      try dsimp only at hX
      refine SR fun K38 hK38 => P1 (p_lss rfl rfl) rfl rfl (TL.nil (hK38 _ _ ?_))
      refine TK.seq_k fun K39 hK39 => ?_
      refine TK.cond (b := (decide (x34 < (r9.1.length : Int)))) rfl (fun hc => ?_) (fun hc => ?_)
      · have hX := ite_t hc hX
        refine TK.skip ?_
        refine hK39 _ _ ?_
        refine TK.seq_k fun K40 hK40 => ?_
        refine TK.block ?_
        refine SR fun K41 hK41 => ?_
        obtain ⟨e42, he42, hX⟩ := bind_some hX
        refine P1 (p_iaL (xs := r9.1) kd160 ty164 rfl rfl rfl (fun _ => he42)) rfl rfl (P1 (p_ldE (xs := r9.1) (a := e42) (e42 : Piece_api) ty164 rfl rfl (fun _ => he42) rfl rfl rfl) rfl rfl ?_)
        refine TLc.alO (l := [Enc.v ((0 : Int) : Int), Enc.v ((0 : Int) : Int), Enc.v ((0 : Int) : Int)]) nd ty164 ti164_z rfl rfl fun b43 nd => ?_
        refine TLc.stV (lu := Enc.cl (e42 : Piece_api)) nd ty164 rfl (j := 0) rfl rfl rfl (Cells_v (e42 : Piece_api)) rfl rfl [Enc.v e42.Tape, Enc.v e42.From, Enc.v e42.Len] rfl fun nd => ?_
        refine TL.nil (hK41 _ _ ?_)
        refine TK.seq_k fun K44 hK44 => ?_
        refine TK.pick [1, 0, 2] nd (by decide) fun nd => ?_
        have ndS : Nd [(b43, RV 164 [Enc.v e42.Tape, Enc.v e42.From, Enc.v e42.Len]), (b32, RL (α := Step_api) 167 out33)] := Nd.pick nd (is := [1, 2]) (by decide)
        refine TK.drwX (h := [(b23, RV 23 [Enc.v c24, Enc.v c25, Enc.v c26, Enc.v c27, Enc.v c28, Enc.v c29, Enc.v c30, Enc.v c31])]) (hS := [(b43, RV 164 [Enc.v e42.Tape, Enc.v e42.From, Enc.v e42.Len]), (b32, RL (α := Step_api) 167 out33)]) [(0, 0), (0, 1), (0, 2), (0, 3), (1, 4), (2, 5), (1, 6), (2, 7)] mixed (by kernel_rfl) (HSub_app nd) ?_
        refine D0 rfl (p_faV fs164_1 (by decide) rfl ndS (j := 0) rfl rfl) rfl rfl ?_
        refine D0 rfl (p_ldV (v := Enc.v e42.From) ty3 rfl rfl ndS (j := 0) rfl rfl rfl rfl rfl) rfl rfl ?_
        refine D0 rfl (p_faV fs164_2 (by decide) rfl ndS (j := 0) rfl rfl) rfl rfl ?_
        refine D0 rfl (p_ldV (v := Enc.v e42.Len) ty3 rfl rfl ndS (j := 0) rfl rfl rfl rfl rfl) rfl rfl ?_
        refine DR1 (gc := true) rfl (vok_p (C := cx) (p_faV fs23_3 (by decide) rfl nd (j := 0) rfl rfl)) rfl rfl ?_
        refine DR2n rfl ?_
        refine TLc.stV (lu := Enc.cl (e42.From : Int)) nd ty3 rfl (j := 0) rfl rfl rfl (Cells_v (e42.From : Int)) rfl rfl [Enc.v c24, Enc.v c25, Enc.v c26, Enc.v e42.From, Enc.v c28, Enc.v c29, Enc.v c30, Enc.v c31] rfl fun nd => ?_
        refine TL.nil ⟨.nilp, [(b23, RV 23 [Enc.v c24, Enc.v c25, Enc.v c26, Enc.v e42.From, Enc.v c28, Enc.v c29, Enc.v c30, Enc.v c31])], rfl, rfl, HSub_app nd, ?_⟩
        refine DR1 (gc := true) rfl (vok_p (C := cx) (p_faV fs23_4 (by decide) rfl nd (j := 0) rfl rfl)) rfl rfl ?_
        refine DR2n rfl ?_
        refine TLc.stV (lu := Enc.cl (e42.Len : Int)) nd ty3 rfl (j := 0) rfl rfl rfl (Cells_v (e42.Len : Int)) rfl rfl [Enc.v c24, Enc.v c25, Enc.v c26, Enc.v e42.From, Enc.v e42.Len, Enc.v c29, Enc.v c30, Enc.v c31] rfl fun nd => ?_
        refine TL.nil ⟨.nilp, [(b23, RV 23 [Enc.v c24, Enc.v c25, Enc.v c26, Enc.v e42.From, Enc.v e42.Len, Enc.v c29, Enc.v c30, Enc.v c31])], rfl, rfl, HSub_app nd, ?_⟩
        refine DRend ?_
        refine hK44 _ _ ?_
        refine TK.seq_k fun K45 hK45 => ?_
        refine SR fun K46 hK46 => P1 (p_ldVa (l' := Enc.cl ((Head_api.mk c24 c25 c26 e42.From e42.Len c29 c30 c31) : Head_api)) ty23 rfl rfl nd (j := 0) rfl rfl rfl rfl (Nat.le_of_ble_eq_true rfl)) rfl rfl ?_
        obtain ⟨r47, hr47, hX⟩ := bind_some hX
        refine TL.cvX rfl rfl rfl (fun _ => ⟨rfl, ⟨rfl, trivial⟩⟩) (fun e => ok_record_RightHead (Head_api.mk c24 c25 c26 e42.From e42.Len c29 c30 c31) _ hr47) ?_
        refine P1 (p_not rfl) rfl rfl (TL.nil (hK46 _ _ ?_))
        refine TK.cond (b := (!r47)) rfl (fun hc => ?_) (fun hc => ?_)
        · have hX := ite_t hc hX
          refine SR fun K48 hK48 => M rfl rfl (M rfl rfl (TL.nil (hK48 _ _ ?_)))
          refine TK.wk 8 (L ([] : (List Step_api))) rfl Wk_nil ?_
          refine TK.ret ?_
          obtain rfl := hR22 _ (some_in hX).symm
          replace hX := hA22
          try dsimp only [thenQ]
          exact retN (vs := [Enc.v (([] : (List Step_api)) : (List Step_api)), Enc.v ((1 : Int) : Int)]) ⟨rfl, rfl, trivial⟩ (by obtain rfl := some_in hX; rfl) (allVal.mem ⟨v_val _, v_val _, trivial⟩)
        · have hX := ite_f hc hX
          refine TK.skip ?_
          refine hK45 _ _ ?_
          refine TK.seq_k fun K49 hK49 => ?_
          have ndS : Nd [(b23, RV 23 [Enc.v c24, Enc.v c25, Enc.v c26, Enc.v e42.From, Enc.v e42.Len, Enc.v c29, Enc.v c30, Enc.v c31]), (b43, RV 164 [Enc.v e42.Tape, Enc.v e42.From, Enc.v e42.Len]), (b32, RL (α := Step_api) 167 out33)] := Nd.pick nd (is := [0, 1, 2]) (by decide)
          refine TK.drwX (h := []) (hS := [(b23, RV 23 [Enc.v c24, Enc.v c25, Enc.v c26, Enc.v e42.From, Enc.v e42.Len, Enc.v c29, Enc.v c30, Enc.v c31]), (b43, RV 164 [Enc.v e42.Tape, Enc.v e42.From, Enc.v e42.Len]), (b32, RL (α := Step_api) 167 out33)]) [(0, 0), (0, 1), (0, 2), (0, 3), (0, 4), (0, 5), (0, 6), (0, 7), (0, 8), (0, 9), (0, 10), (0, 11), (0, 12), (0, 13), (0, 14), (0, 15), (0, 16), (0, 17), (0, 18), (0, 19), (0, 20)] mixed (by kernel_rfl) (HSub_app nd) ?_
          refine DM rfl rfl rfl ?_
          refine D0 rfl (p_faV fs164_0 (by decide) rfl ndS (j := 1) rfl rfl) rfl rfl ?_
          refine D0 rfl (p_ldV (v := Enc.v e42.Tape) ty3 rfl rfl ndS (j := 1) rfl rfl rfl rfl rfl) rfl rfl ?_
          obtain ⟨e50, he50, hX⟩ := bind_some hX
          refine D0 rfl (p_iaL (xs := l1) kd57 ty38 rfl rfl rfl (fun _ => he50)) rfl rfl ?_
          refine D0 rfl (p_ldE (xs := l1) (a := e50) (e50 : Tape_api) ty38 rfl rfl (fun _ => he50) rfl rfl rfl) rfl rfl ?_
          refine D0 rfl (p_ldVa (l' := Enc.cl ((Head_api.mk c24 c25 c26 e42.From e42.Len c29 c30 c31) : Head_api)) ty23 rfl rfl ndS (j := 0) rfl rfl rfl rfl (Nat.le_of_ble_eq_true rfl)) rfl rfl ?_
          refine DM rfl rfl rfl ?_
          refine D0 rfl (p_faV fs164_1 (by decide) rfl ndS (j := 1) rfl rfl) rfl rfl ?_
          refine D0 rfl (p_ldV (v := Enc.v e42.From) ty3 rfl rfl ndS (j := 1) rfl rfl rfl rfl rfl) rfl rfl ?_
          refine D0 rfl (p_faV fs164_1 (by decide) rfl ndS (j := 1) rfl rfl) rfl rfl ?_
          refine D0 rfl (p_ldV (v := Enc.v e42.From) ty3 rfl rfl ndS (j := 1) rfl rfl rfl rfl rfl) rfl rfl ?_
          refine D0 rfl (p_faV fs164_2 (by decide) rfl ndS (j := 1) rfl rfl) rfl rfl ?_
          refine D0 rfl (p_ldV (v := Enc.v e42.Len) ty3 rfl rfl ndS (j := 1) rfl rfl rfl rfl rfl) rfl rfl ?_
          refine D0 rfl (p_add rfl rfl) rfl rfl ?_
          obtain ⟨u51, hu51, hX⟩ := bind_some hX
          refine D0 rfl (p_sliL (xs := b4) (l := e42.From) (k := (wr (e42.From + e42.Len))) kd24 ty5 rfl rfl rfl rfl (fun e => need_t hu51)) rfl rfl ?_
          obtain ⟨r52, hr52, hX⟩ := bind_some hX
          refine DR0 (gc := true) rfl (vok_c rfl (fun _ => ⟨rfl, ⟨rfl, ⟨rfl, ⟨rfl, trivial⟩⟩⟩⟩) (fun e => ok_write_piece e50 (Head_api.mk c24 c25 c26 e42.From e42.Len c29 c30 c31) (slc b4 e42.From (wr (e42.From + e42.Len))) _ hr52)) rfl rfl ?_
          refine DM rfl rfl rfl ?_
          refine D0 rfl (p_ex rfl rfl (by decide)) rfl rfl ?_
          refine D0 rfl (p_ex rfl rfl (by decide)) rfl rfl ?_
          refine DM rfl rfl rfl ?_
          refine DM rfl rfl rfl ?_
          refine DRend ?_
          refine hK49 _ _ ?_
          refine TK.seq_k fun K53 hK53 => ?_
          refine SR fun K54 hK54 => M rfl rfl (P1 (p_neq rfl rfl) rfl rfl (TL.nil (hK54 _ _ ?_)))
          refine TK.cond (b := (r52.2 != (0 : Int))) rfl (fun hc => ?_) (fun hc => ?_)
          · have hX := ite_t hc hX
            refine SR fun K55 hK55 => M rfl rfl (M rfl rfl (M rfl rfl (TL.nil (hK55 _ _ ?_))))
            refine TK.wk 8 (L ([] : (List Step_api))) rfl Wk_nil ?_
            refine TK.ret ?_
            obtain rfl := hR22 _ (some_in hX).symm
            replace hX := hA22
            try dsimp only [thenQ]
            exact retN (vs := [Enc.v (([] : (List Step_api)) : (List Step_api)), Enc.v r52.2]) ⟨rfl, rfl, trivial⟩ (by obtain rfl := some_in hX; rfl) (allVal.mem ⟨v_val _, v_val _, trivial⟩)
          · have hX := ite_f hc hX
            refine TK.skip ?_
            refine hK53 _ _ (SR fun K56 hK56 => M rfl rfl (P1 (p_lenL (xs := r52.1) kd26 rfl) rfl rfl (M rfl rfl (TL.nil (hK56 _ _ ?_)))))
            refine TK.block ?_
            obtain ⟨o57, hO57, hA57⟩ := bind_some hX
            have E57 : ∀ (l65 : List Step_api) (env : Env) (h : Hp), (∃ b63 b64, keepE [0, 3, 6, 12, 40, 41, 42] env = [(0, true, Enc.v l1), (3, true, Enc.v b4), (6, true, .ref b63 0 8), (12, true, OL b64 l65), (40, true, Enc.v r9.1), (41, true, Enc.v ((r9.1.length : Int) : Int)), (42, true, Enc.v x34)] ∧ Nd [(b63, RV 23 [Enc.v c24, Enc.v c25, Enc.v c26, Enc.v e42.From, Enc.v e42.Len, Enc.v c29, Enc.v c30, Enc.v c31]), (b64, RL (α := Step_api) 167 l65)] ∧ HSub [(b63, RV 23 [Enc.v c24, Enc.v c25, Enc.v c26, Enc.v e42.From, Enc.v e42.Len, Enc.v c29, Enc.v c30, Enc.v c31]), (b64, RL (α := Step_api) 167 l65)] h) → X.write_File_e57 c24 c25 c26 e42 c29 c30 c31 x34 l65 = some x22x → K40 env h := by
              intro l65 env h hE hX
              obtain ⟨b63, b64, henv, nd, hs⟩ := hE
              unfold X.write_File_e57 at hX
              refine hK40 _ _ (TK.keep [0, 3, 6, 12, 40, 41, 42] ?_)
              rw [henv]
              refine TK.subH hs ?_
              refine TK.reg ?_
              refine P1 (p_add rfl rfl) rfl rfl (M rfl rfl (TL.nil ?_))
              exact ⟨_, (some_in hX).symm, b63, b64, rfl, (Nd.pick nd (is := [0, 1]) (by decide)), (HSub.pick nd (is := [0, 1]) (by decide))⟩
            refine TK.iter [0, 3, 6, 12, 14, 40, 41, 42, 77, 78, 79] (fun s env h => match s with | (out60, x62) => ∃ b58 b59 b61, env = [(0, true, Enc.v l1), (3, true, Enc.v b4), (6, true, .ref b58 0 8), (12, true, OL b59 out60), (14, true, .ref b61 0 3), (40, true, Enc.v r9.1), (41, true, Enc.v ((r9.1.length : Int) : Int)), (42, true, Enc.v x34), (77, true, Enc.v r52.1), (78, true, Enc.v ((r52.1.length : Int) : Int)), (79, true, Enc.v x62)] ∧ Nd [(b58, RV 23 [Enc.v c24, Enc.v c25, Enc.v c26, Enc.v e42.From, Enc.v e42.Len, Enc.v c29, Enc.v c30, Enc.v c31]), (b59, RL (α := Step_api) 167 out60), (b61, RV 164 [Enc.v e42.Tape, Enc.v e42.From, Enc.v e42.Len])] ∧ HSub [(b58, RV 23 [Enc.v c24, Enc.v c25, Enc.v c26, Enc.v e42.From, Enc.v e42.Len, Enc.v c29, Enc.v c30, Enc.v c31]), (b59, RL (α := Step_api) 167 out60), (b61, RV 164 [Enc.v e42.Tape, Enc.v e42.From, Enc.v e42.Len])] h) hO57 ⟨b23, b32, b43, rfl, (Nd.pick nd (is := [0, 2, 1]) (by decide)), (HSub.pick nd (is := [0, 2, 1]) (by decide))⟩ ?_
            rintro ⟨out60, x62⟩ env h x57x ⟨b58, b59, b61, rfl, nd, hs⟩ hX hR57
            refine TK.subH hs ?_
            unfold X.write_File_s57 at hX
            try dsimp only at hX
            refine SR fun K66 hK66 => P1 (p_lss rfl rfl) rfl rfl (TL.nil (hK66 _ _ ?_))
            refine TK.seq_k fun K67 hK67 => ?_
            refine TK.cond (b := (decide (x62 < (r52.1.length : Int)))) rfl (fun hc => ?_) (fun hc => ?_)
            · have hX := ite_t hc hX
              refine TK.skip ?_
              refine hK67 _ _ ?_
              refine TK.seq_k fun K68 hK68 => ?_
              refine TK.block ?_
              refine SR fun K69 hK69 => ?_
              obtain ⟨e70, he70, hX⟩ := bind_some hX
              refine P1 (p_iaL (xs := r52.1) kd26 ty24 rfl rfl rfl (fun _ => he70)) rfl rfl (P1 (p_ldE (xs := r52.1) (a := e70) (e70 : (List UInt8)) ty24 rfl rfl (fun _ => he70) rfl rfl rfl) rfl rfl (M rfl rfl (TL.nil (hK69 _ _ ?_))))
              refine TK.reg ?_
              refine M rfl rfl (P1 (p_faV fs164_0 (by decide) rfl nd (j := 2) rfl rfl) rfl rfl (P1 (p_ldV (v := Enc.v e42.Tape) ty3 rfl rfl nd (j := 2) rfl rfl rfl rfl rfl) rfl rfl (M rfl rfl (P1 (p_bld (l := Enc.cl ((Step_api.mk e42.Tape e70) : Step_api)) ty167 rfl all167 rfl (fun _ => ⟨⟨rfl, trivial, rfl⟩, ⟨rfl, trivial, rfl⟩, trivial⟩)) rfl rfl ?_))))
              refine TLc.lit ([(Step_api.mk e42.Tape e70)] : List Step_api) kd117 ty167 rfl ⟨⟨rfl, rfl⟩, trivial⟩ rfl rfl rfl ?_
              obtain ⟨u71, hu71, hX⟩ := bind_some hX
              refine TLc.appO nd kd117 bo117 ty167 rfl rfl (j := 1) rfl rfl (Src_L _) (by decide) (need_t hu71) rfl fun nd => ?_
              refine M rfl rfl (TL.nil (hK68 _ _ ?_))
              refine TK.reg ?_
              refine P1 (p_add rfl rfl) rfl rfl (M rfl rfl (TL.nil ?_))
              exact ⟨_, (some_in hX).symm, b58, b59, b61, rfl, (Nd.pick nd (is := [0, 1, 2]) (by decide)), (HSub.pick nd (is := [0, 1, 2]) (by decide))⟩
            · have hX := ite_f hc hX
              refine TK.exit ?_
              obtain rfl := hR57 _ (some_in hX).symm
              exact E57 out60 _ _ ⟨b58, b59, rfl, (Nd.pick nd (is := [0, 1]) (by decide)), (HSub.pick nd (is := [0, 1]) (by decide))⟩ hA57
      · have hX := ite_f hc hX
        refine TK.exit ?_
        obtain rfl := hR22 _ (some_in hX).symm
        exact E22 out33 _ _ ⟨b32, rfl, (Nd.pick nd (is := [1]) (by decide)), (HSub.pick nd (is := [1]) (by decide))⟩ hA22

/-- slices.Clone[[][]byte,[]byte] -/
theorem ok_slices_Clone_LLbyte_Lbyte_or (s1 : (List (List UInt8))) (nd : Nd []) (r : (List (List UInt8))) (hX : X.slices_Clone_LLbyte_Lbyte_or s1 = some r) : TCX Tryd.prog 147 [Enc.v (s1 : (List (List UInt8)))] [] (fun rv h' => ∃ b11, rv = OL (α := (List UInt8)) b11 r ∧ h' = [(b11, RL (α := (List UInt8)) 24 r)]) := by
  refine TCX.of b147 (Nat.le_of_ble_eq_true rfl) ?_
  unfold k147
  unfold X.slices_Clone_LLbyte_Lbyte_or at hX
  refine SR fun K2 hK2 => M rfl rfl (TL.nil (hK2 _ _ ?_))
  refine TK.seq_k fun K3 hK3 => ?_
  refine SR fun K4 hK4 => M rfl rfl ?_
  refine TLc.eqNilU (xs := s1) kd26 rfl rfl rfl fun z5 hbz5 => ?_
  replace hX := nilU_t hX hbz5
  refine TL.nil (hK4 _ _ ?_)
  refine TK.cond (b := z5) rfl (fun hc => ?_) (fun hc => ?_)
  · have hX := ite_t hc hX
    refine SR fun K6 hK6 => M rfl rfl (TL.nil (hK6 _ _ ?_))
    refine TK.ownL (α := (List UInt8)) 2 24 nd rfl (.inl rfl) fun b7 nd => ?_
    refine TK.ret ?_
    try dsimp only [thenQ]
    exact retX (v := OL (α := (List UInt8)) b7 ([] : List (List UInt8))) (res1 rfl) (by obtain rfl := some_in hX; exact ⟨b7, rfl, rfl⟩) nd (inH_rs nd (j := 0) rfl) ⟨rowIn_RL, trivial⟩
  · have hX := ite_f hc hX
    refine TK.skip ?_
    refine hK3 _ _ (SR fun K8 hK8 => ?_)
    refine TLc.litZ kd26 ty24 rfl ?_
    refine M rfl rfl ?_
    obtain ⟨u9, hu9, hX⟩ := bind_some hX
    refine TLc.appN nd kd26 bo26 ty24 rfl rfl (.inr rfl) rfl (Src_L _) (by decide) (need_t hu9) rfl fun b10 nd => ?_
    refine M rfl rfl (TL.nil (hK8 _ _ ?_))
    refine TK.ret ?_
    try dsimp only [thenQ]
    exact retX (v := OL b10 s1) (res1 rfl) (by obtain rfl := some_in hX; exact ⟨b10, rfl, rfl⟩) nd (inH_rs nd (j := 0) rfl) ⟨rowIn_RL, trivial⟩

/-- cartridge/tape.Clone -/
theorem bc_tape_Clone : BodyC cx 120 25 [.c 2 38] k120 := ⟨Enters.of Tryd.func120 (by kernel_rfl) (by kernel_rfl), _, _, Tryd.func120, rfl, by kernel_rfl, rfl, rfl⟩
theorem ok_tape_Clone (t1 : Tape_api) (r : Tape_api) (hX : X.tape_Clone t1 = some r) : Fun Tryd.prog 120 [Enc.v (t1 : Tape_api)] (· = Enc.v (r : Tape_api)) := by
  refine Fun.ofC (C := cx) bc_tape_Clone (Nat.le_of_ble_eq_true rfl) (allVal.mem ⟨(by exact (v_val _)), trivial⟩) ?_
  unfold k120
  have nd : Nd [] := Nd_nil
  unfold X.tape_Clone at hX
  refine SR fun K2 hK2 => ?_
  refine TLc.boxO (lu := [Enc.v t1.Label, Enc.v t1.Cap, Enc.v t1.Blocks, Enc.v t1.Lost]) nd rfl (Cells_v (t1 : Tape_api)) rfl fun b3 nd => ?_
  refine TLc.alO (l := [Enc.v ((0 : Int) : Int), Enc.v ((0 : Int) : Int), .nils, Enc.v false]) nd ty38 ti38_z rfl rfl fun b4 nd => ?_
  refine TL.nil (hK2 _ _ ?_)
  refine TK.cvR nd (j := 0) rfl (l' := [Enc.v ((0 : Int) : Int), Enc.v ((0 : Int) : Int), Enc.v (([] : (List (List UInt8))) : (List (List UInt8))), Enc.v false]) ⟨Wk.refl _, Wk.refl _, Wk_nil, Wk.refl _, trivial⟩ fun nd => ?_
  refine SR fun K5 hK5 => P1 (p_faV fs38_2 (by decide) rfl nd (j := 1) rfl rfl) rfl rfl (P1 (p_ldV (v := Enc.v t1.Blocks) ty26 rfl rfl nd (j := 1) rfl rfl rfl rfl rfl) rfl rfl ?_)
  obtain ⟨r6, hr6, hX⟩ := bind_some hX
  refine TL.tcX [] [(b4, RV 38 [Enc.v ((0 : Int) : Int), Enc.v ((0 : Int) : Int), Enc.v (([] : (List (List UInt8))) : (List (List UInt8))), Enc.v false]), (b3, RV 38 [Enc.v t1.Label, Enc.v t1.Cap, Enc.v t1.Blocks, Enc.v t1.Lost])] rfl nd (dlt rfl) rfl ⟨rfl, ⟨rfl, trivial⟩⟩ (ok_slices_Clone_LLbyte_Lbyte_or t1.Blocks (Nd.take nd 0 rfl) _ hr6) ?_
  rintro _ _ hQ nd
  obtain ⟨b7, rfl, rfl⟩ := hQ
  refine P1 (p_faV fs38_2 (by decide) rfl nd (j := 2) rfl rfl) rfl rfl ?_
  refine TLc.stV (lu := [OL b7 r6]) nd ty26 rfl (j := 2) rfl rfl rfl (Cells_rs (refOK_of nd (j := 0) rfl rfl)) rfl rfl [Enc.v t1.Label, Enc.v t1.Cap, OL b7 r6, Enc.v t1.Lost] rfl fun nd => ?_
  refine TL.nil (hK5 _ _ ?_)
  refine TK.seq_k fun K8 hK8 => ?_
  refine SR fun K9 hK9 => P1 (p_faV fs38_2 (by decide) rfl nd (j := 2) rfl rfl) rfl rfl (P1 (p_ldV (v := OL b7 r6) ty26 rfl rfl nd (j := 2) rfl rfl rfl rfl rfl) rfl rfl (P1 (p_lenR kd26 rfl (fun _ => refOK_of nd (j := 0) rfl rfl)) rfl rfl (M rfl rfl (TL.nil (hK9 _ _ ?_)))))
  refine TK.block ?_
  obtain ⟨o10, hO10, hA10⟩ := bind_some hX
  have E10 : ∀ (l18 : List (List UInt8)) (env : Env) (h : Hp), (∃ b17 b16 b19, keepE [1, 2] env = [(1, true, .ref b16 0 4), (2, true, .ref b19 0 4)] ∧ Nd [(b17, RL (α := (List UInt8)) 24 l18), (b16, RV 38 [Enc.v t1.Label, Enc.v t1.Cap, OL b17 l18, Enc.v t1.Lost]), (b19, RV 38 [Enc.v ((0 : Int) : Int), Enc.v ((0 : Int) : Int), Enc.v (([] : (List (List UInt8))) : (List (List UInt8))), Enc.v false])] ∧ HSub [(b17, RL (α := (List UInt8)) 24 l18), (b16, RV 38 [Enc.v t1.Label, Enc.v t1.Cap, OL b17 l18, Enc.v t1.Lost]), (b19, RV 38 [Enc.v ((0 : Int) : Int), Enc.v ((0 : Int) : Int), Enc.v (([] : (List (List UInt8))) : (List (List UInt8))), Enc.v false])] h) → X.tape_Clone_e10 t1 l18 = some r → K8 env h := by
    intro l18 env h hE hX
    obtain ⟨b17, b16, b19, henv, nd, hs⟩ := hE
    unfold X.tape_Clone_e10 at hX
    refine hK8 _ _ (TK.keep [1, 2] ?_)
    rw [henv]
    refine TK.subH hs ?_
    refine SR fun K20 hK20 => ?_
    refine TL.layR (l2' := [Enc.v t1.Label, Enc.v t1.Cap, Enc.v l18, Enc.v t1.Lost]) [] nd (j := 0) rfl 1 rfl rfl ⟨fix_id _, fix_id _, fix_OL nd (j := 0) rfl, fix_id _, trivial⟩ trivial fun nd => ?_
    refine P1 (p_ldVa (l' := Enc.cl ((Tape_api.mk t1.Label t1.Cap l18 t1.Lost) : Tape_api)) ty38 rfl rfl nd (j := 0) rfl rfl rfl rfl (Nat.le_of_ble_eq_true rfl)) rfl rfl ?_
    refine TLc.stV (lu := Enc.cl ((Tape_api.mk t1.Label t1.Cap l18 t1.Lost) : Tape_api)) nd ty38 rfl (j := 1) rfl rfl rfl (Cells_v ((Tape_api.mk t1.Label t1.Cap l18 t1.Lost) : Tape_api)) rfl rfl [Enc.v ((Tape_api.mk t1.Label t1.Cap l18 t1.Lost).Label : Int), Enc.v ((Tape_api.mk t1.Label t1.Cap l18 t1.Lost).Cap : Int), Enc.v ((Tape_api.mk t1.Label t1.Cap l18 t1.Lost).Blocks : (List (List UInt8))), Enc.v ((Tape_api.mk t1.Label t1.Cap l18 t1.Lost).Lost : Bool)] rfl fun nd => ?_
    refine TL.nil (hK20 _ _ ?_)
    refine TK.ret ?_
    try dsimp only [thenQ]
    exact retC [Enc.v ((Tape_api.mk t1.Label t1.Cap l18 t1.Lost) : Tape_api)] ⟨p_ldVa (l' := Enc.cl ((Tape_api.mk t1.Label t1.Cap l18 t1.Lost) : Tape_api)) ty38 rfl rfl nd (j := 1) rfl rfl rfl rfl (Nat.le_of_ble_eq_true rfl), trivial⟩ (by obtain rfl := some_in hX; rfl) (v_val _)
  refine TK.iter [1, 2, 10, 11, 12] (fun s env h => match s with | (l13, x15) => ∃ b12 b11 b14, env = [(1, true, .ref b11 0 4), (2, true, .ref b14 0 4), (10, true, OL b12 l13), (11, true, Enc.v ((r6.length : Int) : Int)), (12, true, Enc.v x15)] ∧ Nd [(b12, RL (α := (List UInt8)) 24 l13), (b11, RV 38 [Enc.v t1.Label, Enc.v t1.Cap, OL b12 l13, Enc.v t1.Lost]), (b14, RV 38 [Enc.v ((0 : Int) : Int), Enc.v ((0 : Int) : Int), Enc.v (([] : (List (List UInt8))) : (List (List UInt8))), Enc.v false])] ∧ HSub [(b12, RL (α := (List UInt8)) 24 l13), (b11, RV 38 [Enc.v t1.Label, Enc.v t1.Cap, OL b12 l13, Enc.v t1.Lost]), (b14, RV 38 [Enc.v ((0 : Int) : Int), Enc.v ((0 : Int) : Int), Enc.v (([] : (List (List UInt8))) : (List (List UInt8))), Enc.v false])] h) hO10 ⟨b7, b3, b4, rfl, (Nd.pick nd (is := [0, 2, 1]) (by decide)), (HSub.pick nd (is := [0, 2, 1]) (by decide))⟩ ?_
  rintro ⟨l13, x15⟩ env h x10x ⟨b12, b11, b14, rfl, nd, hs⟩ hX hR10
  refine TK.subH hs ?_
  unfold X.tape_Clone_s10 at hX
  try dsimp only at hX
  refine SR fun K21 hK21 => P1 (p_lss rfl rfl) rfl rfl (TL.nil (hK21 _ _ ?_))
  refine TK.seq_k fun K22 hK22 => ?_
  refine TK.cond (b := (decide (x15 < (r6.length : Int)))) rfl (fun hc => ?_) (fun hc => ?_)
  · have hX := ite_t hc hX
    refine TK.skip ?_
    refine hK22 _ _ ?_
    refine TK.seq_k fun K23 hK23 => ?_
    refine TK.block ?_
    refine SR fun K24 hK24 => M rfl rfl ?_
    obtain ⟨e25, he25, hX⟩ := bind_some hX
    refine P1 (p_iaO (xs := l13) kd26 ty24 rfl rfl rfl nd (j := 0) rfl (fun _ => he25)) rfl rfl (P1 (p_ldO (xs := l13) (a := e25) (e25 : (List UInt8)) ty24 rfl rfl nd (j := 0) rfl (fun _ => he25) rfl rfl rfl) rfl rfl (M rfl rfl (M rfl rfl (TL.nil (hK24 _ _ ?_)))))
    have ndS : Nd [(b14, RV 38 [Enc.v ((0 : Int) : Int), Enc.v ((0 : Int) : Int), Enc.v (([] : (List (List UInt8))) : (List (List UInt8))), Enc.v false])] := Nd.pick nd (is := [2]) (by decide)
    refine TK.endK fun KD hKD => ?_
    refine TK.drwX (h := [(b12, RL (α := (List UInt8)) 24 l13), (b11, RV 38 [Enc.v t1.Label, Enc.v t1.Cap, OL b12 l13, Enc.v t1.Lost])]) (hS := [(b14, RV 38 [Enc.v ((0 : Int) : Int), Enc.v ((0 : Int) : Int), Enc.v (([] : (List (List UInt8))) : (List (List UInt8))), Enc.v false])]) [(1, 0), (1, 1), (0, 2), (0, 3), (0, 4), (1, 5), (2, 6)] mixed (by kernel_rfl) (HSub_app nd) ?_
    refine DR1 (gc := true) rfl (vok_p (C := cx) (p_faV fs38_2 (by decide) rfl nd (j := 1) rfl rfl)) rfl rfl ?_
    refine DR1 (gc := true) rfl (vok_p (C := cx) (p_ldV (v := OL b12 l13) ty26 rfl rfl nd (j := 1) rfl rfl rfl rfl rfl)) rfl rfl ?_
    refine DM rfl rfl rfl ?_
    refine DM rfl rfl rfl ?_
    obtain ⟨r26, hr26, hX⟩ := bind_some hX
    refine DR0 (gc := true) rfl (vok_c rfl (fun _ => ⟨rfl, ⟨rfl, trivial⟩⟩) (fun e => ok_slices_Clone_Lbyte_byte e25 _ hr26)) rfl rfl ?_
    obtain ⟨e27, he27, hX⟩ := bind_some hX
    refine DR1 (gc := true) rfl (vok_p (C := cx) (p_iaO (xs := l13) kd26 ty24 rfl rfl rfl nd (j := 0) rfl (fun _ => he27))) rfl rfl ?_
    refine DR2n rfl ?_
    refine TLc.stW (xs := l13) (i := x15) (lu := Enc.cl (r26 : (List UInt8))) (a' := r26) nd ty24 rfl (j := 0) rfl (by simp [Enc.sz]) (inb_of he27 (by simp)) rfl (Cells_v (r26 : (List UInt8))) rfl (WkL_refl _) fun nd => ?_
    refine TL.cvR nd (j := 1) rfl (l' := [Enc.v t1.Label, Enc.v t1.Cap, OL (α := (List UInt8)) b12 (l13.set x15.toNat r26), Enc.v t1.Lost]) ⟨Wk.refl _, Wk.refl _, Wk_eq (OL_len (by simp)), Wk.refl _, trivial⟩ fun nd => ?_
    refine TL.nil ⟨.nilp, [(b12, RL (α := (List UInt8)) 24 (l13.set x15.toNat r26)), (b11, RV 38 [Enc.v t1.Label, Enc.v t1.Cap, OL (α := (List UInt8)) b12 (l13.set x15.toNat r26), Enc.v t1.Lost])], rfl, rfl, HSub_app nd, ?_⟩
    refine DRend ?_
    refine hKD _ _ ?_
    refine TL.cv 10 (OL (α := (List UInt8)) b12 (l13.set x15.toNat r26)) rfl (Wk_eq (OL_len (by simp))) ?_
    refine TL.nil (hK23 _ _ ?_)
    refine TK.reg ?_
    refine P1 (p_add rfl rfl) rfl rfl (M rfl rfl (TL.nil ?_))
    exact ⟨_, (some_in hX).symm, b12, b11, b14, rfl, (Nd.pick nd (is := [0, 1, 2]) (by decide)), (HSub.pick nd (is := [0, 1, 2]) (by decide))⟩
  · have hX := ite_f hc hX
    refine TK.exit ?_
    obtain rfl := hR10 _ (some_in hX).symm
    exact E10 l13 _ _ ⟨b12, b11, b14, rfl, (Nd.pick nd (is := [0, 1, 2]) (by decide)), (HSub.pick nd (is := [0, 1, 2]) (by decide))⟩ hA10

/-- cartridge/tape.CloneAll -/
theorem ok_tape_CloneAll_or (l1 : (List Tape_api)) (nd : Nd []) (r : (List Tape_api)) (hX : X.tape_CloneAll_or l1 = some r) : TCX Tryd.prog 94 [Enc.v (l1 : (List Tape_api))] [] (fun rv h' => ∃ b22, rv = OL (α := Tape_api) b22 r ∧ h' = [(b22, RL (α := Tape_api) 38 r)]) := by
  refine TCX.of b94 (Nat.le_of_ble_eq_true rfl) ?_
  unfold k94
  unfold X.tape_CloneAll_or at hX
  refine SR fun K2 hK2 => M rfl rfl (TL.nil (hK2 _ _ (SR fun K3 hK3 => M rfl rfl (TL.nil (hK3 _ _ ?_)))))
  refine TK.ownL (α := Tape_api) 3 38 nd rfl (.inl rfl) fun b4 nd => ?_
  refine TK.seq_k fun K5 hK5 => ?_
  refine SR fun K6 hK6 => M rfl rfl (P1 (p_lenL (xs := l1) kd57 rfl) rfl rfl (M rfl rfl (TL.nil (hK6 _ _ ?_))))
  refine TK.block ?_
  obtain ⟨o7, hO7, hA7⟩ := bind_some hX
  have E7 : ∀ (l12 : List Tape_api) (env : Env) (h : Hp), (∃ b11, keepE [3] env = [(3, true, OL b11 l12)] ∧ Nd [(b11, RL (α := Tape_api) 38 l12)] ∧ HSub [(b11, RL (α := Tape_api) 38 l12)] h) → X.tape_CloneAll_or_e7 l12 = some r → K5 env h := by
    intro l12 env h hE hX
    obtain ⟨b11, henv, nd, hs⟩ := hE
    unfold X.tape_CloneAll_or_e7 at hX
    refine hK5 _ _ (TK.keep [3] ?_)
    rw [henv]
    refine TK.subH hs ?_
    refine SR fun K13 hK13 => M rfl rfl (M rfl rfl (TL.nil (hK13 _ _ ?_)))
    refine TK.ret ?_
    try dsimp only [thenQ]
    exact retX (v := OL b11 l12) (res1 rfl) (by obtain rfl := some_in hX; exact ⟨b11, rfl, rfl⟩) nd (inH_rs nd (j := 0) rfl) ⟨rowIn_RL, trivial⟩
  refine TK.iter [3, 6, 7, 8] (fun s env h => match s with | (out9, x10) => ∃ b8, env = [(3, true, OL b8 out9), (6, true, Enc.v l1), (7, true, Enc.v ((l1.length : Int) : Int)), (8, true, Enc.v x10)] ∧ Nd [(b8, RL (α := Tape_api) 38 out9)] ∧ HSub [(b8, RL (α := Tape_api) 38 out9)] h) hO7 ⟨b4, rfl, (Nd.pick nd (is := [0]) (by decide)), (HSub.pick nd (is := [0]) (by decide))⟩ ?_
  rintro ⟨out9, x10⟩ env h x7x ⟨b8, rfl, nd, hs⟩ hX hR7
  refine TK.subH hs ?_
  unfold X.tape_CloneAll_or_s7 at hX
  try dsimp only at hX
  refine SR fun K14 hK14 => P1 (p_lss rfl rfl) rfl rfl (TL.nil (hK14 _ _ ?_))
  refine TK.seq_k fun K15 hK15 => ?_
  refine TK.cond (b := (decide (x10 < (l1.length : Int)))) rfl (fun hc => ?_) (fun hc => ?_)
  · have hX := ite_t hc hX
    refine TK.skip ?_
    refine hK15 _ _ ?_
    refine TK.seq_k fun K16 hK16 => ?_
    refine TK.block ?_
    refine SR fun K17 hK17 => ?_
    obtain ⟨e18, he18, hX⟩ := bind_some hX
    refine P1 (p_iaL (xs := l1) kd57 ty38 rfl rfl rfl (fun _ => he18)) rfl rfl (P1 (p_ldE (xs := l1) (a := e18) (e18 : Tape_api) ty38 rfl rfl (fun _ => he18) rfl rfl rfl) rfl rfl ?_)
    refine TLc.alO (l := [Enc.v ((0 : Int) : Int), Enc.v ((0 : Int) : Int), .nils, Enc.v false]) nd ty38 ti38_z rfl rfl fun b19 nd => ?_
    refine TLc.stV (lu := Enc.cl (e18 : Tape_api)) nd ty38 rfl (j := 0) rfl rfl rfl (Cells_v (e18 : Tape_api)) rfl rfl [Enc.v e18.Label, Enc.v e18.Cap, Enc.v e18.Blocks, Enc.v e18.Lost] rfl fun nd => ?_
    refine TL.nil (hK17 _ _ ?_)
    refine TK.reg ?_
    refine M rfl rfl (P1 (p_ldVa (l' := Enc.cl (e18 : Tape_api)) ty38 rfl rfl nd (j := 0) rfl rfl rfl rfl (Nat.le_of_ble_eq_true rfl)) rfl rfl ?_)
    obtain ⟨r20, hr20, hX⟩ := bind_some hX
    refine TL.cvX rfl rfl rfl (fun _ => ⟨rfl, ⟨rfl, trivial⟩⟩) (fun e => ok_tape_Clone e18 _ hr20) ?_
    refine TLc.lit ([r20] : List Tape_api) kd57 ty38 rfl ⟨⟨rfl, rfl⟩, trivial⟩ rfl rfl rfl ?_
    obtain ⟨u21, hu21, hX⟩ := bind_some hX
    refine TLc.appO nd kd57 bo57 ty38 rfl rfl (j := 1) rfl rfl (Src_L _) (by decide) (need_t hu21) rfl fun nd => ?_
    refine M rfl rfl (TL.nil (hK16 _ _ ?_))
    refine TK.reg ?_
    refine P1 (p_add rfl rfl) rfl rfl (M rfl rfl (TL.nil ?_))
    exact ⟨_, (some_in hX).symm, b8, rfl, (Nd.pick nd (is := [1]) (by decide)), (HSub.pick nd (is := [1]) (by decide))⟩
  · have hX := ite_f hc hX
    refine TK.exit ?_
    obtain rfl := hR7 _ (some_in hX).symm
    exact E7 out9 _ _ ⟨b8, rfl, (Nd.pick nd (is := [0]) (by decide)), (HSub.pick nd (is := [0]) (by decide))⟩ hA7

/-- slices.IndexFunc[[][]byte,[]byte] -/
theorem ok_slices_IndexFunc_LLbyte_Lbyte (s1 : (List (List UInt8))) (g2 : (List UInt8) → Option Bool) (r : Int) (hX : X.slices_IndexFunc_LLbyte_Lbyte s1 g2 = some r) {g2V : AV} (hg2V : ∃ f m c, g2V = .fn f m c ∧ (∀ i, i < m → (c i).val) ∧ ∀ (a0 : (List UInt8)) r, g2 a0 = some r → Fun Tryd.prog f ([Enc.v a0] ++ (List.range m).map c) (· = Enc.v r)) : Fun Tryd.prog 164 [Enc.v (s1 : (List (List UInt8))), g2V] (· = Enc.v (r : Int)) := by
  obtain ⟨g2f, g2m, g2c, rfl, hg2v, hg2⟩ := hg2V
  refine Fun.of b164 (Nat.le_of_ble_eq_true rfl) (allVal.mem ⟨(by exact (v_val _)), hg2v, trivial⟩) ?_
  unfold k164
  have nd : Nd [] := Nd_nil
  unfold X.slices_IndexFunc_LLbyte_Lbyte at hX
  refine SR fun K3 hK3 => M rfl rfl (TL.nil (hK3 _ _ ?_))
  refine TK.seq_k fun K4 hK4 => ?_
  refine SR fun K5 hK5 => M rfl rfl (P1 (p_lenL (xs := s1) kd26 rfl) rfl rfl (M rfl rfl (TL.nil (hK5 _ _ ?_))))
  refine TK.block ?_
  obtain ⟨o6, hO6, hA6⟩ := bind_some hX
  have E6 : ∀ (env : Env) (h : Hp), (∃ _u : Unit, keepE [] env = [] ∧ Nd [] ∧ HSub [] h) → X.slices_IndexFunc_LLbyte_Lbyte_e6 = some r → K4 env h := by
    intro  env h hE hX
    obtain ⟨_u, henv, nd, hs⟩ := hE
    unfold X.slices_IndexFunc_LLbyte_Lbyte_e6 at hX
    refine hK4 _ _ (TK.keep [] ?_)
    rw [henv]
    refine TK.subH hs ?_
    refine SR fun K8 hK8 => M rfl rfl (TL.nil (hK8 _ _ ?_))
    refine TK.ret ?_
    try dsimp only [thenQ]
    exact R1 rfl hX
  refine TK.iter [0, 1, 7, 8] (fun s env h => match s with | x7 => ∃ _u : Unit, env = [(0, true, Enc.v s1), (1, true, .fn g2f g2m g2c), (7, true, Enc.v ((s1.length : Int) : Int)), (8, true, Enc.v x7)] ∧ Nd [] ∧ HSub [] h) hO6 ⟨(), rfl, Nd_nil, HSub.refl _⟩ ?_
  rintro x7 env h x6x ⟨_u, rfl, nd, hs⟩ hX hR6
  refine TK.subH hs ?_
  unfold X.slices_IndexFunc_LLbyte_Lbyte_s6 at hX
  try dsimp only at hX
  refine SR fun K9 hK9 => P1 (p_lss rfl rfl) rfl rfl (TL.nil (hK9 _ _ ?_))
  refine TK.seq_k fun K10 hK10 => ?_
  refine TK.cond (b := (decide (x7 < (s1.length : Int)))) rfl (fun hc => ?_) (fun hc => ?_)
  · have hX := ite_t hc hX
    refine TK.skip ?_
    refine hK10 _ _ ?_
    refine TK.seq_k fun K11 hK11 => ?_
    refine TK.block ?_
    refine SR fun K12 hK12 => M rfl rfl (M rfl rfl (TL.nil (hK12 _ _ (SR fun K13 hK13 => M rfl rfl (M rfl rfl (M rfl rfl ?_))))))
    obtain ⟨e14, he14, hX⟩ := bind_some hX
    refine P1 (p_iaL (xs := s1) kd26 ty24 rfl rfl rfl (fun _ => he14)) rfl rfl (P1 (p_ldE (xs := s1) (a := e14) (e14 : (List UInt8)) ty24 rfl rfl (fun _ => he14) rfl rfl rfl) rfl rfl ?_)
    obtain ⟨r15, hr15, hX⟩ := bind_some hX
    refine TL.cvX rfl rfl rfl (fun _ => ⟨rfl, ⟨rfl, trivial⟩⟩) (fun e => hg2 e14 _ hr15) ?_
    refine TL.nil (hK13 _ _ ?_)
    refine TK.cond (b := r15) rfl (fun hc => ?_) (fun hc => ?_)
    · have hX := ite_t hc hX
      refine SR fun K16 hK16 => M rfl rfl (M rfl rfl (TL.nil (hK16 _ _ ?_)))
      refine TK.ret ?_
      obtain rfl := hR6 _ (some_in hX).symm
      replace hX := hA6
      try dsimp only [thenQ]
      exact R1 rfl hX
    · have hX := ite_f hc hX
      refine TK.skip ?_
      refine hK11 _ _ ?_
      refine TK.reg ?_
      refine P1 (p_add rfl rfl) rfl rfl (M rfl rfl (TL.nil ?_))
      exact ⟨_, (some_in hX).symm, (), rfl, Nd_nil, HSub.refl _⟩
  · have hX := ite_f hc hX
    refine TK.exit ?_
    obtain rfl := hR6 _ (some_in hX).symm
    exact E6 _ _ ⟨(), rfl, Nd_nil, HSub.refl _⟩ hA6

/-- slices.ContainsFunc[[][]byte,[]byte] -/
theorem ok_slices_ContainsFunc_LLbyte_Lbyte (s1 : (List (List UInt8))) (g2 : (List UInt8) → Option Bool) (r : Bool) (hX : X.slices_ContainsFunc_LLbyte_Lbyte s1 g2 = some r) {g2V : AV} (hg2V : ∃ f m c, g2V = .fn f m c ∧ (∀ i, i < m → (c i).val) ∧ ∀ (a0 : (List UInt8)) r, g2 a0 = some r → Fun Tryd.prog f ([Enc.v a0] ++ (List.range m).map c) (· = Enc.v r)) : Fun Tryd.prog 148 [Enc.v (s1 : (List (List UInt8))), g2V] (· = Enc.v (r : Bool)) := by
  obtain ⟨g2f, g2m, g2c, rfl, hg2v, hg2⟩ := hg2V
  refine Fun.of b148 (Nat.le_of_ble_eq_true rfl) (allVal.mem ⟨(by exact (v_val _)), hg2v, trivial⟩) ?_
  unfold k148
  have nd : Nd [] := Nd_nil
  unfold X.slices_ContainsFunc_LLbyte_Lbyte at hX
  refine SR fun K3 hK3 => M rfl rfl (TL.nil (hK3 _ _ (SR fun K4 hK4 => M rfl rfl (M rfl rfl ?_))))
  obtain ⟨r5, hr5, hX⟩ := bind_some hX
  refine TL.cvX rfl rfl rfl (fun _ => ⟨rfl, ⟨rfl, ⟨rfl, trivial⟩⟩⟩) (fun e => ok_slices_IndexFunc_LLbyte_Lbyte s1 g2 _ hr5 ⟨_, _, _, rfl, hg2v, hg2⟩) ?_
  refine P1 (p_geq rfl rfl) rfl rfl (M rfl rfl (TL.nil (hK4 _ _ ?_)))
  refine TK.ret ?_
  try dsimp only [thenQ]
  exact R1 rfl hX

/-- cartridge/tape.wrong -/
theorem ok_tape_wrong (b1 : (List UInt8)) (r : Bool) (hX : X.tape_wrong b1 = some r) : Fun Tryd.prog 149 [Enc.v (b1 : (List UInt8))] (· = Enc.v (r : Bool)) := by
  refine Fun.of b149 (Nat.le_of_ble_eq_true rfl) (allVal.mem ⟨(by exact (v_val _)), trivial⟩) ?_
  unfold k149
  have nd : Nd [] := Nd_nil
  unfold X.tape_wrong at hX
  refine SR fun K2 hK2 => M rfl rfl (TL.nil (hK2 _ _ (SR fun K3 hK3 => M rfl rfl (P1 (p_lenL (xs := b1) kd24 rfl) rfl rfl (P1 (p_eql rfl rfl) rfl rfl (M rfl rfl ?_))))))
  refine TLc.p (gc := (!(((b1.length : Int) == (0 : Int))))) (p_mv rfl (hg := fun e => rfl)) (gcF1 rfl) rfl ?_
  refine TLc.p (gc := (!(((b1.length : Int) == (0 : Int))))) (p_lenL (xs := b1) kd24 rfl (hg := fun e => e)) (gcF1 rfl) rfl ?_
  refine TLc.p (gc := (!(((b1.length : Int) == (0 : Int))))) (p_gtr rfl rfl (hg := fun e => ⟨e, rfl⟩)) (gcF1 rfl) rfl ?_
  refine P1 (p_or rfl rfl (fun e => ⟨rfl, fun h => (not_t h)⟩)) rfl rfl (M rfl rfl (TL.nil (hK3 _ _ ?_)))
  refine TK.ret ?_
  try dsimp only [thenQ]
  exact R1 rfl hX

/-- cartridge/tape.Clone -/
theorem bc_tape_Clone_os : BodyC cx 120 25 [.c 2 38] k120 := ⟨Enters.of Tryd.func120 (by kernel_rfl) (by kernel_rfl), _, _, Tryd.func120, rfl, by kernel_rfl, rfl, rfl⟩
theorem ok_tape_Clone_os (t1 : Tape_api) (nd : Nd []) (r : Tape_api) (hX : X.tape_Clone_os t1 = some r) : TCX Tryd.prog 120 [Enc.v (t1 : Tape_api)] [] (fun rv h' => ∃ b28, rv = .agg 4 (ofL [Enc.v (r.Label : Int), Enc.v (r.Cap : Int), OL (α := (List UInt8)) b28 r.Blocks, Enc.v (r.Lost : Bool)]) ∧ h' = [(b28, RL (α := (List UInt8)) 24 r.Blocks)]) := by
  refine TCX.ofD (C := cx) bc_tape_Clone_os (Nat.le_of_ble_eq_true rfl) ?_
  unfold k120
  unfold X.tape_Clone_os at hX
  refine SR fun K2 hK2 => ?_
  refine TLc.boxO (lu := [Enc.v t1.Label, Enc.v t1.Cap, Enc.v t1.Blocks, Enc.v t1.Lost]) nd rfl (Cells_v (t1 : Tape_api)) rfl fun b3 nd => ?_
  refine TLc.alO (l := [Enc.v ((0 : Int) : Int), Enc.v ((0 : Int) : Int), .nils, Enc.v false]) nd ty38 ti38_z rfl rfl fun b4 nd => ?_
  refine TL.nil (hK2 _ _ ?_)
  refine TK.cvR nd (j := 0) rfl (l' := [Enc.v ((0 : Int) : Int), Enc.v ((0 : Int) : Int), Enc.v (([] : (List (List UInt8))) : (List (List UInt8))), Enc.v false]) ⟨Wk.refl _, Wk.refl _, Wk_nil, Wk.refl _, trivial⟩ fun nd => ?_
  refine SR fun K5 hK5 => P1 (p_faV fs38_2 (by decide) rfl nd (j := 1) rfl rfl) rfl rfl (P1 (p_ldV (v := Enc.v t1.Blocks) ty26 rfl rfl nd (j := 1) rfl rfl rfl rfl rfl) rfl rfl ?_)
  obtain ⟨r6, hr6, hX⟩ := bind_some hX
  refine TL.tcX [] [(b4, RV 38 [Enc.v ((0 : Int) : Int), Enc.v ((0 : Int) : Int), Enc.v (([] : (List (List UInt8))) : (List (List UInt8))), Enc.v false]), (b3, RV 38 [Enc.v t1.Label, Enc.v t1.Cap, Enc.v t1.Blocks, Enc.v t1.Lost])] rfl nd (dlt rfl) rfl ⟨rfl, ⟨rfl, trivial⟩⟩ (ok_slices_Clone_LLbyte_Lbyte_or t1.Blocks (Nd.take nd 0 rfl) _ hr6) ?_
  rintro _ _ hQ nd
  obtain ⟨b7, rfl, rfl⟩ := hQ
  refine P1 (p_faV fs38_2 (by decide) rfl nd (j := 2) rfl rfl) rfl rfl ?_
  refine TLc.stV (lu := [OL b7 r6]) nd ty26 rfl (j := 2) rfl rfl rfl (Cells_rs (refOK_of nd (j := 0) rfl rfl)) rfl rfl [Enc.v t1.Label, Enc.v t1.Cap, OL b7 r6, Enc.v t1.Lost] rfl fun nd => ?_
  refine TL.nil (hK5 _ _ ?_)
  refine TK.seq_k fun K8 hK8 => ?_
  refine SR fun K9 hK9 => P1 (p_faV fs38_2 (by decide) rfl nd (j := 2) rfl rfl) rfl rfl (P1 (p_ldV (v := OL b7 r6) ty26 rfl rfl nd (j := 2) rfl rfl rfl rfl rfl) rfl rfl (P1 (p_lenR kd26 rfl (fun _ => refOK_of nd (j := 0) rfl rfl)) rfl rfl (M rfl rfl (TL.nil (hK9 _ _ ?_)))))
  refine TK.block ?_
  obtain ⟨o10, hO10, hA10⟩ := bind_some hX
  have E10 : ∀ (l18 : List (List UInt8)) (env : Env) (h : Hp), (∃ b17 b16 b19, keepE [1, 2] env = [(1, true, .ref b16 0 4), (2, true, .ref b19 0 4)] ∧ Nd [(b17, RL (α := (List UInt8)) 24 l18), (b16, RV 38 [Enc.v t1.Label, Enc.v t1.Cap, OL b17 l18, Enc.v t1.Lost]), (b19, RV 38 [Enc.v ((0 : Int) : Int), Enc.v ((0 : Int) : Int), Enc.v (([] : (List (List UInt8))) : (List (List UInt8))), Enc.v false])] ∧ HSub [(b17, RL (α := (List UInt8)) 24 l18), (b16, RV 38 [Enc.v t1.Label, Enc.v t1.Cap, OL b17 l18, Enc.v t1.Lost]), (b19, RV 38 [Enc.v ((0 : Int) : Int), Enc.v ((0 : Int) : Int), Enc.v (([] : (List (List UInt8))) : (List (List UInt8))), Enc.v false])] h) → X.tape_Clone_os_e10 t1 l18 = some r → K8 env h := by
    intro l18 env h hE hX
    obtain ⟨b17, b16, b19, henv, nd, hs⟩ := hE
    unfold X.tape_Clone_os_e10 at hX
    refine hK8 _ _ (TK.keep [1, 2] ?_)
    rw [henv]
    refine TK.subH hs ?_
    refine SR fun K20 hK20 => P1 (p_ldVa (l' := [Enc.v t1.Label, Enc.v t1.Cap, OL b17 l18, Enc.v t1.Lost]) ty38 rfl rfl nd (j := 1) rfl rfl rfl rfl (Nat.le_of_ble_eq_true rfl)) rfl rfl ?_
    refine TLc.stV (lu := [Enc.v t1.Label, Enc.v t1.Cap, OL b17 l18, Enc.v t1.Lost]) nd ty38 rfl (j := 2) rfl rfl rfl (Cells_agg rfl (allA.mem ⟨trivial, trivial, oneA_rs (refOK_of nd (j := 0) rfl rfl), trivial, trivial⟩)) rfl rfl [Enc.v t1.Label, Enc.v t1.Cap, OL b17 l18, Enc.v t1.Lost] rfl fun nd => ?_
    refine TL.nil (hK20 _ _ ?_)
    refine TK.ret ?_
    try dsimp only [thenQ]
    exact retXD [0] [.agg 4 (ofL [Enc.v t1.Label, Enc.v t1.Cap, OL b17 l18, Enc.v t1.Lost])] nd (by decide) ⟨p_ldVa (l' := [Enc.v t1.Label, Enc.v t1.Cap, OL b17 l18, Enc.v t1.Lost]) ty38 rfl rfl nd (j := 2) rfl rfl rfl rfl (Nat.le_of_ble_eq_true rfl), trivial⟩ (fun nd => ⟨(by obtain rfl := some_in hX; exact ⟨b17, rfl, rfl⟩), (inH_agg (l := [Enc.v t1.Label, Enc.v t1.Cap, OL b17 l18, Enc.v t1.Lost]) ⟨inH_val (v_val _), inH_val (v_val _), inH_rs nd (j := 0) rfl, inH_val (v_val _), trivial⟩), ⟨rowIn_RL, trivial⟩⟩)
  refine TK.iter [1, 2, 10, 11, 12] (fun s env h => match s with | (l13, x15) => ∃ b12 b11 b14, env = [(1, true, .ref b11 0 4), (2, true, .ref b14 0 4), (10, true, OL b12 l13), (11, true, Enc.v ((r6.length : Int) : Int)), (12, true, Enc.v x15)] ∧ Nd [(b12, RL (α := (List UInt8)) 24 l13), (b11, RV 38 [Enc.v t1.Label, Enc.v t1.Cap, OL b12 l13, Enc.v t1.Lost]), (b14, RV 38 [Enc.v ((0 : Int) : Int), Enc.v ((0 : Int) : Int), Enc.v (([] : (List (List UInt8))) : (List (List UInt8))), Enc.v false])] ∧ HSub [(b12, RL (α := (List UInt8)) 24 l13), (b11, RV 38 [Enc.v t1.Label, Enc.v t1.Cap, OL b12 l13, Enc.v t1.Lost]), (b14, RV 38 [Enc.v ((0 : Int) : Int), Enc.v ((0 : Int) : Int), Enc.v (([] : (List (List UInt8))) : (List (List UInt8))), Enc.v false])] h) hO10 ⟨b7, b3, b4, rfl, (Nd.pick nd (is := [0, 2, 1]) (by decide)), (HSub.pick nd (is := [0, 2, 1]) (by decide))⟩ ?_
  rintro ⟨l13, x15⟩ env h x10x ⟨b12, b11, b14, rfl, nd, hs⟩ hX hR10
  refine TK.subH hs ?_
  unfold X.tape_Clone_os_s10 at hX
  try dsimp only at hX
  refine SR fun K21 hK21 => P1 (p_lss rfl rfl) rfl rfl (TL.nil (hK21 _ _ ?_))
  refine TK.seq_k fun K22 hK22 => ?_
  refine TK.cond (b := (decide (x15 < (r6.length : Int)))) rfl (fun hc => ?_) (fun hc => ?_)
  · have hX := ite_t hc hX
    refine TK.skip ?_
    refine hK22 _ _ ?_
    refine TK.seq_k fun K23 hK23 => ?_
    refine TK.block ?_
    refine SR fun K24 hK24 => M rfl rfl ?_
    obtain ⟨e25, he25, hX⟩ := bind_some hX
    refine P1 (p_iaO (xs := l13) kd26 ty24 rfl rfl rfl nd (j := 0) rfl (fun _ => he25)) rfl rfl (P1 (p_ldO (xs := l13) (a := e25) (e25 : (List UInt8)) ty24 rfl rfl nd (j := 0) rfl (fun _ => he25) rfl rfl rfl) rfl rfl (M rfl rfl (M rfl rfl (TL.nil (hK24 _ _ ?_)))))
    have ndS : Nd [(b14, RV 38 [Enc.v ((0 : Int) : Int), Enc.v ((0 : Int) : Int), Enc.v (([] : (List (List UInt8))) : (List (List UInt8))), Enc.v false])] := Nd.pick nd (is := [2]) (by decide)
    refine TK.endK fun KD hKD => ?_
    refine TK.drwX (h := [(b12, RL (α := (List UInt8)) 24 l13), (b11, RV 38 [Enc.v t1.Label, Enc.v t1.Cap, OL b12 l13, Enc.v t1.Lost])]) (hS := [(b14, RV 38 [Enc.v ((0 : Int) : Int), Enc.v ((0 : Int) : Int), Enc.v (([] : (List (List UInt8))) : (List (List UInt8))), Enc.v false])]) [(1, 0), (1, 1), (0, 2), (0, 3), (0, 4), (1, 5), (2, 6)] mixed (by kernel_rfl) (HSub_app nd) ?_
    refine DR1 (gc := true) rfl (vok_p (C := cx) (p_faV fs38_2 (by decide) rfl nd (j := 1) rfl rfl)) rfl rfl ?_
    refine DR1 (gc := true) rfl (vok_p (C := cx) (p_ldV (v := OL b12 l13) ty26 rfl rfl nd (j := 1) rfl rfl rfl rfl rfl)) rfl rfl ?_
    refine DM rfl rfl rfl ?_
    refine DM rfl rfl rfl ?_
    obtain ⟨r26, hr26, hX⟩ := bind_some hX
    refine DR0 (gc := true) rfl (vok_c rfl (fun _ => ⟨rfl, ⟨rfl, trivial⟩⟩) (fun e => ok_slices_Clone_Lbyte_byte e25 _ hr26)) rfl rfl ?_
    obtain ⟨e27, he27, hX⟩ := bind_some hX
    refine DR1 (gc := true) rfl (vok_p (C := cx) (p_iaO (xs := l13) kd26 ty24 rfl rfl rfl nd (j := 0) rfl (fun _ => he27))) rfl rfl ?_
    refine DR2n rfl ?_
    refine TLc.stW (xs := l13) (i := x15) (lu := Enc.cl (r26 : (List UInt8))) (a' := r26) nd ty24 rfl (j := 0) rfl (by simp [Enc.sz]) (inb_of he27 (by simp)) rfl (Cells_v (r26 : (List UInt8))) rfl (WkL_refl _) fun nd => ?_
    refine TL.cvR nd (j := 1) rfl (l' := [Enc.v t1.Label, Enc.v t1.Cap, OL (α := (List UInt8)) b12 (l13.set x15.toNat r26), Enc.v t1.Lost]) ⟨Wk.refl _, Wk.refl _, Wk_eq (OL_len (by simp)), Wk.refl _, trivial⟩ fun nd => ?_
    refine TL.nil ⟨.nilp, [(b12, RL (α := (List UInt8)) 24 (l13.set x15.toNat r26)), (b11, RV 38 [Enc.v t1.Label, Enc.v t1.Cap, OL (α := (List UInt8)) b12 (l13.set x15.toNat r26), Enc.v t1.Lost])], rfl, rfl, HSub_app nd, ?_⟩
    refine DRend ?_
    refine hKD _ _ ?_
    refine TL.cv 10 (OL (α := (List UInt8)) b12 (l13.set x15.toNat r26)) rfl (Wk_eq (OL_len (by simp))) ?_
    refine TL.nil (hK23 _ _ ?_)
    refine TK.reg ?_
    refine P1 (p_add rfl rfl) rfl rfl (M rfl rfl (TL.nil ?_))
    exact ⟨_, (some_in hX).symm, b12, b11, b14, rfl, (Nd.pick nd (is := [0, 1, 2]) (by decide)), (HSub.pick nd (is := [0, 1, 2]) (by decide))⟩
  · have hX := ite_f hc hX
    refine TK.exit ?_
    obtain rfl := hR10 _ (some_in hX).symm
    exact E10 l13 _ _ ⟨b12, b11, b14, rfl, (Nd.pick nd (is := [0, 1, 2]) (by decide)), (HSub.pick nd (is := [0, 1, 2]) (by decide))⟩ hA10

/-- cartridge/tape.Load -/
theorem ok_tape_Load (t1 : Tape_api) (nd : Nd []) (r : ((Option (Int × Int × (List (List UInt8)) × Bool)) × Int)) (hX : X.tape_Load t1 = some r) : TCX Tryd.prog 121 [Enc.v (t1 : Tape_api)] [] (fun rv h' => match r.1 with | none => (rv = .tup 2 (ofL [.nilp, Enc.v (r.2 : Int)]) ∧ h' = []) | some ov => (∃ b13 b14, rv = .tup 2 (ofL [.ref b13 0 4, Enc.v (r.2 : Int)]) ∧ h' = [(b13, RV 220 [Enc.v (ov.1 : Int), Enc.v (ov.2.1 : Int), OL (α := (List UInt8)) b14 ov.2.2.1, Enc.v (ov.2.2.2 : Bool)]), (b14, RL (α := (List UInt8)) 24 ov.2.2.1)])) := by
  refine TCX.of b121 (Nat.le_of_ble_eq_true rfl) ?_
  unfold k121
  unfold X.tape_Load at hX
  refine SR fun K2 hK2 => ?_
  refine TLc.boxV (lu := [Enc.v t1.Label, Enc.v t1.Cap, Enc.v t1.Blocks, Enc.v t1.Lost]) nd rfl (Cells_v (t1 : Tape_api)) rfl ?_
  refine M rfl rfl (M rfl rfl (TL.nil (hK2 _ _ ?_)))
  refine TK.seq_k fun K3 hK3 => ?_
  refine TK.block ?_
  refine SR fun K4 hK4 => P1 (p_faR fs38_0 (by decide) rfl) rfl rfl (P1 (p_ldR (v := Enc.v t1.Label) ty3 rfl rfl rfl rfl rfl rfl) rfl rfl (P1 (p_lss rfl rfl) rfl rfl (M rfl rfl ?_)))
  refine TLc.p (gc := (!((decide (t1.Label < (1 : Int)))))) (p_faR fs38_1 (by decide) rfl (hg := fun e => rfl)) (gcF1 rfl) rfl ?_
  refine TLc.p (gc := (!((decide (t1.Label < (1 : Int)))))) (p_ldR (v := Enc.v t1.Cap) ty3 rfl rfl rfl rfl rfl rfl (hg := fun e => e)) (gcF1 rfl) rfl ?_
  refine TLc.p (gc := (!((decide (t1.Label < (1 : Int)))))) (p_lss rfl rfl (hg := fun e => ⟨e, rfl⟩)) (gcF1 rfl) rfl ?_
  refine P1 (p_or rfl rfl (fun e => ⟨rfl, fun h => (not_t h)⟩)) rfl rfl (M rfl rfl ?_)
  refine TLc.p (gc := (!(((decide (t1.Label < (1 : Int))) || (decide (t1.Cap < (0 : Int))))))) (p_faR fs38_1 (by decide) rfl (hg := fun e => rfl)) (gcF1 rfl) rfl ?_
  refine TLc.p (gc := (!(((decide (t1.Label < (1 : Int))) || (decide (t1.Cap < (0 : Int))))))) (p_ldR (v := Enc.v t1.Cap) ty3 rfl rfl rfl rfl rfl rfl (hg := fun e => e)) (gcF1 rfl) rfl ?_
  refine TLc.p (gc := (!(((decide (t1.Label < (1 : Int))) || (decide (t1.Cap < (0 : Int))))))) (p_gtr rfl rfl (hg := fun e => ⟨e, rfl⟩)) (gcF1 rfl) rfl ?_
  refine P1 (p_or rfl rfl (fun e => ⟨rfl, fun h => (not_t h)⟩)) rfl rfl (M rfl rfl ?_)
  refine TLc.p (gc := (!((((decide (t1.Label < (1 : Int))) || (decide (t1.Cap < (0 : Int)))) || (decide (t1.Cap > (64 : Int))))))) (p_faR fs38_2 (by decide) rfl (hg := fun e => rfl)) (gcF1 rfl) rfl ?_
  refine TLc.p (gc := (!((((decide (t1.Label < (1 : Int))) || (decide (t1.Cap < (0 : Int)))) || (decide (t1.Cap > (64 : Int))))))) (p_ldR (v := Enc.v t1.Blocks) ty26 rfl rfl rfl rfl rfl rfl (hg := fun e => e)) (gcF1 rfl) rfl ?_
  refine TLc.p (gc := (!((((decide (t1.Label < (1 : Int))) || (decide (t1.Cap < (0 : Int)))) || (decide (t1.Cap > (64 : Int))))))) (p_lenL (xs := t1.Blocks) kd26 rfl (hg := fun e => e)) (gcF1 rfl) rfl ?_
  refine TLc.p (gc := (!((((decide (t1.Label < (1 : Int))) || (decide (t1.Cap < (0 : Int)))) || (decide (t1.Cap > (64 : Int))))))) (p_faR fs38_1 (by decide) rfl (hg := fun e => rfl)) (gcF1 rfl) rfl ?_
  refine TLc.p (gc := (!((((decide (t1.Label < (1 : Int))) || (decide (t1.Cap < (0 : Int)))) || (decide (t1.Cap > (64 : Int))))))) (p_ldR (v := Enc.v t1.Cap) ty3 rfl rfl rfl rfl rfl rfl (hg := fun e => e)) (gcF1 rfl) rfl ?_
  refine TLc.p (gc := (!((((decide (t1.Label < (1 : Int))) || (decide (t1.Cap < (0 : Int)))) || (decide (t1.Cap > (64 : Int))))))) (p_gtr rfl rfl (hg := fun e => ⟨e, e⟩)) (gcF1 rfl) rfl ?_
  refine P1 (p_or rfl rfl (fun e => ⟨rfl, fun h => (not_t h)⟩)) rfl rfl (M rfl rfl ?_)
  refine TLc.p (gc := (!(((((decide (t1.Label < (1 : Int))) || (decide (t1.Cap < (0 : Int)))) || (decide (t1.Cap > (64 : Int)))) || (decide ((t1.Blocks.length : Int) > t1.Cap)))))) (p_faR fs38_2 (by decide) rfl (hg := fun e => rfl)) (gcF1 rfl) rfl ?_
  refine TLc.p (gc := (!(((((decide (t1.Label < (1 : Int))) || (decide (t1.Cap < (0 : Int)))) || (decide (t1.Cap > (64 : Int)))) || (decide ((t1.Blocks.length : Int) > t1.Cap)))))) (p_ldR (v := Enc.v t1.Blocks) ty26 rfl rfl rfl rfl rfl rfl (hg := fun e => e)) (gcF1 rfl) rfl ?_
  obtain ⟨r5, hr5, hX⟩ := bind_some hX
  refine TL.cvX (gcF1 rfl) rfl rfl (fun e => ⟨rfl, ⟨e, ⟨rfl, trivial⟩⟩⟩) (fun e => ok_slices_ContainsFunc_LLbyte_Lbyte t1.Blocks (fun a1 => X.tape_wrong a1) _ (optG_t hr5 e) ⟨149, 0, ofL [], rfl, (fun i hi => by cases hi), fun a1 r hr => ok_tape_wrong a1 r hr⟩) ?_
  refine P1 (p_or rfl rfl (fun e => ⟨rfl, fun h => (not_t h)⟩)) rfl rfl (M rfl rfl (TL.nil (hK4 _ _ ?_)))
  refine TK.cond (b := (((((decide (t1.Label < (1 : Int))) || (decide (t1.Cap < (0 : Int)))) || (decide (t1.Cap > (64 : Int)))) || (decide ((t1.Blocks.length : Int) > t1.Cap))) || r5)) rfl (fun hc => ?_) (fun hc => ?_)
  · have hX := ite_t hc hX
    refine SR fun K6 hK6 => M rfl rfl (M rfl rfl (TL.nil (hK6 _ _ ?_)))
    refine TK.ret ?_
    try dsimp only [thenQ]
    exact retX (v := .tup 2 (ofL [.nilp, Enc.v ((1 : Int) : Int)])) (resN (vs := [.nilp, Enc.v ((1 : Int) : Int)]) ⟨rfl, rfl, trivial⟩) (by obtain rfl := some_in hX; exact ⟨rfl, rfl⟩) nd (inH_tup (l := [.nilp, Enc.v ((1 : Int) : Int)]) ⟨trivial, inH_val (v_val _), trivial⟩) trivial
  · have hX := ite_f hc hX
    refine SR fun K7 hK7 => P1 (p_faR fs38_3 (by decide) rfl) rfl rfl (P1 (p_ldR (v := Enc.v t1.Lost) ty4 rfl rfl rfl rfl rfl rfl) rfl rfl (M rfl rfl (TL.nil (hK7 _ _ ?_))))
    refine TK.cond (b := t1.Lost) rfl (fun hc => ?_) (fun hc => ?_)
    · have hX := ite_t hc hX
      refine SR fun K8 hK8 => M rfl rfl (M rfl rfl (TL.nil (hK8 _ _ ?_)))
      refine TK.ret ?_
      try dsimp only [thenQ]
      exact retX (v := .tup 2 (ofL [.nilp, Enc.v ((9 : Int) : Int)])) (resN (vs := [.nilp, Enc.v ((9 : Int) : Int)]) ⟨rfl, rfl, trivial⟩) (by obtain rfl := some_in hX; exact ⟨rfl, rfl⟩) nd (inH_tup (l := [.nilp, Enc.v ((9 : Int) : Int)]) ⟨trivial, inH_val (v_val _), trivial⟩) trivial
    · have hX := ite_f hc hX
      refine TK.skip ?_
      refine hK3 _ _ (SR fun K9 hK9 => P1 (p_ldRa (l' := Enc.cl (t1 : Tape_api)) ty38 rfl rfl rfl rfl rfl (Nat.le_of_ble_eq_true rfl)) rfl rfl ?_)
      obtain ⟨r10, hr10, hX⟩ := bind_some hX
      refine TL.tcX [] [] rfl nd (dlt rfl) rfl ⟨rfl, ⟨rfl, trivial⟩⟩ (ok_tape_Clone_os t1 (Nd.take nd 0 rfl) _ hr10) ?_
      rintro _ _ hQ nd
      obtain ⟨b11, rfl, rfl⟩ := hQ
      refine P1 (p_bld (l := [Enc.v r10.Label, Enc.v r10.Cap, OL (α := (List UInt8)) b11 r10.Blocks, Enc.v r10.Lost]) ty220 rfl all220 rfl (fun _ => ⟨⟨rfl, trivial, rfl⟩, trivial⟩)) rfl rfl ?_
      refine TLc.boxO (lu := [Enc.v r10.Label, Enc.v r10.Cap, OL (α := (List UInt8)) b11 r10.Blocks, Enc.v r10.Lost]) nd rfl (Cells_agg rfl (allA.mem ⟨trivial, trivial, oneA_rs (refOK_of nd (j := 0) rfl rfl), trivial, trivial⟩)) rfl fun b12 nd => ?_
      refine M rfl rfl (M rfl rfl (TL.nil (hK9 _ _ ?_)))
      refine TK.ret ?_
      try dsimp only [thenQ]
      exact retX (v := .tup 2 (ofL [.ref b12 0 4, Enc.v ((0 : Int) : Int)])) (resN (vs := [.ref b12 0 4, Enc.v ((0 : Int) : Int)]) ⟨rfl, rfl, trivial⟩) (by obtain rfl := some_in hX; exact ⟨b12, b11, rfl, rfl⟩) nd (inH_tup (l := [.ref b12 0 4, Enc.v ((0 : Int) : Int)]) ⟨inH_ref nd (j := 0) rfl, inH_val (v_val _), trivial⟩) ⟨rowIn_RV ⟨inH_val (v_val _), inH_val (v_val _), inH_rs nd (j := 1) rfl, inH_val (v_val _), trivial⟩, rowIn_RL, trivial⟩

/-- (*cartridge/tape.Drive).Append -/
theorem ok_tape_Drive_Append_nil (b1 : (List UInt8)) (r : Int) (hX : X.tape_Drive_Append_nil b1 = some r) : Fun Tryd.prog 122 [.nilp, Enc.v (b1 : (List UInt8))] (· = Enc.v (r : Int)) := by
  refine Fun.of b122 (Nat.le_of_ble_eq_true rfl) (allVal.mem ⟨(by exact trivial), (by exact (v_val _)), trivial⟩) ?_
  unfold k122
  have nd : Nd [] := Nd_nil
  unfold X.tape_Drive_Append_nil at hX
  refine SR fun K2 hK2 => M rfl rfl (TL.nil (hK2 _ _ ?_))
  refine TK.seq_k fun K3 hK3 => ?_
  refine TK.block ?_
  refine SR fun K4 hK4 => M rfl rfl (P1 (p_eqN kd191 rfl rfl) rfl rfl (M rfl rfl (TL.nil (hK4 _ _ ?_))))
  refine TK.cond (b := true) rfl (fun _ => ?_) (fun hc => by simp at hc)
  refine SR fun K5 hK5 => M rfl rfl (TL.nil (hK5 _ _ ?_))
  refine TK.ret ?_
  try dsimp only [thenQ]
  exact R1 rfl hX

/-- (*cartridge/tape.Drive).Tape -/
theorem bc_tape_Drive_Tape_nil : BodyC cx 123 11 [.c 2 38] k123 := ⟨Enters.of Tryd.func123 (by kernel_rfl) (by kernel_rfl), _, _, Tryd.func123, rfl, by kernel_rfl, rfl, rfl⟩
theorem ok_tape_Drive_Tape_nil  (r : Tape_api) (hX : X.tape_Drive_Tape_nil = some r) : Fun Tryd.prog 123 [.nilp] (· = Enc.v (r : Tape_api)) := by
  refine Fun.ofC (C := cx) bc_tape_Drive_Tape_nil (Nat.le_of_ble_eq_true rfl) (allVal.mem ⟨(by exact trivial), trivial⟩) ?_
  unfold k123
  have nd : Nd [] := Nd_nil
  unfold X.tape_Drive_Tape_nil at hX
  refine SR fun K1 hK1 => ?_
  refine TLc.alO (l := [Enc.v ((0 : Int) : Int), Enc.v ((0 : Int) : Int), .nils, Enc.v false]) nd ty38 ti38_z rfl rfl fun b2 nd => ?_
  refine TL.nil (hK1 _ _ ?_)
  refine TK.cvR nd (j := 0) rfl (l' := [Enc.v ((0 : Int) : Int), Enc.v ((0 : Int) : Int), Enc.v (([] : (List (List UInt8))) : (List (List UInt8))), Enc.v false]) ⟨Wk.refl _, Wk.refl _, Wk_nil, Wk.refl _, trivial⟩ fun nd => ?_
  refine TK.seq_k fun K3 hK3 => ?_
  refine SR fun K4 hK4 => M rfl rfl (P1 (p_eqN kd191 rfl rfl) rfl rfl (TL.nil (hK4 _ _ ?_)))
  refine TK.cond (b := true) rfl (fun _ => ?_) (fun hc => by simp at hc)
  refine SR fun K5 hK5 => ?_
  refine TLc.p (gc := true) (p_bld (l := [Enc.v ((0 : Int) : Int), Enc.v ((0 : Int) : Int), .nils, Enc.v false]) ty38 rfl all38 rfl (fun _ => trivial)) rfl rfl (TL.wk (v' := Enc.v ((Tape_api.mk (0 : Int) (0 : Int) ([] : (List (List UInt8))) false) : Tape_api)) (Wk_agg ⟨Wk.refl _, Wk.refl _, Wk_nil, Wk.refl _, trivial⟩) ?_)
  refine TLc.stV (lu := Enc.cl ((Tape_api.mk (0 : Int) (0 : Int) ([] : (List (List UInt8))) false) : Tape_api)) nd ty38 rfl (j := 0) rfl rfl rfl (Cells_v ((Tape_api.mk (0 : Int) (0 : Int) ([] : (List (List UInt8))) false) : Tape_api)) rfl rfl [Enc.v ((Tape_api.mk (0 : Int) (0 : Int) ([] : (List (List UInt8))) false).Label : Int), Enc.v ((Tape_api.mk (0 : Int) (0 : Int) ([] : (List (List UInt8))) false).Cap : Int), Enc.v ((Tape_api.mk (0 : Int) (0 : Int) ([] : (List (List UInt8))) false).Blocks : (List (List UInt8))), Enc.v ((Tape_api.mk (0 : Int) (0 : Int) ([] : (List (List UInt8))) false).Lost : Bool)] rfl fun nd => ?_
  refine TL.nil (hK5 _ _ ?_)
  refine TK.ret ?_
  try dsimp only [thenQ]
  exact retC [Enc.v ((Tape_api.mk (0 : Int) (0 : Int) ([] : (List (List UInt8))) false) : Tape_api)] ⟨p_ldVa (l' := Enc.cl ((Tape_api.mk (0 : Int) (0 : Int) ([] : (List (List UInt8))) false) : Tape_api)) ty38 rfl rfl nd (j := 0) rfl rfl rfl rfl (Nat.le_of_ble_eq_true rfl), trivial⟩ (by obtain rfl := some_in hX; rfl) (v_val _)

/-- (*cartridge/tape.Drive).Room -/
theorem ok_tape_Drive_Room (Label1 : Int) (Cap2 : Int) (Blocks3 : (List (List UInt8))) (Lost4 : Bool) (r : Int) (hX : X.tape_Drive_Room Label1 Cap2 Blocks3 Lost4 = some r) : Fun Tryd.prog 150 [.vref (ofL [Enc.v (Label1 : Int), Enc.v (Cap2 : Int), Enc.v (Blocks3 : (List (List UInt8))), Enc.v (Lost4 : Bool)]) 4 0] (· = Enc.v (r : Int)) := by
  refine Fun.of b150 (Nat.le_of_ble_eq_true rfl) (allVal.mem ⟨(by exact (vref_val (l := [Enc.v (Label1 : Int), Enc.v (Cap2 : Int), Enc.v (Blocks3 : (List (List UInt8))), Enc.v (Lost4 : Bool)]) rfl ⟨(v_val _), (v_val _), (v_val _), (v_val _), trivial⟩)), trivial⟩) ?_
  unfold k150
  have nd : Nd [] := Nd_nil
  unfold X.tape_Drive_Room at hX
  refine SR fun K5 hK5 => M rfl rfl (TL.nil (hK5 _ _ ?_))
  refine TK.seq_k fun K6 hK6 => ?_
  refine SR fun K7 hK7 => M rfl rfl (P1 (p_eqV kd191 rfl rfl) rfl rfl (TL.nil (hK7 _ _ ?_)))
  refine TK.cond (b := false) rfl (fun hc => by simp at hc) (fun _ => ?_)
  refine TK.skip ?_
  refine hK6 _ _ ?_
  refine TK.seq_k fun K8 hK8 => ?_
  have ndS : Nd [] := Nd.pick nd (is := []) (by decide)
  refine TK.drwX (h := []) (hS := []) [(0, 0), (0, 1), (0, 2), (0, 3), (0, 4), (0, 5), (0, 6), (0, 7), (0, 8), (0, 9), (0, 10), (0, 11), (0, 12)] mixed (by kernel_rfl) (HSub_app nd) ?_
  refine DM rfl rfl rfl ?_
  refine D0 rfl (p_ncV rfl) rfl rfl ?_
  refine D0 rfl (p_faR fs220_0 (by decide) rfl) rfl rfl ?_
  refine D0 rfl (p_faR fs38_1 (by decide) rfl) rfl rfl ?_
  refine D0 rfl (p_ldR (v := Enc.v Cap2) ty3 rfl rfl rfl rfl rfl rfl) rfl rfl ?_
  refine DM rfl rfl rfl ?_
  refine D0 rfl (p_ncV rfl) rfl rfl ?_
  refine D0 rfl (p_faR fs220_0 (by decide) rfl) rfl rfl ?_
  refine D0 rfl (p_faR fs38_2 (by decide) rfl) rfl rfl ?_
  refine D0 rfl (p_ldR (v := Enc.v Blocks3) ty26 rfl rfl rfl rfl rfl rfl) rfl rfl ?_
  refine D0 rfl (p_lenL (xs := Blocks3) kd26 rfl) rfl rfl ?_
  refine D0 rfl (p_sub rfl rfl) rfl rfl ?_
  refine DM rfl rfl rfl ?_
  refine DRend ?_
  refine hK8 _ _ ?_
  refine TK.ret ?_
  try dsimp only [thenQ]
  exact R1 rfl hX

/-- (*cartridge/tape.Drive).Append -/
theorem ok_tape_Drive_Append (b7 : (List UInt8)) (Label1 : Int) (Cap2 : Int) (Blocks3 : (List (List UInt8))) (Lost4 : Bool) (b5 : Nat) (b6 : Nat) (nd : Nd [(b5, RV 220 [Enc.v (Label1 : Int), Enc.v (Cap2 : Int), OL (α := (List UInt8)) b6 Blocks3, Enc.v (Lost4 : Bool)]), (b6, RL (α := (List UInt8)) 24 Blocks3)]) (r : (Int × (Int × Int × (List (List UInt8)) × Bool))) (hX : X.tape_Drive_Append b7 Label1 Cap2 Blocks3 Lost4 = some r) : TCX Tryd.prog 122 [.ref b5 0 4, Enc.v (b7 : (List UInt8))] [(b5, RV 220 [Enc.v (Label1 : Int), Enc.v (Cap2 : Int), OL (α := (List UInt8)) b6 Blocks3, Enc.v (Lost4 : Bool)]), (b6, RL (α := (List UInt8)) 24 Blocks3)] (fun rv h' => ∃ b22, rv = Enc.v (r.1 : Int) ∧ h' = [(b5, RV 220 [Enc.v (r.2.1 : Int), Enc.v (r.2.2.1 : Int), OL (α := (List UInt8)) b22 r.2.2.2.1, Enc.v (r.2.2.2.2 : Bool)]), (b22, RL (α := (List UInt8)) 24 r.2.2.2.1)]) := by
  refine TCX.of b122 (Nat.le_of_ble_eq_true rfl) ?_
  unfold k122
  unfold X.tape_Drive_Append at hX
  refine SR fun K8 hK8 => M rfl rfl (TL.nil (hK8 _ _ ?_))
  refine TK.seq_k fun K9 hK9 => ?_
  refine TK.block ?_
  refine SR fun K10 hK10 => M rfl rfl (P1 (p_eqP kd191 rfl rfl (fun _ => refOK_of nd (j := 0) rfl rfl)) rfl rfl (M rfl rfl (TL.nil (hK10 _ _ ?_))))
  refine TK.cond (b := false) rfl (fun hc => by simp at hc) (fun _ => ?_)
  refine SR fun K11 hK11 => M rfl rfl ?_
  obtain ⟨r12, hr12, hX⟩ := bind_some hX
  refine TL.cvX rfl rfl rfl (fun _ => ⟨rfl, ⟨rfl, trivial⟩⟩) (fun e => ok_tape_wrong b7 _ hr12) ?_
  refine M rfl rfl (TL.nil (hK11 _ _ ?_))
  refine TK.cond (b := r12) rfl (fun hc => ?_) (fun hc => ?_)
  · have hX := ite_t hc hX
    refine SR fun K13 hK13 => M rfl rfl (TL.nil (hK13 _ _ ?_))
    refine TK.ret ?_
    try dsimp only [thenQ]
    exact retX (v := Enc.v ((1 : Int) : Int)) (res1 rfl) (by obtain rfl := some_in hX; exact ⟨b6, rfl, rfl⟩) nd (inH_val (v_val _)) ⟨rowIn_RV ⟨inH_val (v_val _), inH_val (v_val _), inH_rs nd (j := 1) rfl, inH_val (v_val _), trivial⟩, rowIn_RL, trivial⟩
  · have hX := ite_f hc hX
    refine SR fun K14 hK14 => M rfl rfl ?_
    obtain ⟨r15, hr15, hX⟩ := bind_some hX
    refine TL.lookX [.vref (ofL [Enc.v Label1, Enc.v Cap2, Enc.v Blocks3, Enc.v Lost4]) 4 0] rfl rfl rfl (fun _ => ⟨rfl, ⟨rfl, trivial⟩⟩) ⟨look_ref (l := [Enc.v Label1, Enc.v Cap2, OL b6 Blocks3, Enc.v Lost4]) nd (j := 0) rfl ⟨look_v (v := Enc.v Label1) (v_val _), look_v (v := Enc.v Cap2) (v_val _), look_OL nd (j := 1) rfl, look_v (v := Enc.v Lost4) (v_val _), trivial⟩, trivial⟩ (fun e => ok_tape_Drive_Room Label1 Cap2 Blocks3 Lost4 _ hr15) (trivial) ?_
    refine P1 (p_eql rfl rfl) rfl rfl (M rfl rfl (TL.nil (hK14 _ _ ?_)))
    refine TK.cond (b := (r15 == (0 : Int))) rfl (fun hc => ?_) (fun hc => ?_)
    · have hX := ite_t hc hX
      refine SR fun K16 hK16 => M rfl rfl (TL.nil (hK16 _ _ ?_))
      refine TK.ret ?_
      try dsimp only [thenQ]
      exact retX (v := Enc.v ((6 : Int) : Int)) (res1 rfl) (by obtain rfl := some_in hX; exact ⟨b6, rfl, rfl⟩) nd (inH_val (v_val _)) ⟨rowIn_RV ⟨inH_val (v_val _), inH_val (v_val _), inH_rs nd (j := 1) rfl, inH_val (v_val _), trivial⟩, rowIn_RL, trivial⟩
    · have hX := ite_f hc hX
      refine TK.skip ?_
      refine hK9 _ _ ?_
      refine TK.seq_k fun K17 hK17 => ?_
      have ndS : Nd [] := Nd.pick nd (is := []) (by decide)
      refine TK.drwX (h := [(b5, RV 220 [Enc.v Label1, Enc.v Cap2, OL b6 Blocks3, Enc.v Lost4]), (b6, RL (α := (List UInt8)) 24 Blocks3)]) (hS := []) [(0, 0), (0, 1), (1, 2), (1, 3), (1, 4), (1, 5), (0, 6), (0, 7), (0, 8), (2, 9), (1, 10), (1, 11), (1, 12), (2, 13)] mixed (by kernel_rfl) (HSub_app nd) ?_
      refine DM rfl rfl rfl ?_
      refine DM rfl rfl rfl ?_
      refine DR1 (gc := true) rfl (vok_p (C := cx) (p_ncR rfl (fun _ => refOK_of nd (j := 0) rfl rfl))) rfl rfl ?_
      refine DR1 (gc := true) rfl (vok_p (C := cx) (p_faV fs220_0 (by decide) rfl nd (j := 0) rfl rfl)) rfl rfl ?_
      refine DR1 (gc := true) rfl (vok_p (C := cx) (p_faV fs38_2 (by decide) rfl nd (j := 0) rfl rfl)) rfl rfl ?_
      refine DR1 (gc := true) rfl (vok_p (C := cx) (p_ldV (v := OL b6 Blocks3) ty26 rfl rfl nd (j := 0) rfl rfl rfl rfl rfl)) rfl rfl ?_
      refine DM rfl rfl rfl ?_
      obtain ⟨r18, hr18, hX⟩ := bind_some hX
      refine DR0 (gc := true) rfl (vok_c rfl (fun _ => ⟨rfl, ⟨rfl, trivial⟩⟩) (fun e => ok_slices_Clone_Lbyte_byte b7 _ hr18)) rfl rfl ?_
      refine DR0 (gc := true) rfl (vok_lit (C := cx) ([r18] : List (List UInt8)) kd26 ty24 rfl ⟨⟨rfl, rfl⟩, trivial⟩ rfl rfl) rfl rfl ?_
      obtain ⟨u19, hu19, hX⟩ := bind_some hX
      refine DR2 rfl rfl ?_
      refine TLc.appO nd kd26 bo26 ty24 rfl rfl (j := 1) rfl rfl (Src_L _) (by decide) (need_t hu19) rfl fun nd => ?_
      refine TL.nil ⟨_, [(b5, RV 220 [Enc.v Label1, Enc.v Cap2, OL b6 Blocks3, Enc.v Lost4]), (b6, RL (α := (List UInt8)) 24 (Blocks3 ++ ([r18] : List (List UInt8))))], rfl, rfl, HSub_app nd, ?_⟩
      refine DR1 (gc := true) rfl (vok_p (C := cx) (p_ncR rfl (fun _ => refOK_of nd (j := 0) rfl rfl))) rfl rfl ?_
      refine DR1 (gc := true) rfl (vok_p (C := cx) (p_faV fs220_0 (by decide) rfl nd (j := 0) rfl rfl)) rfl rfl ?_
      refine DR1 (gc := true) rfl (vok_p (C := cx) (p_faV fs38_2 (by decide) rfl nd (j := 0) rfl rfl)) rfl rfl ?_
      refine DR2n rfl ?_
      refine TLc.stV (lu := [OL (α := (List UInt8)) b6 (Blocks3 ++ ([r18] : List (List UInt8)))]) nd ty26 rfl (j := 0) rfl rfl rfl (Cells_rs (refOK_of nd (j := 1) rfl rfl)) rfl rfl [Enc.v Label1, Enc.v Cap2, OL (α := (List UInt8)) b6 (Blocks3 ++ ([r18] : List (List UInt8))), Enc.v Lost4] rfl fun nd => ?_
      refine TL.nil ⟨.nilp, [(b5, RV 220 [Enc.v Label1, Enc.v Cap2, OL (α := (List UInt8)) b6 (Blocks3 ++ ([r18] : List (List UInt8))), Enc.v Lost4]), (b6, RL (α := (List UInt8)) 24 (Blocks3 ++ ([r18] : List (List UInt8))))], rfl, rfl, HSub_app nd, ?_⟩
      refine DRend ?_
      refine hK17 _ _ (SR fun K20 hK20 => M rfl rfl (TL.nil (hK20 _ _ ?_)))
      refine TK.ret ?_
      try dsimp only [thenQ]
      exact retX (v := Enc.v ((0 : Int) : Int)) (res1 rfl) (by obtain rfl := some_in hX; exact ⟨b6, rfl, rfl⟩) nd (inH_val (v_val _)) ⟨rowIn_RV ⟨inH_val (v_val _), inH_val (v_val _), inH_rs nd (j := 1) rfl, inH_val (v_val _), trivial⟩, rowIn_RL, trivial⟩

/-- (*cartridge/tape.Drive).Tape -/
theorem bc_tape_Drive_Tape : BodyC cx 123 11 [.c 2 38] k123 := ⟨Enters.of Tryd.func123 (by kernel_rfl) (by kernel_rfl), _, _, Tryd.func123, rfl, by kernel_rfl, rfl, rfl⟩
theorem ok_tape_Drive_Tape (Label1 : Int) (Cap2 : Int) (Blocks3 : (List (List UInt8))) (Lost4 : Bool) (b5 : Nat) (b6 : Nat) (nd : Nd [(b5, RV 220 [Enc.v (Label1 : Int), Enc.v (Cap2 : Int), OL (α := (List UInt8)) b6 Blocks3, Enc.v (Lost4 : Bool)]), (b6, RL (α := (List UInt8)) 24 Blocks3)]) (r : Tape_api) (hX : X.tape_Drive_Tape Label1 Cap2 Blocks3 Lost4 = some r) : TCX Tryd.prog 123 [.ref b5 0 4] [(b5, RV 220 [Enc.v (Label1 : Int), Enc.v (Cap2 : Int), OL (α := (List UInt8)) b6 Blocks3, Enc.v (Lost4 : Bool)]), (b6, RL (α := (List UInt8)) 24 Blocks3)] (fun rv h' => rv = Enc.v (r : Tape_api) ∧ h' = []) := by
  refine TCX.ofD (C := cx) bc_tape_Drive_Tape (Nat.le_of_ble_eq_true rfl) ?_
  unfold k123
  unfold X.tape_Drive_Tape at hX
  refine SR fun K7 hK7 => ?_
  refine TLc.alO (l := [Enc.v ((0 : Int) : Int), Enc.v ((0 : Int) : Int), .nils, Enc.v false]) nd ty38 ti38_z rfl rfl fun b8 nd => ?_
  refine TL.nil (hK7 _ _ ?_)
  refine TK.cvR nd (j := 0) rfl (l' := [Enc.v ((0 : Int) : Int), Enc.v ((0 : Int) : Int), Enc.v (([] : (List (List UInt8))) : (List (List UInt8))), Enc.v false]) ⟨Wk.refl _, Wk.refl _, Wk_nil, Wk.refl _, trivial⟩ fun nd => ?_
  refine TK.seq_k fun K9 hK9 => ?_
  refine SR fun K10 hK10 => M rfl rfl (P1 (p_eqP kd191 rfl rfl (fun _ => refOK_of nd (j := 1) rfl rfl)) rfl rfl (TL.nil (hK10 _ _ ?_)))
  refine TK.cond (b := false) rfl (fun hc => by simp at hc) (fun _ => ?_)
  refine TK.skip ?_
  refine hK9 _ _ (SR fun K11 hK11 => M rfl rfl (P1 (p_ncR rfl (fun _ => refOK_of nd (j := 1) rfl rfl)) rfl rfl (P1 (p_faV fs220_0 (by decide) rfl nd (j := 1) rfl rfl) rfl rfl ?_)))
  refine TL.layR (l2' := [Enc.v Label1, Enc.v Cap2, Enc.v Blocks3, Enc.v Lost4]) [] nd (j := 2) rfl 1 rfl rfl ⟨fix_id _, fix_id _, fix_OL nd (j := 2) rfl, fix_id _, trivial⟩ trivial fun nd => ?_
  refine P1 (p_ldVa (l' := Enc.cl ((Tape_api.mk Label1 Cap2 Blocks3 Lost4) : Tape_api)) ty38 rfl rfl nd (j := 1) rfl rfl rfl rfl (Nat.le_of_ble_eq_true rfl)) rfl rfl ?_
  obtain ⟨r12, hr12, hX⟩ := bind_some hX
  refine TL.cvX rfl rfl rfl (fun _ => ⟨rfl, ⟨rfl, trivial⟩⟩) (fun e => ok_tape_Clone (Tape_api.mk Label1 Cap2 Blocks3 Lost4) _ hr12) ?_
  refine TLc.stV (lu := Enc.cl (r12 : Tape_api)) nd ty38 rfl (j := 0) rfl rfl rfl (Cells_v (r12 : Tape_api)) rfl rfl [Enc.v r12.Label, Enc.v r12.Cap, Enc.v r12.Blocks, Enc.v r12.Lost] rfl fun nd => ?_
  refine TL.nil (hK11 _ _ ?_)
  refine TK.ret ?_
  try dsimp only [thenQ]
  exact retXD [] [Enc.v r12] nd (by decide) ⟨p_ldVa (l' := Enc.cl (r12 : Tape_api)) ty38 rfl rfl nd (j := 0) rfl rfl rfl rfl (Nat.le_of_ble_eq_true rfl), trivial⟩ (fun nd => ⟨(by obtain rfl := some_in hX; exact ⟨rfl, rfl⟩), (inH_val (v_val _)), trivial⟩)

/-- cartridge/write.lay -/
theorem ok_write_lay (at3 : Int) (b4 : (List UInt8)) (l1 : (List Tape_api)) (b2 : Nat) (nd : Nd [(b2, RL (α := Tape_api) 38 l1)]) (r : (List Tape_api)) (hX : X.write_lay at3 b4 l1 = some r) : TCX Tryd.prog 95 [OL (α := Tape_api) b2 l1, Enc.v (at3 : Int), Enc.v (b4 : (List UInt8))] [(b2, RL (α := Tape_api) 38 l1)] (fun rv h' => rv = .tup 0 (ofL []) ∧ h' = [(b2, RL (α := Tape_api) 38 r)]) := by
  refine TCX.of b95 (Nat.le_of_ble_eq_true rfl) ?_
  unfold k95
  unfold X.write_lay at hX
  refine TK.endK fun KE hKE => ?_
  refine TK.seq_k fun K5 hK5 => ?_
  refine SR fun K6 hK6 => M rfl rfl (P1 (p_lss rfl rfl) rfl rfl (M rfl rfl ?_))
  refine TLc.p (gc := (!((decide (at3 < (0 : Int)))))) (p_mv rfl (hg := fun e => rfl)) (gcF1 rfl) rfl ?_
  refine TLc.p (gc := (!((decide (at3 < (0 : Int)))))) (p_mv rfl (hg := fun e => rfl)) (gcF1 rfl) rfl ?_
  refine TLc.p (gc := (!((decide (at3 < (0 : Int)))))) (p_lenR kd57 rfl (fun _ => refOK_of nd (j := 0) rfl rfl) (hg := fun e => e)) (gcF1 rfl) rfl ?_
  refine TLc.p (gc := (!((decide (at3 < (0 : Int)))))) (p_geq rfl rfl (hg := fun e => ⟨e, e⟩)) (gcF1 rfl) rfl ?_
  refine P1 (p_or rfl rfl (fun e => ⟨rfl, fun h => (not_t h)⟩)) rfl rfl (TL.nil (hK6 _ _ ?_))
  refine TK.cond (b := ((decide (at3 < (0 : Int))) || (decide (at3 ≥ (l1.length : Int))))) rfl (fun hc => ?_) (fun hc => ?_)
  · have hX := ite_t hc hX
    refine TK.ret ?_
    try dsimp only [thenQ]
    exact retX (v := .tup 0 (ofL [])) res0 (by obtain rfl := some_in hX; exact ⟨rfl, rfl⟩) nd (inH_tup (l := []) trivial) ⟨rowIn_RL, trivial⟩
  · have hX := ite_f hc hX
    refine TK.skip ?_
    refine hK5 _ _ (SR fun K7 hK7 => M rfl rfl (M rfl rfl ?_))
    obtain ⟨e8, he8, hX⟩ := bind_some hX
    refine P1 (p_iaO (xs := l1) kd57 ty38 rfl rfl rfl nd (j := 0) rfl (fun _ => he8)) rfl rfl (P1 (p_ldO (xs := l1) (a := e8) (e8 : Tape_api) ty38 rfl rfl nd (j := 0) rfl (fun _ => he8) rfl rfl rfl) rfl rfl ?_)
    obtain ⟨r9, hr9, hX⟩ := bind_some hX
    refine TL.tcX [] [(b2, RL (α := Tape_api) 38 l1)] rfl nd (dlt rfl) rfl ⟨rfl, ⟨rfl, trivial⟩⟩ (ok_tape_Load e8 (Nd.take nd 0 rfl) _ hr9) ?_
    rintro _ _ hQ nd
    cases hqr9 : r9.1 with
    | none =>
      simp only [hqr9] at hQ hX
      obtain ⟨rfl, rfl⟩ := hQ
      refine M rfl rfl (P1 (p_ex rfl rfl (by decide)) rfl rfl (P1 (p_ex rfl rfl (by decide)) rfl rfl (M rfl rfl (M rfl rfl (TL.nil (hK7 _ _ (SR fun K10 hK10 => M rfl rfl (P1 (p_eql rfl rfl) rfl rfl (M rfl rfl ?_)))))))))
      refine TLc.p (gc := ((r9.2 == (0 : Int)))) (p_mv rfl (hg := fun e => rfl)) (gcT1 rfl) rfl ?_
      refine TLc.p (gc := ((r9.2 == (0 : Int)))) (p_mv rfl (hg := fun e => rfl)) (gcT1 rfl) rfl ?_
      obtain ⟨r11, hr11, hX⟩ := bind_some hX
      refine TL.cvX (gcT1 rfl) rfl rfl (fun e => ⟨rfl, ⟨e, ⟨e, trivial⟩⟩⟩) (fun e => ok_tape_Drive_Append_nil b4 _ (optG_t hr11 e)) ?_
      refine TLc.p (gc := ((r9.2 == (0 : Int)))) (p_eql rfl rfl (hg := fun e => ⟨e, rfl⟩)) (gcT1 rfl) rfl ?_
      refine P1 (p_and rfl rfl (fun e => ⟨rfl, fun h => h⟩)) rfl rfl (TL.nil (hK10 _ _ ?_))
      refine TK.cond (b := ((r9.2 == (0 : Int)) && (r11 == (0 : Int)))) rfl (fun hc => ?_) (fun hc => ?_)
      · have hX := ite_t hc hX
        refine TK.reg ?_
        refine M rfl rfl (M rfl rfl (M rfl rfl ?_))
        obtain ⟨r12, hr12, hX⟩ := bind_some hX
        refine TL.cvX rfl rfl rfl (fun _ => ⟨rfl, ⟨rfl, trivial⟩⟩) (fun e => ok_tape_Drive_Tape_nil  _ hr12) ?_
        obtain ⟨e13, he13, hX⟩ := bind_some hX
        refine P1 (p_iaO (xs := l1) kd57 ty38 rfl rfl rfl nd (j := 0) rfl (fun _ => he13)) rfl rfl ?_
        refine TLc.stW (xs := l1) (i := at3) (lu := Enc.cl (r12 : Tape_api)) (a' := r12) nd ty38 rfl (j := 0) rfl (by simp [Enc.sz]) (inb_of he13 (by simp)) rfl (Cells_v (r12 : Tape_api)) rfl (WkL_refl _) fun nd => ?_
        refine TL.cv 0 (OL b2 (l1.set at3.toNat r12)) rfl (Wk_eq (OL_len (by simp))) ?_
        refine TL.nil (hKE _ _ (TL.nil ?_))
        try dsimp only [thenQ]
        refine RetQ_end ?_
        exact retX (v := .tup 0 (ofL [])) res0 (by obtain rfl := some_in hX; exact ⟨rfl, rfl⟩) nd (inH_tup (l := []) trivial) ⟨rowIn_RL, trivial⟩
      · have hX := ite_f hc hX
        refine TK.skip ?_
        refine hKE _ _ (TL.nil ?_)
        try dsimp only [thenQ]
        refine RetQ_end ?_
        exact retX (v := .tup 0 (ofL [])) res0 (by obtain rfl := some_in hX; exact ⟨rfl, rfl⟩) nd (inH_tup (l := []) trivial) ⟨rowIn_RL, trivial⟩
    | some o14 =>
      simp only [hqr9] at hQ hX
      obtain ⟨b15, b16, rfl, rfl⟩ := hQ
      refine M rfl rfl (P1 (p_ex rfl rfl (by decide)) rfl rfl (P1 (p_ex rfl rfl (by decide)) rfl rfl (M rfl rfl (M rfl rfl (TL.nil (hK7 _ _ (SR fun K17 hK17 => M rfl rfl (P1 (p_eql rfl rfl) rfl rfl (M rfl rfl ?_)))))))))
      refine TLc.p (gc := ((r9.2 == (0 : Int)))) (p_mv rfl (hg := fun e => rfl)) (gcT1 rfl) rfl ?_
      refine TLc.p (gc := ((r9.2 == (0 : Int)))) (p_mv rfl (hg := fun e => rfl)) (gcT1 rfl) rfl ?_
      rcases Bool.eq_false_or_eq_true (r9.2 == (0 : Int)) with hc | hc
      · have hX := ite_t hc hX
        rw [hc]
        obtain ⟨r18, hr18, hX⟩ := bind_some hX
        refine TL.guardT rfl ?_
        refine TL.tcX [(b15, RV 220 [Enc.v o14.1, Enc.v o14.2.1, OL (α := (List UInt8)) b16 o14.2.2.1, Enc.v o14.2.2.2]), (b16, RL (α := (List UInt8)) 24 o14.2.2.1)] [(b2, RL (α := Tape_api) 38 l1)] rfl nd (dlt rfl) rfl ⟨rfl, ⟨rfl, ⟨rfl, trivial⟩⟩⟩ (ok_tape_Drive_Append b4 o14.1 o14.2.1 o14.2.2.1 o14.2.2.2 b15 b16 (Nd.take nd 2 rfl) _ hr18) ?_
        rintro _ _ hQ nd
        obtain ⟨b20, rfl, rfl⟩ := hQ
        refine TL.guardT rfl ?_
        refine P1 (p_eql rfl rfl) rfl rfl (P1 (p_and rfl rfl (fun e => ⟨rfl, fun h => rfl⟩)) rfl rfl (TL.nil (hK17 _ _ ?_)))
        refine TK.cond (b := (r18.1 == (0 : Int))) rfl (fun hc => ?_) (fun hc => ?_)
        · have hX := ite_t hc hX
          refine TK.reg ?_
          refine M rfl rfl (M rfl rfl (M rfl rfl ?_))
          obtain ⟨r21, hr21, hX⟩ := bind_some hX
          refine TL.tcX [(b15, RV 220 [Enc.v r18.2.1, Enc.v r18.2.2.1, OL (α := (List UInt8)) b20 r18.2.2.2.1, Enc.v r18.2.2.2.2]), (b20, RL (α := (List UInt8)) 24 r18.2.2.2.1)] [(b2, RL (α := Tape_api) 38 l1)] rfl nd (dlt rfl) rfl ⟨rfl, ⟨rfl, trivial⟩⟩ (ok_tape_Drive_Tape r18.2.1 r18.2.2.1 r18.2.2.2.1 r18.2.2.2.2 b15 b20 (Nd.take nd 2 rfl) _ hr21) ?_
          rintro _ _ hQ nd
          obtain ⟨rfl, rfl⟩ := hQ
          obtain ⟨e22, he22, hX⟩ := bind_some hX
          refine P1 (p_iaO (xs := l1) kd57 ty38 rfl rfl rfl nd (j := 0) rfl (fun _ => he22)) rfl rfl ?_
          refine TLc.stW (xs := l1) (i := at3) (lu := Enc.cl (r21 : Tape_api)) (a' := r21) nd ty38 rfl (j := 0) rfl (by simp [Enc.sz]) (inb_of he22 (by simp)) rfl (Cells_v (r21 : Tape_api)) rfl (WkL_refl _) fun nd => ?_
          refine TL.cv 0 (OL b2 (l1.set at3.toNat r21)) rfl (Wk_eq (OL_len (by simp))) ?_
          refine TL.nil (hKE _ _ (TL.nil ?_))
          try dsimp only [thenQ]
          refine RetQ_end ?_
          exact retX (v := .tup 0 (ofL [])) res0 (by obtain rfl := some_in hX; exact ⟨rfl, rfl⟩) nd (inH_tup (l := []) trivial) ⟨rowIn_RL, trivial⟩
        · have hX := ite_f hc hX
          refine TK.skip ?_
          refine hKE _ _ ?_
          refine TL.pick [2] nd (by decide) fun nd => ?_
          refine TL.nil ?_
          try dsimp only [thenQ]
          refine RetQ_end ?_
          exact retX (v := .tup 0 (ofL [])) res0 (by obtain rfl := some_in hX; exact ⟨rfl, rfl⟩) nd (inH_tup (l := []) trivial) ⟨rowIn_RL, trivial⟩
      · have hX := ite_f hc hX
        rw [hc]
        refine TLc.p (gc := false) (v := Enc.v ((0 : Int) : Int)) (fun e => by cases e) rfl rfl ?_
        refine TLc.p (gc := false) (v := Enc.v false) (fun e => by cases e) rfl rfl ?_
        refine P1 (p_and rfl rfl (fun e => ⟨rfl, fun h => h⟩)) rfl rfl (TL.nil (hK17 _ _ ?_))
        refine TK.cond (b := false) rfl (fun hc => by simp at hc) (fun _ => ?_)
        refine TK.skip ?_
        refine hKE _ _ ?_
        refine TL.pick [2] nd (by decide) fun nd => ?_
        refine TL.nil ?_
        try dsimp only [thenQ]
        refine RetQ_end ?_
        exact retX (v := .tup 0 (ofL [])) res0 (by obtain rfl := some_in hX; exact ⟨rfl, rfl⟩) nd (inH_tup (l := []) trivial) ⟨rowIn_RL, trivial⟩
theorem len_write_layL {at3 : Int} {b4 : (List UInt8)} {l1 : (List Tape_api)} {r : (List Tape_api)} (hX : X.write_layL at3 b4 l1 = some r) : r.length = l1.length := by
  obtain ⟨q, _, h⟩ := bind_some hX
  split at h
  · injection h with h
    subst h
    assumption
  · cases h
theorem ok_write_layL (at3 : Int) (b4 : (List UInt8)) (l1 : (List Tape_api)) (b2 : Nat) (nd : Nd [(b2, RL (α := Tape_api) 38 l1)]) (r : (List Tape_api)) (hX : X.write_layL at3 b4 l1 = some r) : TCX Tryd.prog 95 [OL (α := Tape_api) b2 l1, Enc.v (at3 : Int), Enc.v (b4 : (List UInt8))] [(b2, RL (α := Tape_api) 38 l1)] (fun rv h' => rv = .tup 0 (ofL []) ∧ h' = [(b2, RL (α := Tape_api) 38 r)]) := by
  obtain ⟨q, h1, h2⟩ := bind_some hX
  split at h2
  · injection h2 with h2
    subst h2
    exact ok_write_lay at3 b4 l1 b2 nd _ h1
  · cases h2

/-- cartridge/write.Do -/
theorem ok_write_Do (l1 : (List Tape_api)) (steps2 : (List Step_api)) (stop3 : Int) (bytes4 : Int) (r : ((List Tape_api) × Bool)) (hX : X.write_Do l1 steps2 stop3 bytes4 = some r) : Fun Tryd.prog 61 [Enc.v (l1 : (List Tape_api)), Enc.v (steps2 : (List Step_api)), Enc.v (stop3 : Int), Enc.v (bytes4 : Int)] (· = .tup 2 (ofL [Enc.v r.1, Enc.v r.2])) := by
  refine Fun.of b61 (Nat.le_of_ble_eq_true rfl) (allVal.mem ⟨(by exact (v_val _)), (by exact (v_val _)), (by exact (v_val _)), (by exact (v_val _)), trivial⟩) ?_
  unfold k61
  have nd : Nd [] := Nd_nil
  unfold X.write_Do at hX
  refine SR fun K5 hK5 => M rfl rfl (M rfl rfl (TL.nil (hK5 _ _ (SR fun K6 hK6 => M rfl rfl ?_))))
  obtain ⟨r7, hr7, hX⟩ := bind_some hX
  refine TL.tcX [] [] rfl nd (dlt rfl) rfl ⟨rfl, ⟨rfl, trivial⟩⟩ (ok_tape_CloneAll_or l1 (Nd.take nd 0 rfl) _ hr7) ?_
  rintro _ _ hQ nd
  obtain ⟨b8, rfl, rfl⟩ := hQ
  refine M rfl rfl (TL.nil (hK6 _ _ ?_))
  refine TK.seq_k fun K9 hK9 => ?_
  refine SR fun K10 hK10 => M rfl rfl (P1 (p_lenL (xs := steps2) kd117 rfl) rfl rfl (M rfl rfl (TL.nil (hK10 _ _ ?_))))
  refine TK.block ?_
  obtain ⟨o11, hO11, hA11⟩ := bind_some hX
  have E11 : ∀ (l16 : List Tape_api) (env : Env) (h : Hp), (∃ b15, keepE [10] env = [(10, true, OL b15 l16)] ∧ Nd [(b15, RL (α := Tape_api) 38 l16)] ∧ HSub [(b15, RL (α := Tape_api) 38 l16)] h) → X.write_Do_e11 l16 = some r → K9 env h := by
    intro l16 env h hE hX
    obtain ⟨b15, henv, nd, hs⟩ := hE
    unfold X.write_Do_e11 at hX
    refine hK9 _ _ (TK.keep [10] ?_)
    rw [henv]
    refine TK.subH hs ?_
    refine SR fun K17 hK17 => M rfl rfl (M rfl rfl (M rfl rfl (TL.nil (hK17 _ _ ?_))))
    refine TK.lay [(8, L l16)] nd (j := 0) rfl ⟨⟨_, rfl, fix_OL nd (j := 0) rfl, rfl⟩, trivial⟩ fun nd => ?_
    refine TK.ret ?_
    try dsimp only [thenQ]
    exact retN (vs := [Enc.v l16, Enc.v false]) ⟨rfl, rfl, trivial⟩ (by obtain rfl := some_in hX; rfl) (allVal.mem ⟨v_val _, v_val _, trivial⟩)
  refine TK.iter [2, 3, 10, 15, 16, 17] (fun s env h => match s with | (out13, x14) => ∃ b12, env = [(2, true, Enc.v stop3), (3, true, Enc.v bytes4), (10, true, OL b12 out13), (15, true, Enc.v steps2), (16, true, Enc.v ((steps2.length : Int) : Int)), (17, true, Enc.v x14)] ∧ Nd [(b12, RL (α := Tape_api) 38 out13)] ∧ HSub [(b12, RL (α := Tape_api) 38 out13)] h) hO11 ⟨b8, rfl, (Nd.pick nd (is := [0]) (by decide)), (HSub.pick nd (is := [0]) (by decide))⟩ ?_
  rintro ⟨out13, x14⟩ env h x11x ⟨b12, rfl, nd, hs⟩ hX hR11
  refine TK.subH hs ?_
  unfold X.write_Do_s11 at hX
  try dsimp only at hX
  refine SR fun K18 hK18 => P1 (p_lss rfl rfl) rfl rfl (TL.nil (hK18 _ _ ?_))
  refine TK.seq_k fun K19 hK19 => ?_
  refine TK.cond (b := (decide (x14 < (steps2.length : Int)))) rfl (fun hc => ?_) (fun hc => ?_)
  · have hX := ite_t hc hX
    refine TK.skip ?_
    refine hK19 _ _ ?_
    refine TK.seq_k fun K20 hK20 => ?_
    refine TK.block ?_
    refine SR fun K21 hK21 => M rfl rfl ?_
    obtain ⟨e22, he22, hX⟩ := bind_some hX
    refine P1 (p_iaL (xs := steps2) kd117 ty167 rfl rfl rfl (fun _ => he22)) rfl rfl (P1 (p_ldE (xs := steps2) (a := e22) (e22 : Step_api) ty167 rfl rfl (fun _ => he22) rfl rfl rfl) rfl rfl ?_)
    refine TLc.alO (l := [Enc.v ((0 : Int) : Int), .nils]) nd ty167 ti167_z rfl rfl fun b23 nd => ?_
    refine M rfl rfl ?_
    refine TLc.stV (lu := Enc.cl (e22 : Step_api)) nd ty167 rfl (j := 0) rfl rfl rfl (Cells_v (e22 : Step_api)) rfl rfl [Enc.v e22.Tape, Enc.v e22.Block] rfl fun nd => ?_
    refine TL.nil (hK21 _ _ ?_)
    refine TK.seq_k fun K24 hK24 => ?_
    refine SR fun K25 hK25 => M rfl rfl (M rfl rfl (P1 (p_eql rfl rfl) rfl rfl (TL.nil (hK25 _ _ ?_))))
    refine TK.cond (b := (x14 == stop3)) rfl (fun hc => ?_) (fun hc => ?_)
    · have hX := ite_t hc hX
      refine TK.seq_k fun K26 hK26 => ?_
      have J26 : ∀ (l28 : List Tape_api) (env : Env) (h : Hp), (∃ b27, keepE [10] env = [(10, true, OL b27 l28)] ∧ Nd [(b27, RL (α := Tape_api) 38 l28)] ∧ HSub [(b27, RL (α := Tape_api) 38 l28)] h) → X.write_Do_j26 l28 = some x11x → K26 env h := by
        intro l28 env h hE hX
        obtain ⟨b27, henv, nd, hs⟩ := hE
        unfold X.write_Do_j26 at hX
        refine hK26 _ _ (TK.keep [10] ?_)
        rw [henv]
        refine TK.subH hs ?_
        refine SR fun K29 hK29 => M rfl rfl (M rfl rfl (M rfl rfl (TL.nil (hK29 _ _ ?_))))
        refine TK.lay [(8, L l28)] nd (j := 0) rfl ⟨⟨_, rfl, fix_OL nd (j := 0) rfl, rfl⟩, trivial⟩ fun nd => ?_
        refine TK.ret ?_
        obtain rfl := hR11 _ (some_in hX).symm
        replace hX := hA11
        try dsimp only [thenQ]
        exact retN (vs := [Enc.v l28, Enc.v true]) ⟨rfl, rfl, trivial⟩ (by obtain rfl := some_in hX; rfl) (allVal.mem ⟨v_val _, v_val _, trivial⟩)
      refine SR fun K30 hK30 => M rfl rfl (P1 (p_gtr rfl rfl) rfl rfl (TL.nil (hK30 _ _ ?_)))
      refine TK.cond (b := (decide (bytes4 > (0 : Int)))) rfl (fun hc => ?_) (fun hc => ?_)
      · have hX := ite_t hc hX
        refine TK.pick [1, 0] nd (by decide) fun nd => ?_
        have ndS : Nd [(b23, RV 167 [Enc.v e22.Tape, Enc.v e22.Block])] := Nd.pick nd (is := [1]) (by decide)
        refine TK.endK fun KD hKD => ?_
        refine TK.drwX (h := [(b12, RL (α := Tape_api) 38 out13)]) (hS := [(b23, RV 167 [Enc.v e22.Tape, Enc.v e22.Block])]) [(0, 0), (0, 1), (0, 2), (0, 3), (0, 4), (0, 5), (0, 6), (0, 7), (0, 8), (0, 9), (0, 10), (2, 11)] mixed (by kernel_rfl) (HSub_app nd) ?_
        refine DM rfl rfl rfl ?_
        refine D0 rfl (p_faV fs167_0 (by decide) rfl ndS (j := 0) rfl rfl) rfl rfl ?_
        refine D0 rfl (p_ldV (v := Enc.v e22.Tape) ty3 rfl rfl ndS (j := 0) rfl rfl rfl rfl rfl) rfl rfl ?_
        refine D0 rfl (p_faV fs167_1 (by decide) rfl ndS (j := 0) rfl rfl) rfl rfl ?_
        refine D0 rfl (p_ldV (v := Enc.v e22.Block) ty24 rfl rfl ndS (j := 0) rfl rfl rfl rfl rfl) rfl rfl ?_
        refine DM rfl rfl rfl ?_
        refine D0 rfl (p_faV fs167_1 (by decide) rfl ndS (j := 0) rfl rfl) rfl rfl ?_
        refine D0 rfl (p_ldV (v := Enc.v e22.Block) ty24 rfl rfl ndS (j := 0) rfl rfl rfl rfl rfl) rfl rfl ?_
        refine D0 rfl (p_lenL (xs := e22.Block) kd24 rfl) rfl rfl ?_
        refine D0 rfl (p_min rfl rfl) rfl rfl ?_
        obtain ⟨u31, hu31, hX⟩ := bind_some hX
        refine D0 rfl (p_sliL (xs := e22.Block) (l := (0 : Int)) (k := (min bytes4 (e22.Block.length : Int))) kd24 ty5 rfl rfl rfl rfl (fun e => need_t hu31)) rfl rfl ?_
        obtain ⟨r32, hr32, hX⟩ := bind_some hX
        refine DR2 rfl rfl ?_
        refine TL.tcX [(b12, RL (α := Tape_api) 38 out13)] [(b23, RV 167 [Enc.v e22.Tape, Enc.v e22.Block])] rfl nd (dlt rfl) rfl ⟨rfl, ⟨rfl, ⟨rfl, ⟨rfl, trivial⟩⟩⟩⟩ (ok_write_layL e22.Tape (slc e22.Block (0 : Int) (min bytes4 (e22.Block.length : Int))) out13 b12 (Nd.take nd 1 rfl) _ hr32) ?_
        rintro _ _ hQ nd
        obtain ⟨rfl, rfl⟩ := hQ
        refine TL.nil ⟨_, [(b12, RL (α := Tape_api) 38 r32)], rfl, rfl, HSub_app nd, ?_⟩
        refine DRend ?_
        refine hKD _ _ ?_
        refine TL.cv 10 (OL b12 r32) rfl (Wk_eq (OL_len (by first | exact len_write_layL hr32 | exact (len_write_layL hr32).symm))) ?_
        refine TL.nil ?_
        exact J26 r32 _ _ ⟨b12, rfl, (Nd.pick nd (is := [0]) (by decide)), (HSub.pick nd (is := [0]) (by decide))⟩ hX
      · have hX := ite_f hc hX
        refine TK.skip ?_
        exact J26 out13 _ _ ⟨b12, rfl, (Nd.pick nd (is := [1]) (by decide)), (HSub.pick nd (is := [1]) (by decide))⟩ hX
    · have hX := ite_f hc hX
      refine TK.skip ?_
      refine hK24 _ _ ?_
      refine TK.reg ?_
      refine M rfl rfl (P1 (p_faV fs167_0 (by decide) rfl nd (j := 0) rfl rfl) rfl rfl (P1 (p_ldV (v := Enc.v e22.Tape) ty3 rfl rfl nd (j := 0) rfl rfl rfl rfl rfl) rfl rfl (P1 (p_faV fs167_1 (by decide) rfl nd (j := 0) rfl rfl) rfl rfl (P1 (p_ldV (v := Enc.v e22.Block) ty24 rfl rfl nd (j := 0) rfl rfl rfl rfl rfl) rfl rfl ?_))))
      obtain ⟨r33, hr33, hX⟩ := bind_some hX
      refine TL.pick [1, 0] nd (by decide) fun nd => ?_
      refine TL.tcX [(b12, RL (α := Tape_api) 38 out13)] [(b23, RV 167 [Enc.v e22.Tape, Enc.v e22.Block])] rfl nd (dlt rfl) rfl ⟨rfl, ⟨rfl, ⟨rfl, ⟨rfl, trivial⟩⟩⟩⟩ (ok_write_layL e22.Tape e22.Block out13 b12 (Nd.take nd 1 rfl) _ hr33) ?_
      rintro _ _ hQ nd
      obtain ⟨rfl, rfl⟩ := hQ
      refine TL.cv 10 (OL b12 r33) rfl (Wk_eq (OL_len (by first | exact len_write_layL hr33 | exact (len_write_layL hr33).symm))) ?_
      refine TL.cv 40 (OL b12 r33) rfl (Wk_eq (OL_len (by first | exact len_write_layL hr33 | exact (len_write_layL hr33).symm))) ?_
      refine TL.nil (hK20 _ _ ?_)
      refine TK.reg ?_
      refine P1 (p_add rfl rfl) rfl rfl (M rfl rfl (TL.nil ?_))
      exact ⟨_, (some_in hX).symm, b12, rfl, (Nd.pick nd (is := [0]) (by decide)), (HSub.pick nd (is := [0]) (by decide))⟩
  · have hX := ite_f hc hX
    refine TK.exit ?_
    obtain rfl := hR11 _ (some_in hX).symm
    exact E11 out13 _ _ ⟨b12, rfl, (Nd.pick nd (is := [0]) (by decide)), (HSub.pick nd (is := [0]) (by decide))⟩ hA11

/-- cartridge/cartridgelaw20.num -/
theorem ok_cartridgelaw20_num (e1 : Int) (r : Int) (hX : X.cartridgelaw20_num e1 = some r) : Fun Tryd.prog 62 [Enc.v (e1 : Int)] (· = Enc.v (r : Int)) := by
  refine Fun.of b62 (Nat.le_of_ble_eq_true rfl) (allVal.mem ⟨(by exact (v_val _)), trivial⟩) ?_
  unfold k62
  have nd : Nd [] := Nd_nil
  unfold X.cartridgelaw20_num at hX
  refine SR fun K2 hK2 => M rfl rfl (TL.nil (hK2 _ _ (SR fun K3 hK3 => M rfl rfl (M rfl rfl (TL.nil (hK3 _ _ ?_))))))
  refine TK.ret ?_
  try dsimp only [thenQ]
  exact R1 rfl hX

end Go.Proofs.YtliahlgkinhjlaaDoor
