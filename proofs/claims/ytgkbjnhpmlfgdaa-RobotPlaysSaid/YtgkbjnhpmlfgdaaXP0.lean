import Derived.Test.YtgkbjnhpmlfgdaaXFn
import Derived.Test.YtgkbjnhpmlfgdaaXS
import Derived.Test.YtgkbjnhpmlfgdaaAmK0
/- That they do. -/
namespace Go.Proofs.Ytgkbjnhpmlfgdaa
open Go.AM Go.AX
set_option linter.unusedVariables false
set_option maxRecDepth 20000

/-- slices.Index[[]int,int] -/
theorem ok_slices_Index_Lint_int (s1 : (List Int)) (v2 : Int) (r : Int) (hX : X.slices_Index_Lint_int s1 v2 = some r) : Fun Try.prog 111 [Enc.v (s1 : (List Int)), Enc.v (v2 : Int)] (· = Enc.v (r : Int)) := by
  refine Fun.of b111 (Nat.le_of_ble_eq_true rfl) (allVal.mem ⟨(by exact (v_val _)), (by exact (v_val _)), trivial⟩) ?_
  unfold k111
  have nd : Nd [] := Nd_nil
  unfold X.slices_Index_Lint_int at hX
  refine TK.seq_k fun K3 hK3 => ?_
  refine TK.reg ?_
  refine TL.p (C := cx) (gc := true) (p_mv rfl) rfl rfl ?_
  refine TL.nil ?_
  refine hK3 _ _ ?_
  refine TK.seq_k fun K4 hK4 => ?_
  refine TK.seq_k fun K5 hK5 => ?_
  refine TK.reg ?_
  refine TL.p (C := cx) (gc := true) (p_mv rfl) rfl rfl ?_
  refine TL.p (C := cx) (gc := true) (p_lenL (xs := s1) kd46 rfl) rfl rfl ?_
  refine TL.p (C := cx) (gc := true) (p_mv rfl) rfl rfl ?_
  refine TL.nil ?_
  refine hK5 _ _ ?_
  refine TK.block ?_
  obtain ⟨o6, hO6, hA6⟩ := bind_some hX
  have E6 : ∀ (env : Env) (h : Hp), (∃ _u : Unit, keepE [] env = [] ∧ Nd [] ∧ HSub [] h) → X.slices_Index_Lint_int_e6 = some r → K4 env h := by
    intro  env h hE hX
    obtain ⟨_u, henv, nd, hs⟩ := hE
    unfold X.slices_Index_Lint_int_e6 at hX
    refine hK4 _ _ (TK.keep [] ?_)
    rw [henv]
    refine TK.subH hs ?_
    refine TK.seq_k fun K8 hK8 => ?_
    refine TK.reg ?_
    refine TL.p (C := cx) (gc := true) (p_mv rfl) rfl rfl ?_
    refine TL.nil ?_
    refine hK8 _ _ ?_
    refine TK.ret ?_
    try dsimp only [thenQ]
    exact ret1 (v := Enc.v (((-1) : Int) : Int)) rfl (by obtain rfl := some_in hX; rfl) (v_val _)
  refine TK.iter [0, 1, 7, 8] (fun s env h => match s with | x7 => ∃ _u : Unit, env = [(0, true, Enc.v (s1 : (List Int))), (1, true, Enc.v (v2 : Int)), (7, true, Enc.v ((s1.length : Int) : Int)), (8, true, Enc.v (x7 : Int))] ∧ Nd [] ∧ HSub [] h) hO6 ⟨(), rfl, Nd_nil, HSub.refl _⟩ ?_
  rintro x7 env h x6x ⟨_u, rfl, nd, hs⟩ hX hR6
  refine TK.subH hs ?_
  unfold X.slices_Index_Lint_int_s6 at hX
  try dsimp only at hX
  refine TK.seq_k fun K9 hK9 => ?_
  refine TK.reg ?_
  refine TL.p (C := cx) (gc := true) (p_lss rfl rfl) rfl rfl ?_
  refine TL.nil ?_
  refine hK9 _ _ ?_
  refine TK.seq_k fun K10 hK10 => ?_
  refine TK.cond (b := (decide (x7 < (s1.length : Int)))) rfl (fun hc => ?_) (fun hc => ?_)
  · have hX := ite_t hc hX
    refine TK.skip ?_
    refine hK10 _ _ ?_
    refine TK.seq_k fun K11 hK11 => ?_
    refine TK.block ?_
    refine TK.seq_k fun K12 hK12 => ?_
    refine TK.reg ?_
    refine TL.p (C := cx) (gc := true) (p_mv rfl) rfl rfl ?_
    refine TL.p (C := cx) (gc := true) (p_mv rfl) rfl rfl ?_
    refine TL.nil ?_
    refine hK12 _ _ ?_
    refine TK.seq_k fun K13 hK13 => ?_
    refine TK.reg ?_
    refine TL.p (C := cx) (gc := true) (p_mv rfl) rfl rfl ?_
    refine TL.p (C := cx) (gc := true) (p_mv rfl) rfl rfl ?_
    refine TL.p (C := cx) (gc := true) (p_mv rfl) rfl rfl ?_
    obtain ⟨e14, he14, hX⟩ := bind_some hX
    refine TL.p (C := cx) (gc := true) (p_iaL (xs := s1) kd46 ty3 rfl rfl rfl (fun _ => he14)) rfl rfl ?_
    refine TL.p (C := cx) (gc := true) (p_ldE (xs := s1) (a := e14) (e14 : Int) ty3 rfl rfl (fun _ => he14) rfl rfl rfl) rfl rfl ?_
    refine TL.p (C := cx) (gc := true) (p_eql rfl rfl) rfl rfl ?_
    refine TL.nil ?_
    refine hK13 _ _ ?_
    refine TK.cond (b := (v2 == e14)) rfl (fun hc => ?_) (fun hc => ?_)
    · have hX := ite_t hc hX
      refine TK.seq_k fun K15 hK15 => ?_
      refine TK.reg ?_
      refine TL.p (C := cx) (gc := true) (p_mv rfl) rfl rfl ?_
      refine TL.p (C := cx) (gc := true) (p_mv rfl) rfl rfl ?_
      refine TL.nil ?_
      refine hK15 _ _ ?_
      refine TK.ret ?_
      obtain rfl := hR6 _ (some_in hX).symm
      replace hX := hA6
      try dsimp only [thenQ]
      exact ret1 (v := Enc.v (x7 : Int)) rfl (by obtain rfl := some_in hX; rfl) (v_val _)
    · have hX := ite_f hc hX
      refine TK.skip ?_
      refine hK11 _ _ ?_
      refine TK.reg ?_
      refine TL.p (C := cx) (gc := true) (p_add rfl rfl) rfl rfl ?_
      refine TL.p (C := cx) (gc := true) (p_mv rfl) rfl rfl ?_
      refine TL.nil ?_
      exact ⟨_, (some_in hX).symm, (), rfl, Nd_nil, HSub.refl _⟩
  · have hX := ite_f hc hX
    refine TK.exit ?_
    obtain rfl := hR6 _ (some_in hX).symm
    exact E6 _ _ ⟨(), rfl, Nd_nil, HSub.refl _⟩ hA6

/-- slices.Contains[[]int,int] -/
theorem ok_slices_Contains_Lint_int (s1 : (List Int)) (v2 : Int) (r : Bool) (hX : X.slices_Contains_Lint_int s1 v2 = some r) : Fun Try.prog 99 [Enc.v (s1 : (List Int)), Enc.v (v2 : Int)] (· = Enc.v (r : Bool)) := by
  refine Fun.of b99 (Nat.le_of_ble_eq_true rfl) (allVal.mem ⟨(by exact (v_val _)), (by exact (v_val _)), trivial⟩) ?_
  unfold k99
  have nd : Nd [] := Nd_nil
  unfold X.slices_Contains_Lint_int at hX
  refine TK.seq_k fun K3 hK3 => ?_
  refine TK.reg ?_
  refine TL.p (C := cx) (gc := true) (p_mv rfl) rfl rfl ?_
  refine TL.nil ?_
  refine hK3 _ _ ?_
  refine TK.seq_k fun K4 hK4 => ?_
  refine TK.reg ?_
  refine TL.p (C := cx) (gc := true) (p_mv rfl) rfl rfl ?_
  refine TL.p (C := cx) (gc := true) (p_mv rfl) rfl rfl ?_
  obtain ⟨r5, hr5, hX⟩ := bind_some hX
  refine TL.cvX rfl rfl rfl (fun _ => ⟨rfl, ⟨rfl, ⟨rfl, trivial⟩⟩⟩) (fun e => ok_slices_Index_Lint_int s1 v2 _ hr5) ?_
  refine TL.p (C := cx) (gc := true) (p_geq rfl rfl) rfl rfl ?_
  refine TL.p (C := cx) (gc := true) (p_mv rfl) rfl rfl ?_
  refine TL.nil ?_
  refine hK4 _ _ ?_
  refine TK.ret ?_
  try dsimp only [thenQ]
  exact ret1 (v := Enc.v ((decide (r5 ≥ (0 : Int))) : Bool)) rfl (by obtain rfl := some_in hX; rfl) (v_val _)

/-- slices.Clone[[]int,int] -/
theorem ok_slices_Clone_Lint_int (s1 : (List Int)) (r : (List Int)) (hX : X.slices_Clone_Lint_int s1 = some r) : Fun Try.prog 76 [Enc.v (s1 : (List Int))] (· = Enc.v (r : (List Int))) := by
  refine Fun.of b76 (Nat.le_of_ble_eq_true rfl) (allVal.mem ⟨(by exact (v_val _)), trivial⟩) ?_
  unfold k76
  have nd : Nd [] := Nd_nil
  unfold X.slices_Clone_Lint_int at hX
  refine TK.seq_k fun K2 hK2 => ?_
  refine TK.reg ?_
  refine TL.p (C := cx) (gc := true) (p_mv rfl) rfl rfl ?_
  refine TL.nil ?_
  refine hK2 _ _ ?_
  refine TK.seq_k fun K3 hK3 => ?_
  refine TK.seq_k fun K4 hK4 => ?_
  refine TK.reg ?_
  refine TL.p (C := cx) (gc := true) (p_mv rfl) rfl rfl ?_
  refine TL.eqNilU (C := cx) (xs := s1) kd46 rfl rfl rfl fun z5 hbz5 => ?_
  replace hX := nilU_t hX hbz5
  refine TL.nil ?_
  refine hK4 _ _ ?_
  refine TK.cond (b := z5) rfl (fun hc => ?_) (fun hc => ?_)
  · have hX := ite_t hc hX
    refine TK.seq_k fun K6 hK6 => ?_
    refine TK.reg ?_
    refine TL.p (C := cx) (gc := true) (p_mv rfl) rfl rfl ?_
    refine TL.nil ?_
    refine hK6 _ _ ?_
    refine TK.wk 2 (L ([] : (List Int))) rfl Wk_nil ?_
    refine TK.ret ?_
    try dsimp only [thenQ]
    exact ret1 (v := Enc.v (([] : (List Int)) : (List Int))) rfl (by obtain rfl := some_in hX; rfl) (v_val _)
  · have hX := ite_f hc hX
    refine TK.skip ?_
    refine hK3 _ _ ?_
    refine TK.seq_k fun K7 hK7 => ?_
    refine TK.reg ?_
    refine TL.litZ (C := cx) kd46 ty3 rfl ?_
    refine TL.p (C := cx) (gc := true) (p_mv rfl) rfl rfl ?_
    obtain ⟨u8, hu8, hX⟩ := bind_some hX
    refine TL.appN (C := cx) nd kd46 bo46 ty3 rfl rfl (.inr rfl) rfl (Src_L _) (by decide) (need_t hu8) rfl fun b9 nd => ?_
    refine TL.p (C := cx) (gc := true) (p_mv rfl) rfl rfl ?_
    refine TL.nil ?_
    refine hK7 _ _ ?_
    refine TK.lay [(2, L s1)] nd (j := 0) rfl ⟨⟨_, rfl, fix_OL nd (j := 0) rfl, rfl⟩, trivial⟩ fun nd => ?_
    refine TK.ret ?_
    try dsimp only [thenQ]
    exact ret1 (v := Enc.v (s1 : (List Int))) rfl (by obtain rfl := some_in hX; rfl) (v_val _)

/-- cartridge/shelf.New -/
theorem ok_shelf_New (labels1 : (List Int)) (drives2 : Int) (nd : Nd []) (r : ((Option ((List Int) × (List Int))) × Int)) (hX : X.shelf_New labels1 drives2 = some r) : TCX Try.prog 75 [Enc.v (labels1 : (List Int)), Enc.v (drives2 : Int)] [] (fun rv h' => match r.1 with | none => (rv = .tup 2 (ofL [.nilp, Enc.v (r.2 : Int)]) ∧ h' = []) | some ov => (∃ b25 b26, rv = .tup 2 (ofL [.ref b25 0 2, Enc.v (r.2 : Int)]) ∧ h' = [(b25, RV 127 [Enc.v (ov.1 : (List Int)), OL (α := Int) b26 ov.2]), (b26, RL (α := Int) 3 ov.2)])) := by
  refine TCX.of b75 (Nat.le_of_ble_eq_true rfl) ?_
  unfold k75
  unfold X.shelf_New at hX
  refine TK.seq_k fun K3 hK3 => ?_
  refine TK.reg ?_
  refine TL.p (C := cx) (gc := true) (p_mv rfl) rfl rfl ?_
  refine TL.p (C := cx) (gc := true) (p_mv rfl) rfl rfl ?_
  refine TL.nil ?_
  refine hK3 _ _ ?_
  refine TK.seq_k fun K4 hK4 => ?_
  refine TK.seq_k fun K5 hK5 => ?_
  refine TK.reg ?_
  refine TL.p (C := cx) (gc := true) (p_mv rfl) rfl rfl ?_
  refine TL.p (C := cx) (gc := true) (p_lenL (xs := labels1) kd46 rfl) rfl rfl ?_
  refine TL.p (C := cx) (gc := true) (p_gtr rfl rfl) rfl rfl ?_
  refine TL.p (C := cx) (gc := true) (p_mv rfl) rfl rfl ?_
  refine TL.p (C := cx) (gc := (!((decide ((labels1.length : Int) > (30 : Int)))))) (p_mv rfl (hg := fun e => rfl)) (gcF1 rfl) rfl ?_
  refine TL.p (C := cx) (gc := (!((decide ((labels1.length : Int) > (30 : Int)))))) (p_lss rfl rfl (hg := fun e => ⟨e, rfl⟩)) (gcF1 rfl) rfl ?_
  refine TL.p (C := cx) (gc := true) (p_or rfl rfl (fun e => ⟨rfl, fun h => (not_t h)⟩)) rfl rfl ?_
  refine TL.p (C := cx) (gc := true) (p_mv rfl) rfl rfl ?_
  refine TL.p (C := cx) (gc := (!(((decide ((labels1.length : Int) > (30 : Int))) || (decide (drives2 < (1 : Int))))))) (p_mv rfl (hg := fun e => rfl)) (gcF1 rfl) rfl ?_
  refine TL.p (C := cx) (gc := (!(((decide ((labels1.length : Int) > (30 : Int))) || (decide (drives2 < (1 : Int))))))) (p_gtr rfl rfl (hg := fun e => ⟨e, rfl⟩)) (gcF1 rfl) rfl ?_
  refine TL.p (C := cx) (gc := true) (p_or rfl rfl (fun e => ⟨rfl, fun h => (not_t h)⟩)) rfl rfl ?_
  refine TL.nil ?_
  refine hK5 _ _ ?_
  refine TK.cond (b := (((decide ((labels1.length : Int) > (30 : Int))) || (decide (drives2 < (1 : Int)))) || (decide (drives2 > (4 : Int))))) rfl (fun hc => ?_) (fun hc => ?_)
  · have hX := ite_t hc hX
    refine TK.seq_k fun K6 hK6 => ?_
    refine TK.reg ?_
    refine TL.p (C := cx) (gc := true) (p_mv rfl) rfl rfl ?_
    refine TL.p (C := cx) (gc := true) (p_mv rfl) rfl rfl ?_
    refine TL.nil ?_
    refine hK6 _ _ ?_
    refine TK.ret ?_
    try dsimp only [thenQ]
    exact retX (v := .tup 2 (ofL [.nilp, Enc.v ((1 : Int) : Int)])) (resN (vs := [.nilp, Enc.v ((1 : Int) : Int)]) ⟨rfl, rfl, trivial⟩) (by obtain rfl := some_in hX; exact ⟨rfl, rfl⟩) nd (inH_tup (l := [.nilp, Enc.v ((1 : Int) : Int)]) ⟨trivial, inH_val (v_val _), trivial⟩) trivial
  · have hX := ite_f hc hX
    refine TK.skip ?_
    refine hK4 _ _ ?_
    refine TK.seq_k fun K7 hK7 => ?_
    refine TK.seq_k fun K8 hK8 => ?_
    refine TK.reg ?_
    refine TL.p (C := cx) (gc := true) (p_mv rfl) rfl rfl ?_
    refine TL.p (C := cx) (gc := true) (p_lenL (xs := labels1) kd46 rfl) rfl rfl ?_
    refine TL.p (C := cx) (gc := true) (p_mv rfl) rfl rfl ?_
    refine TL.nil ?_
    refine hK8 _ _ ?_
    refine TK.block ?_
    obtain ⟨o9, hO9, hA9⟩ := bind_some hX
    have E9 : ∀ (env : Env) (h : Hp), (∃ _u : Unit, keepE [0, 1] env = [(0, true, Enc.v (labels1 : (List Int))), (1, true, Enc.v (drives2 : Int))] ∧ Nd [] ∧ HSub [] h) → X.shelf_New_e9 labels1 drives2 = some r → K7 env h := by
      intro  env h hE hX
      obtain ⟨_u, henv, nd, hs⟩ := hE
      unfold X.shelf_New_e9 at hX
      refine hK7 _ _ (TK.keep [0, 1] ?_)
      rw [henv]
      refine TK.subH hs ?_
      refine TK.seq_k fun K11 hK11 => ?_
      have ndS : Nd [] := Nd.pick nd (is := []) (by decide)
      refine TK.drwX (h := []) (hS := []) [(0, 0), (0, 1), (0, 2), (2, 3), (1, 4), (2, 5), (0, 6), (0, 7)] mixed (by kernel_rfl) (HSub_app nd) ?_
      refine DR0 (gc := true) rfl (vok_p (C := cx) (p_mv rfl)) rfl rfl ?_
      obtain ⟨r12, hr12, hX⟩ := bind_some hX
      refine DR0 (gc := true) rfl (vok_c rfl (fun _ => ⟨rfl, ⟨rfl, trivial⟩⟩) (fun e => ok_slices_Clone_Lint_int labels1 _ hr12)) rfl rfl ?_
      refine DR0 (gc := true) rfl (vok_p (C := cx) (p_mv rfl)) rfl rfl ?_
      obtain ⟨u13, hu13, hX⟩ := bind_some hX
      refine DR2 rfl rfl ?_
      refine TL.mkO (C := cx) nd (0 : Int) kd46 ty3 rfl (fun j hj => by (have : j = 0 := by simpa [Enc.sz] using hj); subst this; rfl) rfl rfl (by decide) (need_t hu13) rfl fun b14 nd => ?_
      refine TL.nil ⟨_, [(b14, RL (α := Int) 3 (List.replicate drives2.toNat (0 : Int)))], rfl, rfl, HSub_app nd, ?_⟩
      refine DR1 (gc := true) rfl (vok_p (C := cx) (p_bld (l := [Enc.v (r12 : (List Int)), OL (α := Int) b14 (List.replicate drives2.toNat (0 : Int))]) ty127 rfl all127 rfl (fun _ => ⟨⟨rfl, trivial, rfl⟩, ⟨rfl, (refOK_of nd (j := 0) rfl rfl), rfl⟩, trivial⟩))) rfl rfl ?_
      refine DR2 rfl rfl ?_
      refine TL.boxO (C := cx) (lu := [Enc.v (r12 : (List Int)), OL (α := Int) b14 (List.replicate drives2.toNat (0 : Int))]) nd rfl (Cells_agg rfl (allA.mem ⟨trivial, oneA_rs (refOK_of nd (j := 0) rfl rfl), trivial⟩)) rfl fun b15 nd => ?_
      refine TL.nil ⟨_, [(b15, RV 127 [Enc.v (r12 : (List Int)), OL (α := Int) b14 (List.replicate drives2.toNat (0 : Int))]), (b14, RL (α := Int) 3 (List.replicate drives2.toNat (0 : Int)))], rfl, rfl, HSub_app nd, ?_⟩
      refine DR0 (gc := true) rfl (vok_p (C := cx) (p_mv rfl)) rfl rfl ?_
      refine DR0 (gc := true) rfl (vok_p (C := cx) (p_mv rfl)) rfl rfl ?_
      refine DRend ?_
      refine hK11 _ _ ?_
      refine TK.ret ?_
      try dsimp only [thenQ]
      exact retX (v := .tup 2 (ofL [.ref b15 0 2, Enc.v ((0 : Int) : Int)])) (resN (vs := [.ref b15 0 2, Enc.v ((0 : Int) : Int)]) ⟨rfl, rfl, trivial⟩) (by obtain rfl := some_in hX; exact ⟨b15, b14, rfl, rfl⟩) nd (inH_tup (l := [.ref b15 0 2, Enc.v ((0 : Int) : Int)]) ⟨inH_ref nd (j := 0) rfl, inH_val (v_val _), trivial⟩) ⟨rowIn_RV ⟨inH_val (v_val _), inH_rs nd (j := 1) rfl, trivial⟩, rowIn_RL, trivial⟩
    refine TK.iter [0, 1, 19, 20, 21] (fun s env h => match s with | x10 => ∃ _u : Unit, env = [(0, true, Enc.v (labels1 : (List Int))), (1, true, Enc.v (drives2 : Int)), (19, true, Enc.v (labels1 : (List Int))), (20, true, Enc.v ((labels1.length : Int) : Int)), (21, true, Enc.v (x10 : Int))] ∧ Nd [] ∧ HSub [] h) hO9 ⟨(), rfl, Nd_nil, HSub.refl _⟩ ?_
    rintro x10 env h x9x ⟨_u, rfl, nd, hs⟩ hX hR9
    refine TK.subH hs ?_
    unfold X.shelf_New_s9 at hX
    try dsimp only at hX
    refine TK.seq_k fun K16 hK16 => ?_
    refine TK.reg ?_
    refine TL.p (C := cx) (gc := true) (p_lss rfl rfl) rfl rfl ?_
    refine TL.nil ?_
    refine hK16 _ _ ?_
    refine TK.seq_k fun K17 hK17 => ?_
    refine TK.cond (b := (decide (x10 < (labels1.length : Int)))) rfl (fun hc => ?_) (fun hc => ?_)
    · have hX := ite_t hc hX
      refine TK.skip ?_
      refine hK17 _ _ ?_
      refine TK.seq_k fun K18 hK18 => ?_
      refine TK.block ?_
      refine TK.seq_k fun K19 hK19 => ?_
      refine TK.reg ?_
      refine TL.p (C := cx) (gc := true) (p_mv rfl) rfl rfl ?_
      obtain ⟨e20, he20, hX⟩ := bind_some hX
      refine TL.p (C := cx) (gc := true) (p_iaL (xs := labels1) kd46 ty3 rfl rfl rfl (fun _ => he20)) rfl rfl ?_
      refine TL.p (C := cx) (gc := true) (p_ldE (xs := labels1) (a := e20) (e20 : Int) ty3 rfl rfl (fun _ => he20) rfl rfl rfl) rfl rfl ?_
      refine TL.p (C := cx) (gc := true) (p_mv rfl) rfl rfl ?_
      refine TL.p (C := cx) (gc := true) (p_mv rfl) rfl rfl ?_
      refine TL.nil ?_
      refine hK19 _ _ ?_
      refine TK.seq_k fun K21 hK21 => ?_
      refine TK.reg ?_
      refine TL.p (C := cx) (gc := true) (p_mv rfl) rfl rfl ?_
      refine TL.p (C := cx) (gc := true) (p_lss rfl rfl) rfl rfl ?_
      refine TL.p (C := cx) (gc := true) (p_mv rfl) rfl rfl ?_
      refine TL.p (C := cx) (gc := (!((decide (e20 < (1 : Int)))))) (p_mv rfl (hg := fun e => rfl)) (gcF1 rfl) rfl ?_
      refine TL.p (C := cx) (gc := (!((decide (e20 < (1 : Int)))))) (p_mv rfl (hg := fun e => rfl)) (gcF1 rfl) rfl ?_
      obtain ⟨u22, hu22, hX⟩ := bind_some hX
      refine TL.p (C := cx) (gc := (!((decide (e20 < (1 : Int)))))) (p_sliL (xs := labels1) (l := (0 : Int)) (k := x10) kd46 ty3 rfl rfl rfl rfl (fun e => need_t (optG_t hu22 e)) (hg := fun e => ⟨e, rfl, e⟩)) (gcF1 rfl) rfl ?_
      refine TL.p (C := cx) (gc := (!((decide (e20 < (1 : Int)))))) (p_mv rfl (hg := fun e => rfl)) (gcF1 rfl) rfl ?_
      obtain ⟨r23, hr23, hX⟩ := bind_some hX
      refine TL.cvX (gcF1 rfl) rfl rfl (fun e => ⟨rfl, ⟨e, ⟨e, trivial⟩⟩⟩) (fun e => ok_slices_Contains_Lint_int (slc labels1 (0 : Int) x10) e20 _ (optG_t hr23 e)) ?_
      refine TL.p (C := cx) (gc := true) (p_or rfl rfl (fun e => ⟨rfl, fun h => (not_t h)⟩)) rfl rfl ?_
      refine TL.nil ?_
      refine hK21 _ _ ?_
      refine TK.cond (b := ((decide (e20 < (1 : Int))) || r23)) rfl (fun hc => ?_) (fun hc => ?_)
      · have hX := ite_t hc hX
        refine TK.seq_k fun K24 hK24 => ?_
        refine TK.reg ?_
        refine TL.p (C := cx) (gc := true) (p_mv rfl) rfl rfl ?_
        refine TL.p (C := cx) (gc := true) (p_mv rfl) rfl rfl ?_
        refine TL.nil ?_
        refine hK24 _ _ ?_
        refine TK.ret ?_
        obtain rfl := hR9 _ (some_in hX).symm
        replace hX := hA9
        try dsimp only [thenQ]
        exact retX (v := .tup 2 (ofL [.nilp, Enc.v ((1 : Int) : Int)])) (resN (vs := [.nilp, Enc.v ((1 : Int) : Int)]) ⟨rfl, rfl, trivial⟩) (by obtain rfl := some_in hX; exact ⟨rfl, rfl⟩) nd (inH_tup (l := [.nilp, Enc.v ((1 : Int) : Int)]) ⟨trivial, inH_val (v_val _), trivial⟩) trivial
      · have hX := ite_f hc hX
        refine TK.skip ?_
        refine hK18 _ _ ?_
        refine TK.reg ?_
        refine TL.p (C := cx) (gc := true) (p_add rfl rfl) rfl rfl ?_
        refine TL.p (C := cx) (gc := true) (p_mv rfl) rfl rfl ?_
        refine TL.nil ?_
        exact ⟨_, (some_in hX).symm, (), rfl, Nd_nil, HSub.refl _⟩
    · have hX := ite_f hc hX
      refine TK.exit ?_
      obtain rfl := hR9 _ (some_in hX).symm
      exact E9 _ _ ⟨(), rfl, Nd_nil, HSub.refl _⟩ hA9

/-- cartridge/robot.New -/
theorem ok_robot_New (labels1 : (List Int)) (drives2 : Int) (nd : Nd []) (r : ((Option ((List Int) × (List Int) × Int × (List Int) × (List Int) × (List Int))) × Int)) (hX : X.robot_New labels1 drives2 = some r) : TCX Try.prog 41 [Enc.v (labels1 : (List Int)), Enc.v (drives2 : Int)] [] (fun rv h' => match r.1 with | none => (rv = .tup 2 (ofL [.nilp, Enc.v (r.2 : Int)]) ∧ h' = []) | some ov => (∃ b25 b26 b27 b28 b29 pre30, rv = .tup 2 (ofL [.ref b25 0 5, Enc.v (r.2 : Int)]) ∧ h' = [(b25, RV 109 [.ref b26 0 2, Enc.v (ov.2.2.1 : Int), Enc.v (ov.2.2.2.1 : (List Int)), OL (α := Int) b28 ov.2.2.2.2.1, OQ (α := Int) b29 pre30 ov.2.2.2.2.2]), (b26, RV 127 [Enc.v (ov.1 : (List Int)), OL (α := Int) b27 ov.2.1]), (b27, RL (α := Int) 3 ov.2.1), (b28, RL (α := Int) 3 ov.2.2.2.2.1), (b29, RL (α := Int) 3 (pre30 ++ ov.2.2.2.2.2))])) := by
  refine TCX.of b41 (Nat.le_of_ble_eq_true rfl) ?_
  unfold k41
  unfold X.robot_New at hX
  refine TK.seq_k fun K3 hK3 => ?_
  refine TK.reg ?_
  refine TL.p (C := cx) (gc := true) (p_mv rfl) rfl rfl ?_
  refine TL.p (C := cx) (gc := true) (p_mv rfl) rfl rfl ?_
  refine TL.nil ?_
  refine hK3 _ _ ?_
  refine TK.seq_k fun K4 hK4 => ?_
  refine TK.reg ?_
  refine TL.p (C := cx) (gc := true) (p_mv rfl) rfl rfl ?_
  refine TL.p (C := cx) (gc := true) (p_mv rfl) rfl rfl ?_
  obtain ⟨r5, hr5, hX⟩ := bind_some hX
  refine TL.tcX [] [] rfl nd (dlt rfl) rfl ⟨rfl, ⟨rfl, ⟨rfl, trivial⟩⟩⟩ (ok_shelf_New labels1 drives2 (Nd.take nd 0 rfl) _ hr5) ?_
  rintro _ _ hQ nd
  cases hqr5 : r5.1 with
  | none =>
    simp only [hqr5] at hQ hX
    obtain ⟨rfl, rfl⟩ := hQ
    refine TL.p (C := cx) (gc := true) (p_mv rfl) rfl rfl ?_
    refine TL.p (C := cx) (gc := true) (p_ex rfl rfl (by decide)) rfl rfl ?_
    refine TL.p (C := cx) (gc := true) (p_ex rfl rfl (by decide)) rfl rfl ?_
    refine TL.p (C := cx) (gc := true) (p_mv rfl) rfl rfl ?_
    refine TL.p (C := cx) (gc := true) (p_mv rfl) rfl rfl ?_
    refine TL.nil ?_
    refine hK4 _ _ ?_
    refine TK.seq_k fun K6 hK6 => ?_
    refine TK.seq_k fun K7 hK7 => ?_
    refine TK.reg ?_
    refine TL.p (C := cx) (gc := true) (p_mv rfl) rfl rfl ?_
    refine TL.p (C := cx) (gc := true) (p_neq rfl rfl) rfl rfl ?_
    refine TL.nil ?_
    refine hK7 _ _ ?_
    refine TK.cond (b := (r5.2 != (0 : Int))) rfl (fun hc => ?_) (fun hc => ?_)
    · have hX := ite_t hc hX
      refine TK.seq_k fun K8 hK8 => ?_
      refine TK.reg ?_
      refine TL.p (C := cx) (gc := true) (p_mv rfl) rfl rfl ?_
      refine TL.p (C := cx) (gc := true) (p_mv rfl) rfl rfl ?_
      refine TL.p (C := cx) (gc := true) (p_mv rfl) rfl rfl ?_
      refine TL.nil ?_
      refine hK8 _ _ ?_
      refine TK.ret ?_
      try dsimp only [thenQ]
      exact retX (v := .tup 2 (ofL [.nilp, Enc.v (r5.2 : Int)])) (resN (vs := [.nilp, Enc.v (r5.2 : Int)]) ⟨rfl, rfl, trivial⟩) (by obtain rfl := some_in hX; exact ⟨rfl, rfl⟩) nd (inH_tup (l := [.nilp, Enc.v (r5.2 : Int)]) ⟨trivial, inH_val (v_val _), trivial⟩) trivial
    · have hX := ite_f hc hX
      refine TK.skip ?_
      refine hK6 _ _ ?_
      refine TK.seq_k fun K9 hK9 => ?_
      refine TK.reg ?_
      refine TL.p (C := cx) (gc := true) (p_mv rfl) rfl rfl ?_
      refine TL.p (C := cx) (gc := true) (p_mv rfl) rfl rfl ?_
      refine TL.p (C := cx) (gc := true) (p_mv rfl) rfl rfl ?_
      obtain ⟨r10, hr10, hX⟩ := bind_some hX
      refine TL.cvX rfl rfl rfl (fun _ => ⟨rfl, ⟨rfl, trivial⟩⟩) (fun e => ok_slices_Clone_Lint_int labels1 _ hr10) ?_
      refine TL.p (C := cx) (gc := true) (p_bld (l := [.nilp, Enc.v (drives2 : Int), Enc.v (r10 : (List Int)), .nils, .nils]) ty109 rfl all109 rfl (fun _ => ⟨⟨rfl, trivial, rfl⟩, ⟨rfl, trivial, rfl⟩, ⟨rfl, trivial, rfl⟩, trivial⟩)) rfl rfl ?_
      refine TL.boxO (C := cx) (lu := [.nilp, Enc.v (drives2 : Int), Enc.v (r10 : (List Int)), .nils, .nils]) nd rfl (Cells_agg rfl (allA.mem ⟨trivial, trivial, trivial, trivial, trivial, trivial⟩)) rfl fun b11 nd => ?_
      refine TL.p (C := cx) (gc := true) (p_mv rfl) rfl rfl ?_
      refine TL.p (C := cx) (gc := true) (p_mv rfl) rfl rfl ?_
      refine TL.nil ?_
      refine hK9 _ _ ?_
      refine TK.ownC (α := Int) nd (j := 0) rfl 3 3 (.inl rfl) fun b12 nd => ?_
      refine TK.ownC (α := Int) nd (j := 1) rfl 4 3 (.inl rfl) fun b13 nd => ?_
      cases hX
  | some o14 =>
    simp only [hqr5] at hQ hX
    obtain ⟨b15, b16, rfl, rfl⟩ := hQ
    refine TL.p (C := cx) (gc := true) (p_mv rfl) rfl rfl ?_
    refine TL.p (C := cx) (gc := true) (p_ex rfl rfl (by decide)) rfl rfl ?_
    refine TL.p (C := cx) (gc := true) (p_ex rfl rfl (by decide)) rfl rfl ?_
    refine TL.p (C := cx) (gc := true) (p_mv rfl) rfl rfl ?_
    refine TL.p (C := cx) (gc := true) (p_mv rfl) rfl rfl ?_
    refine TL.nil ?_
    refine hK4 _ _ ?_
    refine TK.seq_k fun K17 hK17 => ?_
    refine TK.seq_k fun K18 hK18 => ?_
    refine TK.reg ?_
    refine TL.p (C := cx) (gc := true) (p_mv rfl) rfl rfl ?_
    refine TL.p (C := cx) (gc := true) (p_neq rfl rfl) rfl rfl ?_
    refine TL.nil ?_
    refine hK18 _ _ ?_
    refine TK.cond (b := (r5.2 != (0 : Int))) rfl (fun hc => ?_) (fun hc => ?_)
    · have hX := ite_t hc hX
      refine TK.seq_k fun K19 hK19 => ?_
      refine TK.reg ?_
      refine TL.p (C := cx) (gc := true) (p_mv rfl) rfl rfl ?_
      refine TL.p (C := cx) (gc := true) (p_mv rfl) rfl rfl ?_
      refine TL.p (C := cx) (gc := true) (p_mv rfl) rfl rfl ?_
      refine TL.nil ?_
      refine hK19 _ _ ?_
      refine TK.pick [] nd (by decide) fun nd => ?_
      refine TK.ret ?_
      try dsimp only [thenQ]
      exact retX (v := .tup 2 (ofL [.nilp, Enc.v (r5.2 : Int)])) (resN (vs := [.nilp, Enc.v (r5.2 : Int)]) ⟨rfl, rfl, trivial⟩) (by obtain rfl := some_in hX; exact ⟨rfl, rfl⟩) nd (inH_tup (l := [.nilp, Enc.v (r5.2 : Int)]) ⟨trivial, inH_val (v_val _), trivial⟩) trivial
    · have hX := ite_f hc hX
      refine TK.skip ?_
      refine hK17 _ _ ?_
      refine TK.seq_k fun K20 hK20 => ?_
      refine TK.reg ?_
      refine TL.p (C := cx) (gc := true) (p_mv rfl) rfl rfl ?_
      refine TL.p (C := cx) (gc := true) (p_mv rfl) rfl rfl ?_
      refine TL.p (C := cx) (gc := true) (p_mv rfl) rfl rfl ?_
      obtain ⟨r21, hr21, hX⟩ := bind_some hX
      refine TL.cvX rfl rfl rfl (fun _ => ⟨rfl, ⟨rfl, trivial⟩⟩) (fun e => ok_slices_Clone_Lint_int labels1 _ hr21) ?_
      refine TL.p (C := cx) (gc := true) (p_bld (l := [.ref b15 0 2, Enc.v (drives2 : Int), Enc.v (r21 : (List Int)), .nils, .nils]) ty109 rfl all109 rfl (fun _ => ⟨⟨rfl, (refOK_of nd (j := 0) rfl rfl), rfl⟩, ⟨rfl, trivial, rfl⟩, ⟨rfl, trivial, rfl⟩, trivial⟩)) rfl rfl ?_
      refine TL.boxO (C := cx) (lu := [.ref b15 0 2, Enc.v (drives2 : Int), Enc.v (r21 : (List Int)), .nils, .nils]) nd rfl (Cells_agg rfl (allA.mem ⟨oneA_ref (refOK_of nd (j := 0) rfl rfl), trivial, trivial, trivial, trivial, trivial⟩)) rfl fun b22 nd => ?_
      refine TL.p (C := cx) (gc := true) (p_mv rfl) rfl rfl ?_
      refine TL.p (C := cx) (gc := true) (p_mv rfl) rfl rfl ?_
      refine TL.nil ?_
      refine hK20 _ _ ?_
      refine TK.ownC (α := Int) nd (j := 0) rfl 3 3 (.inl rfl) fun b23 nd => ?_
      refine TK.ownC (α := Int) nd (j := 1) rfl 4 3 (.inl rfl) fun b24 nd => ?_
      refine TK.pick [2, 3, 4, 1, 0] nd (by decide) fun nd => ?_
      refine TK.ret ?_
      try dsimp only [thenQ]
      exact retX (v := .tup 2 (ofL [.ref b22 0 5, Enc.v ((0 : Int) : Int)])) (resN (vs := [.ref b22 0 5, Enc.v ((0 : Int) : Int)]) ⟨rfl, rfl, trivial⟩) (by obtain rfl := some_in hX; exact ⟨b22, b15, b16, b23, b24, ([] : List Int), rfl, rfl⟩) nd (inH_tup (l := [.ref b22 0 5, Enc.v ((0 : Int) : Int)]) ⟨inH_ref nd (j := 0) rfl, inH_val (v_val _), trivial⟩) ⟨rowIn_RV ⟨inH_ref nd (j := 1) rfl, inH_val (v_val _), inH_val (v_val _), inH_rs nd (j := 3) rfl, inH_rs nd (j := 4) rfl, trivial⟩, rowIn_RV ⟨inH_val (v_val _), inH_rs nd (j := 2) rfl, trivial⟩, rowIn_RL, rowIn_RL, rowIn_RL, trivial⟩

/-- cartridge/cartridgelaw24.num -/
theorem ok_cartridgelaw24_num (e1 : Int) (r : Int) (hX : X.cartridgelaw24_num e1 = some r) : Fun Try.prog 42 [Enc.v (e1 : Int)] (· = Enc.v (r : Int)) := by
  refine Fun.of b42 (Nat.le_of_ble_eq_true rfl) (allVal.mem ⟨(by exact (v_val _)), trivial⟩) ?_
  unfold k42
  have nd : Nd [] := Nd_nil
  unfold X.cartridgelaw24_num at hX
  refine TK.seq_k fun K2 hK2 => ?_
  refine TK.reg ?_
  refine TL.p (C := cx) (gc := true) (p_mv rfl) rfl rfl ?_
  refine TL.nil ?_
  refine hK2 _ _ ?_
  refine TK.seq_k fun K3 hK3 => ?_
  refine TK.reg ?_
  refine TL.p (C := cx) (gc := true) (p_mv rfl) rfl rfl ?_
  refine TL.p (C := cx) (gc := true) (p_mv rfl) rfl rfl ?_
  refine TL.nil ?_
  refine hK3 _ _ ?_
  refine TK.ret ?_
  try dsimp only [thenQ]
  exact ret1 (v := Enc.v (e1 : Int)) rfl (by obtain rfl := some_in hX; rfl) (v_val _)

/-- slices.IndexFunc[[]int,int] -/
theorem ok_slices_IndexFunc_Lint_int (s1 : (List Int)) (g2 : Int → Option Bool) (r : Int) (hX : X.slices_IndexFunc_Lint_int s1 g2 = some r) {g2V : AV} (hg2V : ∃ f m c, g2V = .fn f m c ∧ (∀ i, i < m → (c i).val) ∧ ∀ (a0 : Int) r, g2 a0 = some r → Fun Try.prog f ([Enc.v a0] ++ (List.range m).map c) (· = Enc.v r)) : Fun Try.prog 100 [Enc.v (s1 : (List Int)), g2V] (· = Enc.v (r : Int)) := by
  obtain ⟨g2f, g2m, g2c, rfl, hg2v, hg2⟩ := hg2V
  refine Fun.of b100 (Nat.le_of_ble_eq_true rfl) (allVal.mem ⟨(by exact (v_val _)), hg2v, trivial⟩) ?_
  unfold k100
  have nd : Nd [] := Nd_nil
  unfold X.slices_IndexFunc_Lint_int at hX
  refine TK.seq_k fun K3 hK3 => ?_
  refine TK.reg ?_
  refine TL.p (C := cx) (gc := true) (p_mv rfl) rfl rfl ?_
  refine TL.nil ?_
  refine hK3 _ _ ?_
  refine TK.seq_k fun K4 hK4 => ?_
  refine TK.seq_k fun K5 hK5 => ?_
  refine TK.reg ?_
  refine TL.p (C := cx) (gc := true) (p_mv rfl) rfl rfl ?_
  refine TL.p (C := cx) (gc := true) (p_lenL (xs := s1) kd46 rfl) rfl rfl ?_
  refine TL.p (C := cx) (gc := true) (p_mv rfl) rfl rfl ?_
  refine TL.nil ?_
  refine hK5 _ _ ?_
  refine TK.block ?_
  obtain ⟨o6, hO6, hA6⟩ := bind_some hX
  have E6 : ∀ (env : Env) (h : Hp), (∃ _u : Unit, keepE [] env = [] ∧ Nd [] ∧ HSub [] h) → X.slices_IndexFunc_Lint_int_e6 = some r → K4 env h := by
    intro  env h hE hX
    obtain ⟨_u, henv, nd, hs⟩ := hE
    unfold X.slices_IndexFunc_Lint_int_e6 at hX
    refine hK4 _ _ (TK.keep [] ?_)
    rw [henv]
    refine TK.subH hs ?_
    refine TK.seq_k fun K8 hK8 => ?_
    refine TK.reg ?_
    refine TL.p (C := cx) (gc := true) (p_mv rfl) rfl rfl ?_
    refine TL.nil ?_
    refine hK8 _ _ ?_
    refine TK.ret ?_
    try dsimp only [thenQ]
    exact ret1 (v := Enc.v (((-1) : Int) : Int)) rfl (by obtain rfl := some_in hX; rfl) (v_val _)
  refine TK.iter [0, 1, 7, 8] (fun s env h => match s with | x7 => ∃ _u : Unit, env = [(0, true, Enc.v (s1 : (List Int))), (1, true, .fn g2f g2m g2c), (7, true, Enc.v ((s1.length : Int) : Int)), (8, true, Enc.v (x7 : Int))] ∧ Nd [] ∧ HSub [] h) hO6 ⟨(), rfl, Nd_nil, HSub.refl _⟩ ?_
  rintro x7 env h x6x ⟨_u, rfl, nd, hs⟩ hX hR6
  refine TK.subH hs ?_
  unfold X.slices_IndexFunc_Lint_int_s6 at hX
  try dsimp only at hX
  refine TK.seq_k fun K9 hK9 => ?_
  refine TK.reg ?_
  refine TL.p (C := cx) (gc := true) (p_lss rfl rfl) rfl rfl ?_
  refine TL.nil ?_
  refine hK9 _ _ ?_
  refine TK.seq_k fun K10 hK10 => ?_
  refine TK.cond (b := (decide (x7 < (s1.length : Int)))) rfl (fun hc => ?_) (fun hc => ?_)
  · have hX := ite_t hc hX
    refine TK.skip ?_
    refine hK10 _ _ ?_
    refine TK.seq_k fun K11 hK11 => ?_
    refine TK.block ?_
    refine TK.seq_k fun K12 hK12 => ?_
    refine TK.reg ?_
    refine TL.p (C := cx) (gc := true) (p_mv rfl) rfl rfl ?_
    refine TL.p (C := cx) (gc := true) (p_mv rfl) rfl rfl ?_
    refine TL.nil ?_
    refine hK12 _ _ ?_
    refine TK.seq_k fun K13 hK13 => ?_
    refine TK.reg ?_
    refine TL.p (C := cx) (gc := true) (p_mv rfl) rfl rfl ?_
    refine TL.p (C := cx) (gc := true) (p_mv rfl) rfl rfl ?_
    refine TL.p (C := cx) (gc := true) (p_mv rfl) rfl rfl ?_
    obtain ⟨e14, he14, hX⟩ := bind_some hX
    refine TL.p (C := cx) (gc := true) (p_iaL (xs := s1) kd46 ty3 rfl rfl rfl (fun _ => he14)) rfl rfl ?_
    refine TL.p (C := cx) (gc := true) (p_ldE (xs := s1) (a := e14) (e14 : Int) ty3 rfl rfl (fun _ => he14) rfl rfl rfl) rfl rfl ?_
    obtain ⟨r15, hr15, hX⟩ := bind_some hX
    refine TL.cvX rfl rfl rfl (fun _ => ⟨rfl, ⟨rfl, trivial⟩⟩) (fun e => hg2 e14 _ hr15) ?_
    refine TL.nil ?_
    refine hK13 _ _ ?_
    refine TK.cond (b := r15) rfl (fun hc => ?_) (fun hc => ?_)
    · have hX := ite_t hc hX
      refine TK.seq_k fun K16 hK16 => ?_
      refine TK.reg ?_
      refine TL.p (C := cx) (gc := true) (p_mv rfl) rfl rfl ?_
      refine TL.p (C := cx) (gc := true) (p_mv rfl) rfl rfl ?_
      refine TL.nil ?_
      refine hK16 _ _ ?_
      refine TK.ret ?_
      obtain rfl := hR6 _ (some_in hX).symm
      replace hX := hA6
      try dsimp only [thenQ]
      exact ret1 (v := Enc.v (x7 : Int)) rfl (by obtain rfl := some_in hX; rfl) (v_val _)
    · have hX := ite_f hc hX
      refine TK.skip ?_
      refine hK11 _ _ ?_
      refine TK.reg ?_
      refine TL.p (C := cx) (gc := true) (p_add rfl rfl) rfl rfl ?_
      refine TL.p (C := cx) (gc := true) (p_mv rfl) rfl rfl ?_
      refine TL.nil ?_
      exact ⟨_, (some_in hX).symm, (), rfl, Nd_nil, HSub.refl _⟩
  · have hX := ite_f hc hX
    refine TK.exit ?_
    obtain rfl := hR6 _ (some_in hX).symm
    exact E6 _ _ ⟨(), rfl, Nd_nil, HSub.refl _⟩ hA6

/-- slices.ContainsFunc[[]int,int] -/
theorem ok_slices_ContainsFunc_Lint_int (s1 : (List Int)) (g2 : Int → Option Bool) (r : Bool) (hX : X.slices_ContainsFunc_Lint_int s1 g2 = some r) {g2V : AV} (hg2V : ∃ f m c, g2V = .fn f m c ∧ (∀ i, i < m → (c i).val) ∧ ∀ (a0 : Int) r, g2 a0 = some r → Fun Try.prog f ([Enc.v a0] ++ (List.range m).map c) (· = Enc.v r)) : Fun Try.prog 77 [Enc.v (s1 : (List Int)), g2V] (· = Enc.v (r : Bool)) := by
  obtain ⟨g2f, g2m, g2c, rfl, hg2v, hg2⟩ := hg2V
  refine Fun.of b77 (Nat.le_of_ble_eq_true rfl) (allVal.mem ⟨(by exact (v_val _)), hg2v, trivial⟩) ?_
  unfold k77
  have nd : Nd [] := Nd_nil
  unfold X.slices_ContainsFunc_Lint_int at hX
  refine TK.seq_k fun K3 hK3 => ?_
  refine TK.reg ?_
  refine TL.p (C := cx) (gc := true) (p_mv rfl) rfl rfl ?_
  refine TL.nil ?_
  refine hK3 _ _ ?_
  refine TK.seq_k fun K4 hK4 => ?_
  refine TK.reg ?_
  refine TL.p (C := cx) (gc := true) (p_mv rfl) rfl rfl ?_
  refine TL.p (C := cx) (gc := true) (p_mv rfl) rfl rfl ?_
  obtain ⟨r5, hr5, hX⟩ := bind_some hX
  refine TL.cvX rfl rfl rfl (fun _ => ⟨rfl, ⟨rfl, ⟨rfl, trivial⟩⟩⟩) (fun e => ok_slices_IndexFunc_Lint_int s1 g2 _ hr5 ⟨_, _, _, rfl, hg2v, hg2⟩) ?_
  refine TL.p (C := cx) (gc := true) (p_geq rfl rfl) rfl rfl ?_
  refine TL.p (C := cx) (gc := true) (p_mv rfl) rfl rfl ?_
  refine TL.nil ?_
  refine hK4 _ _ ?_
  refine TK.ret ?_
  try dsimp only [thenQ]
  exact ret1 (v := Enc.v ((decide (r5 ≥ (0 : Int))) : Bool)) rfl (by obtain rfl := some_in hX; rfl) (v_val _)

/-- (*cartridge/robot.Robot).is -/
theorem ok_robot_Robot_is (labels1 : (List Int)) (drives2 : (List Int)) (drives3 : Int) (labels4 : (List Int)) (l5 : (List Int)) (order6 : (List Int)) (label7 : Int) (r : Bool) (hX : X.robot_Robot_is labels1 drives2 drives3 labels4 l5 order6 label7 = some r) : Fun Try.prog 79 [.vref (ofL [.vref (ofL [Enc.v (labels1 : (List Int)), Enc.v (drives2 : (List Int))]) 2 0, Enc.v (drives3 : Int), Enc.v (labels4 : (List Int)), Enc.v (l5 : (List Int)), Enc.v (order6 : (List Int))]) 5 0, Enc.v (label7 : Int)] (· = Enc.v (r : Bool)) := by
  refine Fun.of b79 (Nat.le_of_ble_eq_true rfl) (allVal.mem ⟨(by exact (vref_val (l := [.vref (ofL [Enc.v (labels1 : (List Int)), Enc.v (drives2 : (List Int))]) 2 0, Enc.v (drives3 : Int), Enc.v (labels4 : (List Int)), Enc.v (l5 : (List Int)), Enc.v (order6 : (List Int))]) rfl ⟨(vref_val (l := [Enc.v (labels1 : (List Int)), Enc.v (drives2 : (List Int))]) rfl ⟨(v_val _), (v_val _), trivial⟩), (v_val _), (v_val _), (v_val _), (v_val _), trivial⟩)), (by exact (v_val _)), trivial⟩) ?_
  unfold k79
  have nd : Nd [] := Nd_nil
  unfold X.robot_Robot_is at hX
  refine TK.seq_k fun K8 hK8 => ?_
  refine TK.reg ?_
  refine TL.p (C := cx) (gc := true) (p_mv rfl) rfl rfl ?_
  refine TL.nil ?_
  refine hK8 _ _ ?_
  refine TK.seq_k fun K9 hK9 => ?_
  refine TK.reg ?_
  refine TL.p (C := cx) (gc := true) (p_mv rfl) rfl rfl ?_
  refine TL.p (C := cx) (gc := true) (p_neV kd64 rfl rfl) rfl rfl ?_
  refine TL.p (C := cx) (gc := true) (p_mv rfl) rfl rfl ?_
  refine TL.guardT rfl ?_
  refine TL.p (C := cx) (gc := true) (p_mv rfl) rfl rfl ?_
  refine TL.guardT rfl ?_
  refine TL.p (C := cx) (gc := true) (p_ncV rfl) rfl rfl ?_
  refine TL.guardT rfl ?_
  refine TL.p (C := cx) (gc := true) (p_faR fs109_2 (by decide) rfl) rfl rfl ?_
  refine TL.guardT rfl ?_
  refine TL.p (C := cx) (gc := true) (p_ldR (v := Enc.v (labels4 : (List Int))) ty46 rfl rfl rfl rfl rfl rfl) rfl rfl ?_
  refine TL.guardT rfl ?_
  refine TL.p (C := cx) (gc := true) (p_mv rfl) rfl rfl ?_
  obtain ⟨r10, hr10, hX⟩ := bind_some hX
  refine TL.guardT rfl ?_
  refine TL.cvX rfl rfl rfl (fun _ => ⟨rfl, ⟨rfl, ⟨rfl, trivial⟩⟩⟩) (fun e => ok_slices_Contains_Lint_int labels4 label7 _ hr10) ?_
  refine TL.p (C := cx) (gc := true) (p_and rfl rfl (fun e => ⟨rfl, fun h => rfl⟩)) rfl rfl ?_
  refine TL.p (C := cx) (gc := true) (p_mv rfl) rfl rfl ?_
  refine TL.nil ?_
  refine hK9 _ _ ?_
  refine TK.ret ?_
  try dsimp only [thenQ]
  exact ret1 (v := Enc.v (r10 : Bool)) rfl (by obtain rfl := some_in hX; rfl) (v_val _)

/-- (*cartridge/robot.Robot).Serve$1 -/
theorem ok_robot_Robot_Serve_c1 (n1 : Int) (labels2 : (List Int)) (drives3 : (List Int)) (drives4 : Int) (labels5 : (List Int)) (l6 : (List Int)) (order7 : (List Int)) (r : Bool) (hX : X.robot_Robot_Serve_c1 n1 labels2 drives3 drives4 labels5 l6 order7 = some r) : Fun Try.prog 78 [Enc.v (n1 : Int), .vref (ofL [.vref (ofL [.vref (ofL [Enc.v (labels2 : (List Int)), Enc.v (drives3 : (List Int))]) 2 0, Enc.v (drives4 : Int), Enc.v (labels5 : (List Int)), Enc.v (l6 : (List Int)), Enc.v (order7 : (List Int))]) 5 0]) 1 0] (· = Enc.v (r : Bool)) := by
  refine Fun.of b78 (Nat.le_of_ble_eq_true rfl) (allVal.mem ⟨(by exact (v_val _)), (by exact (vref_val (l := [.vref (ofL [.vref (ofL [Enc.v (labels2 : (List Int)), Enc.v (drives3 : (List Int))]) 2 0, Enc.v (drives4 : Int), Enc.v (labels5 : (List Int)), Enc.v (l6 : (List Int)), Enc.v (order7 : (List Int))]) 5 0]) rfl ⟨(vref_val (l := [.vref (ofL [Enc.v (labels2 : (List Int)), Enc.v (drives3 : (List Int))]) 2 0, Enc.v (drives4 : Int), Enc.v (labels5 : (List Int)), Enc.v (l6 : (List Int)), Enc.v (order7 : (List Int))]) rfl ⟨(vref_val (l := [Enc.v (labels2 : (List Int)), Enc.v (drives3 : (List Int))]) rfl ⟨(v_val _), (v_val _), trivial⟩), (v_val _), (v_val _), (v_val _), (v_val _), trivial⟩), trivial⟩)), trivial⟩) ?_
  unfold k78
  have nd : Nd [] := Nd_nil
  unfold X.robot_Robot_Serve_c1 at hX
  refine TK.seq_k fun K8 hK8 => ?_
  refine TK.reg ?_
  refine TL.p (C := cx) (gc := true) (p_mv rfl) rfl rfl ?_
  refine TL.nil ?_
  refine hK8 _ _ ?_
  refine TK.seq_k fun K9 hK9 => ?_
  refine TK.reg ?_
  refine TL.p (C := cx) (gc := true) (p_ldR (v := .vref (ofL [.vref (ofL [Enc.v (labels2 : (List Int)), Enc.v (drives3 : (List Int))]) 2 0, Enc.v (drives4 : Int), Enc.v (labels5 : (List Int)), Enc.v (l6 : (List Int)), Enc.v (order7 : (List Int))]) 5 0) ty64 rfl rfl rfl rfl rfl rfl) rfl rfl ?_
  refine TL.p (C := cx) (gc := true) (p_mv rfl) rfl rfl ?_
  obtain ⟨r10, hr10, hX⟩ := bind_some hX
  refine TL.cvX rfl rfl rfl (fun _ => ⟨rfl, ⟨rfl, ⟨rfl, trivial⟩⟩⟩) (fun e => ok_robot_Robot_is labels2 drives3 drives4 labels5 l6 order7 n1 _ hr10) ?_
  refine TL.p (C := cx) (gc := true) (p_not rfl) rfl rfl ?_
  refine TL.p (C := cx) (gc := true) (p_mv rfl) rfl rfl ?_
  refine TL.nil ?_
  refine hK9 _ _ ?_
  refine TK.ret ?_
  try dsimp only [thenQ]
  exact ret1 (v := Enc.v ((!r10) : Bool)) rfl (by obtain rfl := some_in hX; rfl) (v_val _)

/-- (*cartridge/mount.Line).Add -/
theorem ok_mount_Line_Add_in_Robot_robot (label13 : Int) (labels1 : (List Int)) (drives2 : (List Int)) (drives3 : Int) (labels4 : (List Int)) (l5 : (List Int)) (order6 : (List Int)) (b7 : Nat) (b8 : Nat) (b9 : Nat) (b10 : Nat) (b11 : Nat) (pre12 : List Int) (nd : Nd [(b7, RV 109 [.ref b8 0 2, Enc.v (drives3 : Int), Enc.v (labels4 : (List Int)), OL (α := Int) b10 l5, OQ (α := Int) b11 pre12 order6]), (b8, RV 127 [Enc.v (labels1 : (List Int)), OL (α := Int) b9 drives2]), (b9, RL (α := Int) 3 drives2), (b10, RL (α := Int) 3 l5), (b11, RL (α := Int) 3 (pre12 ++ order6))]) (r : ((List Int) × (List Int) × Int × (List Int) × (List Int) × (List Int))) (hX : X.mount_Line_Add_in_Robot_robot label13 labels1 drives2 drives3 labels4 l5 order6 = some r) : TCX Try.prog 80 [.ref b7 3 5, Enc.v (label13 : Int)] [(b7, RV 109 [.ref b8 0 2, Enc.v (drives3 : Int), Enc.v (labels4 : (List Int)), OL (α := Int) b10 l5, OQ (α := Int) b11 pre12 order6]), (b8, RV 127 [Enc.v (labels1 : (List Int)), OL (α := Int) b9 drives2]), (b9, RL (α := Int) 3 drives2), (b10, RL (α := Int) 3 l5), (b11, RL (α := Int) 3 (pre12 ++ order6))] (fun rv h' => ∃ b17 b18 b19 b20 pre21, rv = .tup 0 (ofL []) ∧ h' = [(b7, RV 109 [.ref b17 0 2, Enc.v (r.2.2.1 : Int), Enc.v (r.2.2.2.1 : (List Int)), OL (α := Int) b19 r.2.2.2.2.1, OQ (α := Int) b20 pre21 r.2.2.2.2.2]), (b17, RV 127 [Enc.v (r.1 : (List Int)), OL (α := Int) b18 r.2.1]), (b18, RL (α := Int) 3 r.2.1), (b19, RL (α := Int) 3 r.2.2.2.2.1), (b20, RL (α := Int) 3 (pre21 ++ r.2.2.2.2.2))]) := by
  refine TCX.of b80 (Nat.le_of_ble_eq_true rfl) ?_
  unfold k80
  unfold X.mount_Line_Add_in_Robot_robot at hX
  refine TK.endK fun KE hKE => ?_
  refine TK.seq_k fun K14 hK14 => ?_
  refine TK.reg ?_
  refine TL.p (C := cx) (gc := true) (p_mv rfl) rfl rfl ?_
  refine TL.p (C := cx) (gc := true) (p_neP kd129 rfl rfl (fun _ => refOK_of nd (j := 0) rfl rfl)) rfl rfl ?_
  refine TL.nil ?_
  refine hK14 _ _ ?_
  refine TK.cond (b := true) rfl (fun _ => ?_) (fun hc => by simp at hc)
  refine TK.reg ?_
  refine TL.p (C := cx) (gc := true) (p_mv rfl) rfl rfl ?_
  refine TL.p (C := cx) (gc := true) (p_mv rfl) rfl rfl ?_
  refine TL.p (C := cx) (gc := true) (p_ncR rfl (fun _ => refOK_of nd (j := 0) rfl rfl)) rfl rfl ?_
  refine TL.p (C := cx) (gc := true) (p_faV fs107_0 (by decide) rfl nd (j := 0) rfl rfl) rfl rfl ?_
  refine TL.p (C := cx) (gc := true) (p_ldV (v := OL (α := Int) b10 l5) ty46 rfl rfl nd (j := 0) rfl rfl rfl rfl rfl) rfl rfl ?_
  refine TL.p (C := cx) (gc := true) (p_mv rfl) rfl rfl ?_
  refine TL.lit (C := cx) ([label13] : List Int) kd46 ty3 rfl ⟨⟨rfl, rfl⟩, trivial⟩ rfl rfl rfl ?_
  obtain ⟨u15, hu15, hX⟩ := bind_some hX
  refine TL.appO (C := cx) nd kd46 bo46 ty3 rfl rfl (j := 3) rfl rfl (Src_L _) (by decide) (need_t hu15) rfl fun nd => ?_
  refine TL.p (C := cx) (gc := true) (p_ncR rfl (fun _ => refOK_of nd (j := 0) rfl rfl)) rfl rfl ?_
  refine TL.p (C := cx) (gc := true) (p_faV fs107_0 (by decide) rfl nd (j := 0) rfl rfl) rfl rfl ?_
  refine TL.stV (C := cx) (lu := [OL (α := Int) b10 (l5 ++ ([label13] : List Int))]) nd ty46 rfl (j := 0) rfl rfl rfl (Cells_rs (refOK_of nd (j := 3) rfl rfl)) rfl rfl [.ref b8 0 2, Enc.v (drives3 : Int), Enc.v (labels4 : (List Int)), OL (α := Int) b10 (l5 ++ ([label13] : List Int)), OQ (α := Int) b11 pre12 order6] rfl fun nd => ?_
  refine TL.nil ?_
  refine hKE _ _ ?_
  refine TL.nil ?_
  try dsimp only [thenQ]
  refine RetQ_end ?_
  exact retX (v := .tup 0 (ofL [])) res0 (by obtain rfl := some_in hX; exact ⟨b8, b9, b10, b11, pre12, rfl, rfl⟩) nd (inH_tup (l := []) trivial) ⟨rowIn_RV ⟨inH_ref nd (j := 1) rfl, inH_val (v_val _), inH_val (v_val _), inH_rs nd (j := 3) rfl, inH_rs nd (j := 4) rfl, trivial⟩, rowIn_RV ⟨inH_val (v_val _), inH_rs nd (j := 2) rfl, trivial⟩, rowIn_RL, rowIn_RL, rowIn_RL, trivial⟩

/-- (*cartridge/mount.Line).Len -/
theorem ok_mount_Line_Len_in_Robot_robot (labels1 : (List Int)) (drives2 : (List Int)) (drives3 : Int) (labels4 : (List Int)) (l5 : (List Int)) (order6 : (List Int)) (r : Int) (hX : X.mount_Line_Len_in_Robot_robot labels1 drives2 drives3 labels4 l5 order6 = some r) : Fun Try.prog 82 [.vref (ofL [.vref (ofL [Enc.v (labels1 : (List Int)), Enc.v (drives2 : (List Int))]) 2 0, Enc.v (drives3 : Int), Enc.v (labels4 : (List Int)), Enc.v (l5 : (List Int)), Enc.v (order6 : (List Int))]) 5 3] (· = Enc.v (r : Int)) := by
  refine Fun.of b82 (Nat.le_of_ble_eq_true rfl) (allVal.mem ⟨(by exact (vref_val (l := [.vref (ofL [Enc.v (labels1 : (List Int)), Enc.v (drives2 : (List Int))]) 2 0, Enc.v (drives3 : Int), Enc.v (labels4 : (List Int)), Enc.v (l5 : (List Int)), Enc.v (order6 : (List Int))]) rfl ⟨(vref_val (l := [Enc.v (labels1 : (List Int)), Enc.v (drives2 : (List Int))]) rfl ⟨(v_val _), (v_val _), trivial⟩), (v_val _), (v_val _), (v_val _), (v_val _), trivial⟩)), trivial⟩) ?_
  unfold k82
  have nd : Nd [] := Nd_nil
  unfold X.mount_Line_Len_in_Robot_robot at hX
  refine TK.seq_k fun K7 hK7 => ?_
  refine TK.reg ?_
  refine TL.p (C := cx) (gc := true) (p_mv rfl) rfl rfl ?_
  refine TL.nil ?_
  refine hK7 _ _ ?_
  refine TK.seq_k fun K8 hK8 => ?_
  refine TK.seq_k fun K9 hK9 => ?_
  refine TK.reg ?_
  refine TL.p (C := cx) (gc := true) (p_mv rfl) rfl rfl ?_
  refine TL.p (C := cx) (gc := true) (p_eqV kd129 rfl rfl) rfl rfl ?_
  refine TL.nil ?_
  refine hK9 _ _ ?_
  refine TK.cond (b := false) rfl (fun hc => by simp at hc) (fun _ => ?_)
  refine TK.skip ?_
  refine hK8 _ _ ?_
  refine TK.seq_k fun K10 hK10 => ?_
  refine TK.reg ?_
  refine TL.p (C := cx) (gc := true) (p_mv rfl) rfl rfl ?_
  refine TL.p (C := cx) (gc := true) (p_ncV rfl) rfl rfl ?_
  refine TL.p (C := cx) (gc := true) (p_faR fs107_0 (by decide) rfl) rfl rfl ?_
  refine TL.p (C := cx) (gc := true) (p_ldR (v := Enc.v (l5 : (List Int))) ty46 rfl rfl rfl rfl rfl rfl) rfl rfl ?_
  refine TL.p (C := cx) (gc := true) (p_lenL (xs := l5) kd46 rfl) rfl rfl ?_
  refine TL.p (C := cx) (gc := true) (p_mv rfl) rfl rfl ?_
  refine TL.nil ?_
  refine hK10 _ _ ?_
  refine TK.ret ?_
  try dsimp only [thenQ]
  exact ret1 (v := Enc.v ((l5.length : Int) : Int)) rfl (by obtain rfl := some_in hX; rfl) (v_val _)

/-- (*cartridge/robot.Robot).Waiting -/
theorem ok_robot_Robot_Waiting (labels1 : (List Int)) (drives2 : (List Int)) (drives3 : Int) (labels4 : (List Int)) (l5 : (List Int)) (order6 : (List Int)) (r : Int) (hX : X.robot_Robot_Waiting labels1 drives2 drives3 labels4 l5 order6 = some r) : Fun Try.prog 44 [.vref (ofL [.vref (ofL [Enc.v (labels1 : (List Int)), Enc.v (drives2 : (List Int))]) 2 0, Enc.v (drives3 : Int), Enc.v (labels4 : (List Int)), Enc.v (l5 : (List Int)), Enc.v (order6 : (List Int))]) 5 0] (· = Enc.v (r : Int)) := by
  refine Fun.of b44 (Nat.le_of_ble_eq_true rfl) (allVal.mem ⟨(by exact (vref_val (l := [.vref (ofL [Enc.v (labels1 : (List Int)), Enc.v (drives2 : (List Int))]) 2 0, Enc.v (drives3 : Int), Enc.v (labels4 : (List Int)), Enc.v (l5 : (List Int)), Enc.v (order6 : (List Int))]) rfl ⟨(vref_val (l := [Enc.v (labels1 : (List Int)), Enc.v (drives2 : (List Int))]) rfl ⟨(v_val _), (v_val _), trivial⟩), (v_val _), (v_val _), (v_val _), (v_val _), trivial⟩)), trivial⟩) ?_
  unfold k44
  have nd : Nd [] := Nd_nil
  unfold X.robot_Robot_Waiting at hX
  refine TK.seq_k fun K7 hK7 => ?_
  refine TK.reg ?_
  refine TL.p (C := cx) (gc := true) (p_mv rfl) rfl rfl ?_
  refine TL.nil ?_
  refine hK7 _ _ ?_
  refine TK.seq_k fun K8 hK8 => ?_
  refine TK.seq_k fun K9 hK9 => ?_
  refine TK.reg ?_
  refine TL.p (C := cx) (gc := true) (p_mv rfl) rfl rfl ?_
  refine TL.p (C := cx) (gc := true) (p_eqV kd64 rfl rfl) rfl rfl ?_
  refine TL.nil ?_
  refine hK9 _ _ ?_
  refine TK.cond (b := false) rfl (fun hc => by simp at hc) (fun _ => ?_)
  refine TK.skip ?_
  refine hK8 _ _ ?_
  refine TK.seq_k fun K10 hK10 => ?_
  refine TK.reg ?_
  refine TL.p (C := cx) (gc := true) (p_mv rfl) rfl rfl ?_
  refine TL.p (C := cx) (gc := true) (p_ncV rfl) rfl rfl ?_
  refine TL.p (C := cx) (gc := true) (p_faR fs109_3 (by decide) rfl) rfl rfl ?_
  obtain ⟨r11, hr11, hX⟩ := bind_some hX
  refine TL.cvX rfl rfl rfl (fun _ => ⟨rfl, ⟨rfl, trivial⟩⟩) (fun e => ok_mount_Line_Len_in_Robot_robot labels1 drives2 drives3 labels4 l5 order6 _ hr11) ?_
  refine TL.p (C := cx) (gc := true) (p_mv rfl) rfl rfl ?_
  refine TL.nil ?_
  refine hK10 _ _ ?_
  refine TK.ret ?_
  try dsimp only [thenQ]
  exact ret1 (v := Enc.v (r11 : Int)) rfl (by obtain rfl := some_in hX; rfl) (v_val _)

/-- (*cartridge/shelf.Shelf).drive -/
theorem ok_shelf_Shelf_drive (labels1 : (List Int)) (drives2 : (List Int)) (i3 : Int) (r : Bool) (hX : X.shelf_Shelf_drive labels1 drives2 i3 = some r) : Fun Try.prog 108 [.vref (ofL [Enc.v (labels1 : (List Int)), Enc.v (drives2 : (List Int))]) 2 0, Enc.v (i3 : Int)] (· = Enc.v (r : Bool)) := by
  refine Fun.of b108 (Nat.le_of_ble_eq_true rfl) (allVal.mem ⟨(by exact (vref_val (l := [Enc.v (labels1 : (List Int)), Enc.v (drives2 : (List Int))]) rfl ⟨(v_val _), (v_val _), trivial⟩)), (by exact (v_val _)), trivial⟩) ?_
  unfold k108
  have nd : Nd [] := Nd_nil
  unfold X.shelf_Shelf_drive at hX
  refine TK.seq_k fun K4 hK4 => ?_
  refine TK.reg ?_
  refine TL.p (C := cx) (gc := true) (p_mv rfl) rfl rfl ?_
  refine TL.nil ?_
  refine hK4 _ _ ?_
  refine TK.seq_k fun K5 hK5 => ?_
  refine TK.reg ?_
  refine TL.p (C := cx) (gc := true) (p_mv rfl) rfl rfl ?_
  refine TL.p (C := cx) (gc := true) (p_neV kd102 rfl rfl) rfl rfl ?_
  refine TL.p (C := cx) (gc := true) (p_mv rfl) rfl rfl ?_
  refine TL.guardT rfl ?_
  refine TL.p (C := cx) (gc := true) (p_mv rfl) rfl rfl ?_
  refine TL.guardT rfl ?_
  refine TL.p (C := cx) (gc := true) (p_geq rfl rfl) rfl rfl ?_
  refine TL.p (C := cx) (gc := true) (p_and rfl rfl (fun e => ⟨rfl, fun h => rfl⟩)) rfl rfl ?_
  refine TL.p (C := cx) (gc := true) (p_mv rfl) rfl rfl ?_
  refine TL.p (C := cx) (gc := ((decide (i3 ≥ (0 : Int))))) (p_mv rfl (hg := fun e => rfl)) (gcT1 rfl) rfl ?_
  refine TL.p (C := cx) (gc := ((decide (i3 ≥ (0 : Int))))) (p_mv rfl (hg := fun e => rfl)) (gcT1 rfl) rfl ?_
  refine TL.p (C := cx) (gc := ((decide (i3 ≥ (0 : Int))))) (p_ncV rfl (hg := fun e => e)) (gcT1 rfl) rfl ?_
  refine TL.p (C := cx) (gc := ((decide (i3 ≥ (0 : Int))))) (p_faR fs127_1 (by decide) rfl (hg := fun e => e)) (gcT1 rfl) rfl ?_
  refine TL.p (C := cx) (gc := ((decide (i3 ≥ (0 : Int))))) (p_ldR (v := Enc.v (drives2 : (List Int))) ty46 rfl rfl rfl rfl rfl rfl (hg := fun e => e)) (gcT1 rfl) rfl ?_
  refine TL.p (C := cx) (gc := ((decide (i3 ≥ (0 : Int))))) (p_lenL (xs := drives2) kd46 rfl (hg := fun e => e)) (gcT1 rfl) rfl ?_
  refine TL.p (C := cx) (gc := ((decide (i3 ≥ (0 : Int))))) (p_lss rfl rfl (hg := fun e => ⟨e, e⟩)) (gcT1 rfl) rfl ?_
  refine TL.p (C := cx) (gc := true) (p_and rfl rfl (fun e => ⟨rfl, fun h => h⟩)) rfl rfl ?_
  refine TL.p (C := cx) (gc := true) (p_mv rfl) rfl rfl ?_
  refine TL.nil ?_
  refine hK5 _ _ ?_
  refine TK.ret ?_
  try dsimp only [thenQ]
  exact ret1 (v := Enc.v (((decide (i3 ≥ (0 : Int))) && (decide (i3 < (drives2.length : Int)))) : Bool)) rfl (by obtain rfl := some_in hX; rfl) (v_val _)

/-- (*cartridge/shelf.Shelf).Mounted -/
theorem ok_shelf_Shelf_Mounted (labels1 : (List Int)) (drives2 : (List Int)) (drive3 : Int) (r : Int) (hX : X.shelf_Shelf_Mounted labels1 drives2 drive3 = some r) : Fun Try.prog 92 [.vref (ofL [Enc.v (labels1 : (List Int)), Enc.v (drives2 : (List Int))]) 2 0, Enc.v (drive3 : Int)] (· = Enc.v (r : Int)) := by
  refine Fun.of b92 (Nat.le_of_ble_eq_true rfl) (allVal.mem ⟨(by exact (vref_val (l := [Enc.v (labels1 : (List Int)), Enc.v (drives2 : (List Int))]) rfl ⟨(v_val _), (v_val _), trivial⟩)), (by exact (v_val _)), trivial⟩) ?_
  unfold k92
  have nd : Nd [] := Nd_nil
  unfold X.shelf_Shelf_Mounted at hX
  refine TK.seq_k fun K4 hK4 => ?_
  refine TK.reg ?_
  refine TL.p (C := cx) (gc := true) (p_mv rfl) rfl rfl ?_
  refine TL.nil ?_
  refine hK4 _ _ ?_
  refine TK.seq_k fun K5 hK5 => ?_
  refine TK.seq_k fun K6 hK6 => ?_
  refine TK.reg ?_
  refine TL.p (C := cx) (gc := true) (p_mv rfl) rfl rfl ?_
  refine TL.p (C := cx) (gc := true) (p_mv rfl) rfl rfl ?_
  obtain ⟨r7, hr7, hX⟩ := bind_some hX
  refine TL.cvX rfl rfl rfl (fun _ => ⟨rfl, ⟨rfl, ⟨rfl, trivial⟩⟩⟩) (fun e => ok_shelf_Shelf_drive labels1 drives2 drive3 _ hr7) ?_
  refine TL.p (C := cx) (gc := true) (p_not rfl) rfl rfl ?_
  refine TL.nil ?_
  refine hK6 _ _ ?_
  refine TK.cond (b := (!r7)) rfl (fun hc => ?_) (fun hc => ?_)
  · have hX := ite_t hc hX
    refine TK.seq_k fun K8 hK8 => ?_
    refine TK.reg ?_
    refine TL.p (C := cx) (gc := true) (p_mv rfl) rfl rfl ?_
    refine TL.nil ?_
    refine hK8 _ _ ?_
    refine TK.ret ?_
    try dsimp only [thenQ]
    exact ret1 (v := Enc.v ((0 : Int) : Int)) rfl (by obtain rfl := some_in hX; rfl) (v_val _)
  · have hX := ite_f hc hX
    refine TK.skip ?_
    refine hK5 _ _ ?_
    refine TK.seq_k fun K9 hK9 => ?_
    refine TK.reg ?_
    refine TL.p (C := cx) (gc := true) (p_mv rfl) rfl rfl ?_
    refine TL.p (C := cx) (gc := true) (p_ncV rfl) rfl rfl ?_
    refine TL.p (C := cx) (gc := true) (p_faR fs127_1 (by decide) rfl) rfl rfl ?_
    refine TL.p (C := cx) (gc := true) (p_ldR (v := Enc.v (drives2 : (List Int))) ty46 rfl rfl rfl rfl rfl rfl) rfl rfl ?_
    refine TL.p (C := cx) (gc := true) (p_mv rfl) rfl rfl ?_
    obtain ⟨e10, he10, hX⟩ := bind_some hX
    refine TL.p (C := cx) (gc := true) (p_iaL (xs := drives2) kd46 ty3 rfl rfl rfl (fun _ => he10)) rfl rfl ?_
    refine TL.p (C := cx) (gc := true) (p_ldE (xs := drives2) (a := e10) (e10 : Int) ty3 rfl rfl (fun _ => he10) rfl rfl rfl) rfl rfl ?_
    refine TL.p (C := cx) (gc := true) (p_mv rfl) rfl rfl ?_
    refine TL.nil ?_
    refine hK9 _ _ ?_
    refine TK.ret ?_
    try dsimp only [thenQ]
    exact ret1 (v := Enc.v (e10 : Int)) rfl (by obtain rfl := some_in hX; rfl) (v_val _)

/-- (*cartridge/mount.Line).Wants -/
theorem ok_mount_Line_Wants_in_Robot_robot (labels1 : (List Int)) (drives2 : (List Int)) (drives3 : Int) (labels4 : (List Int)) (l5 : (List Int)) (order6 : (List Int)) (label7 : Int) (r : Bool) (hX : X.mount_Line_Wants_in_Robot_robot labels1 drives2 drives3 labels4 l5 order6 label7 = some r) : Fun Try.prog 101 [.vref (ofL [.vref (ofL [Enc.v (labels1 : (List Int)), Enc.v (drives2 : (List Int))]) 2 0, Enc.v (drives3 : Int), Enc.v (labels4 : (List Int)), Enc.v (l5 : (List Int)), Enc.v (order6 : (List Int))]) 5 3, Enc.v (label7 : Int)] (· = Enc.v (r : Bool)) := by
  refine Fun.of b101 (Nat.le_of_ble_eq_true rfl) (allVal.mem ⟨(by exact (vref_val (l := [.vref (ofL [Enc.v (labels1 : (List Int)), Enc.v (drives2 : (List Int))]) 2 0, Enc.v (drives3 : Int), Enc.v (labels4 : (List Int)), Enc.v (l5 : (List Int)), Enc.v (order6 : (List Int))]) rfl ⟨(vref_val (l := [Enc.v (labels1 : (List Int)), Enc.v (drives2 : (List Int))]) rfl ⟨(v_val _), (v_val _), trivial⟩), (v_val _), (v_val _), (v_val _), (v_val _), trivial⟩)), (by exact (v_val _)), trivial⟩) ?_
  unfold k101
  have nd : Nd [] := Nd_nil
  unfold X.mount_Line_Wants_in_Robot_robot at hX
  refine TK.seq_k fun K8 hK8 => ?_
  refine TK.reg ?_
  refine TL.p (C := cx) (gc := true) (p_mv rfl) rfl rfl ?_
  refine TL.nil ?_
  refine hK8 _ _ ?_
  refine TK.seq_k fun K9 hK9 => ?_
  refine TK.reg ?_
  refine TL.p (C := cx) (gc := true) (p_mv rfl) rfl rfl ?_
  refine TL.p (C := cx) (gc := true) (p_neV kd129 rfl rfl) rfl rfl ?_
  refine TL.p (C := cx) (gc := true) (p_mv rfl) rfl rfl ?_
  refine TL.guardT rfl ?_
  refine TL.p (C := cx) (gc := true) (p_mv rfl) rfl rfl ?_
  refine TL.guardT rfl ?_
  refine TL.p (C := cx) (gc := true) (p_ncV rfl) rfl rfl ?_
  refine TL.guardT rfl ?_
  refine TL.p (C := cx) (gc := true) (p_faR fs107_0 (by decide) rfl) rfl rfl ?_
  refine TL.guardT rfl ?_
  refine TL.p (C := cx) (gc := true) (p_ldR (v := Enc.v (l5 : (List Int))) ty46 rfl rfl rfl rfl rfl rfl) rfl rfl ?_
  refine TL.guardT rfl ?_
  refine TL.p (C := cx) (gc := true) (p_mv rfl) rfl rfl ?_
  obtain ⟨r10, hr10, hX⟩ := bind_some hX
  refine TL.guardT rfl ?_
  refine TL.cvX rfl rfl rfl (fun _ => ⟨rfl, ⟨rfl, ⟨rfl, trivial⟩⟩⟩) (fun e => ok_slices_Contains_Lint_int l5 label7 _ hr10) ?_
  refine TL.p (C := cx) (gc := true) (p_and rfl rfl (fun e => ⟨rfl, fun h => rfl⟩)) rfl rfl ?_
  refine TL.p (C := cx) (gc := true) (p_mv rfl) rfl rfl ?_
  refine TL.nil ?_
  refine hK9 _ _ ?_
  refine TK.ret ?_
  try dsimp only [thenQ]
  exact ret1 (v := Enc.v (r10 : Bool)) rfl (by obtain rfl := some_in hX; rfl) (v_val _)

/-- (*cartridge/robot.Robot).ready -/
theorem ok_robot_Robot_ready (labels1 : (List Int)) (drives2 : (List Int)) (drives3 : Int) (labels4 : (List Int)) (l5 : (List Int)) (order6 : (List Int)) (r : (Int × Bool)) (hX : X.robot_Robot_ready labels1 drives2 drives3 labels4 l5 order6 = some r) : Fun Try.prog 81 [.vref (ofL [.vref (ofL [Enc.v (labels1 : (List Int)), Enc.v (drives2 : (List Int))]) 2 0, Enc.v (drives3 : Int), Enc.v (labels4 : (List Int)), Enc.v (l5 : (List Int)), Enc.v (order6 : (List Int))]) 5 0] (· = .tup 2 (ofL [Enc.v r.1, Enc.v r.2])) := by
  refine Fun.of b81 (Nat.le_of_ble_eq_true rfl) (allVal.mem ⟨(by exact (vref_val (l := [.vref (ofL [Enc.v (labels1 : (List Int)), Enc.v (drives2 : (List Int))]) 2 0, Enc.v (drives3 : Int), Enc.v (labels4 : (List Int)), Enc.v (l5 : (List Int)), Enc.v (order6 : (List Int))]) rfl ⟨(vref_val (l := [Enc.v (labels1 : (List Int)), Enc.v (drives2 : (List Int))]) rfl ⟨(v_val _), (v_val _), trivial⟩), (v_val _), (v_val _), (v_val _), (v_val _), trivial⟩)), trivial⟩) ?_
  unfold k81
  have nd : Nd [] := Nd_nil
  unfold X.robot_Robot_ready at hX
  refine TK.seq_k fun K7 hK7 => ?_
  refine TK.reg ?_
  refine TL.p (C := cx) (gc := true) (p_mv rfl) rfl rfl ?_
  refine TL.p (C := cx) (gc := true) (p_mv rfl) rfl rfl ?_
  refine TL.nil ?_
  refine hK7 _ _ ?_
  refine TK.seq_k fun K8 hK8 => ?_
  refine TK.seq_k fun K9 hK9 => ?_
  refine TK.reg ?_
  refine TL.p (C := cx) (gc := true) (p_mv rfl) rfl rfl ?_
  refine TL.p (C := cx) (gc := true) (p_ncV rfl) rfl rfl ?_
  refine TL.p (C := cx) (gc := true) (p_faR fs109_1 (by decide) rfl) rfl rfl ?_
  refine TL.p (C := cx) (gc := true) (p_ldR (v := Enc.v (drives3 : Int)) ty3 rfl rfl rfl rfl rfl rfl) rfl rfl ?_
  refine TL.p (C := cx) (gc := true) (p_mv rfl) rfl rfl ?_
  refine TL.nil ?_
  refine hK9 _ _ ?_
  refine TK.block ?_
  obtain ⟨o10, hO10, hA10⟩ := bind_some hX
  have E10 : ∀ (env : Env) (h : Hp), (∃ _u : Unit, keepE [0] env = [(0, true, .vref (ofL [.vref (ofL [Enc.v (labels1 : (List Int)), Enc.v (drives2 : (List Int))]) 2 0, Enc.v (drives3 : Int), Enc.v (labels4 : (List Int)), Enc.v (l5 : (List Int)), Enc.v (order6 : (List Int))]) 5 0)] ∧ Nd [] ∧ HSub [] h) → X.robot_Robot_ready_e10 = some r → K8 env h := by
    intro  env h hE hX
    obtain ⟨_u, henv, nd, hs⟩ := hE
    unfold X.robot_Robot_ready_e10 at hX
    refine hK8 _ _ (TK.keep [0] ?_)
    rw [henv]
    refine TK.subH hs ?_
    refine TK.seq_k fun K12 hK12 => ?_
    refine TK.reg ?_
    refine TL.p (C := cx) (gc := true) (p_mv rfl) rfl rfl ?_
    refine TL.p (C := cx) (gc := true) (p_mv rfl) rfl rfl ?_
    refine TL.nil ?_
    refine hK12 _ _ ?_
    refine TK.ret ?_
    try dsimp only [thenQ]
    exact retN (vs := [Enc.v ((0 : Int) : Int), Enc.v (false : Bool)]) ⟨rfl, rfl, trivial⟩ (by obtain rfl := some_in hX; rfl) (allVal.mem ⟨v_val _, v_val _, trivial⟩)
  refine TK.iter [0, 9, 10] (fun s env h => match s with | x11 => ∃ _u : Unit, env = [(0, true, .vref (ofL [.vref (ofL [Enc.v (labels1 : (List Int)), Enc.v (drives2 : (List Int))]) 2 0, Enc.v (drives3 : Int), Enc.v (labels4 : (List Int)), Enc.v (l5 : (List Int)), Enc.v (order6 : (List Int))]) 5 0), (9, true, Enc.v (drives3 : Int)), (10, true, Enc.v (x11 : Int))] ∧ Nd [] ∧ HSub [] h) hO10 ⟨(), rfl, Nd_nil, HSub.refl _⟩ ?_
  rintro x11 env h x10x ⟨_u, rfl, nd, hs⟩ hX hR10
  refine TK.subH hs ?_
  unfold X.robot_Robot_ready_s10 at hX
  try dsimp only at hX
  refine TK.seq_k fun K13 hK13 => ?_
  refine TK.reg ?_
  refine TL.p (C := cx) (gc := true) (p_lss rfl rfl) rfl rfl ?_
  refine TL.nil ?_
  refine hK13 _ _ ?_
  refine TK.seq_k fun K14 hK14 => ?_
  refine TK.cond (b := (decide (x11 < drives3))) rfl (fun hc => ?_) (fun hc => ?_)
  · have hX := ite_t hc hX
    refine TK.skip ?_
    refine hK14 _ _ ?_
    refine TK.seq_k fun K15 hK15 => ?_
    refine TK.block ?_
    refine TK.seq_k fun K16 hK16 => ?_
    refine TK.reg ?_
    refine TL.p (C := cx) (gc := true) (p_mv rfl) rfl rfl ?_
    refine TL.p (C := cx) (gc := true) (p_mv rfl) rfl rfl ?_
    refine TL.nil ?_
    refine hK16 _ _ ?_
    refine TK.seq_k fun K17 hK17 => ?_
    refine TK.reg ?_
    refine TL.p (C := cx) (gc := true) (p_mv rfl) rfl rfl ?_
    refine TL.p (C := cx) (gc := true) (p_ncV rfl) rfl rfl ?_
    refine TL.p (C := cx) (gc := true) (p_faR fs109_0 (by decide) rfl) rfl rfl ?_
    refine TL.p (C := cx) (gc := true) (p_ldR (v := .vref (ofL [Enc.v (labels1 : (List Int)), Enc.v (drives2 : (List Int))]) 2 0) ty102 rfl rfl rfl rfl rfl rfl) rfl rfl ?_
    refine TL.p (C := cx) (gc := true) (p_mv rfl) rfl rfl ?_
    obtain ⟨r18, hr18, hX⟩ := bind_some hX
    refine TL.cvX rfl rfl rfl (fun _ => ⟨rfl, ⟨rfl, ⟨rfl, trivial⟩⟩⟩) (fun e => ok_shelf_Shelf_Mounted labels1 drives2 x11 _ hr18) ?_
    refine TL.p (C := cx) (gc := true) (p_mv rfl) rfl rfl ?_
    refine TL.nil ?_
    refine hK17 _ _ ?_
    refine TK.seq_k fun K19 hK19 => ?_
    refine TK.reg ?_
    refine TL.p (C := cx) (gc := true) (p_mv rfl) rfl rfl ?_
    refine TL.p (C := cx) (gc := true) (p_neq rfl rfl) rfl rfl ?_
    refine TL.p (C := cx) (gc := true) (p_mv rfl) rfl rfl ?_
    refine TL.p (C := cx) (gc := ((r18 != (0 : Int)))) (p_mv rfl (hg := fun e => rfl)) (gcT1 rfl) rfl ?_
    refine TL.p (C := cx) (gc := ((r18 != (0 : Int)))) (p_ncV rfl (hg := fun e => e)) (gcT1 rfl) rfl ?_
    refine TL.p (C := cx) (gc := ((r18 != (0 : Int)))) (p_faR fs109_3 (by decide) rfl (hg := fun e => e)) (gcT1 rfl) rfl ?_
    refine TL.p (C := cx) (gc := ((r18 != (0 : Int)))) (p_mv rfl (hg := fun e => rfl)) (gcT1 rfl) rfl ?_
    obtain ⟨r20, hr20, hX⟩ := bind_some hX
    refine TL.cvX (gcT1 rfl) rfl rfl (fun e => ⟨rfl, ⟨e, ⟨e, trivial⟩⟩⟩) (fun e => ok_mount_Line_Wants_in_Robot_robot labels1 drives2 drives3 labels4 l5 order6 r18 _ (optG_t hr20 e)) ?_
    refine TL.p (C := cx) (gc := true) (p_and rfl rfl (fun e => ⟨rfl, fun h => h⟩)) rfl rfl ?_
    refine TL.nil ?_
    refine hK19 _ _ ?_
    refine TK.cond (b := ((r18 != (0 : Int)) && r20)) rfl (fun hc => ?_) (fun hc => ?_)
    · have hX := ite_t hc hX
      refine TK.seq_k fun K21 hK21 => ?_
      refine TK.reg ?_
      refine TL.p (C := cx) (gc := true) (p_mv rfl) rfl rfl ?_
      refine TL.p (C := cx) (gc := true) (p_mv rfl) rfl rfl ?_
      refine TL.p (C := cx) (gc := true) (p_mv rfl) rfl rfl ?_
      refine TL.nil ?_
      refine hK21 _ _ ?_
      refine TK.ret ?_
      obtain rfl := hR10 _ (some_in hX).symm
      replace hX := hA10
      try dsimp only [thenQ]
      exact retN (vs := [Enc.v (r18 : Int), Enc.v (true : Bool)]) ⟨rfl, rfl, trivial⟩ (by obtain rfl := some_in hX; rfl) (allVal.mem ⟨v_val _, v_val _, trivial⟩)
    · have hX := ite_f hc hX
      refine TK.skip ?_
      refine hK15 _ _ ?_
      refine TK.reg ?_
      refine TL.p (C := cx) (gc := true) (p_add rfl rfl) rfl rfl ?_
      refine TL.p (C := cx) (gc := true) (p_mv rfl) rfl rfl ?_
      refine TL.nil ?_
      exact ⟨_, (some_in hX).symm, (), rfl, Nd_nil, HSub.refl _⟩
  · have hX := ite_f hc hX
    refine TK.exit ?_
    obtain rfl := hR10 _ (some_in hX).symm
    exact E10 _ _ ⟨(), rfl, Nd_nil, HSub.refl _⟩ hA10

/-- slices.DeleteFunc[[]int,int] -/
theorem ok_slices_DeleteFunc_Lint_int (g3 : Int → Option Bool) (s1 : (List Int)) (b2 : Nat) (nd : Nd [(b2, RL (α := Int) 3 s1)]) (r : (List Int)) (hX : X.slices_DeleteFunc_Lint_int g3 s1 = some r) {g3V : AV} (hg3V : ∃ f m c, g3V = .fn f m c ∧ (∀ i, i < m → (c i).val) ∧ ∀ (a0 : Int) r, g3 a0 = some r → Fun Try.prog f ([Enc.v a0] ++ (List.range m).map c) (· = Enc.v r)) : TCX Try.prog 102 [OL (α := Int) b2 s1, g3V] [(b2, RL (α := Int) 3 s1)] (fun rv h' => ∃ b37, rv = OL (α := Int) b37 r ∧ h' = [(b37, RL (α := Int) 3 r)]) := by
  obtain ⟨g3f, g3m, g3c, rfl, hg3v, hg3⟩ := hg3V
  refine TCX.of b102 (Nat.le_of_ble_eq_true rfl) ?_
  unfold k102
  unfold X.slices_DeleteFunc_Lint_int at hX
  refine TK.seq_k fun K4 hK4 => ?_
  refine TK.reg ?_
  refine TL.p (C := cx) (gc := true) (p_mv rfl) rfl rfl ?_
  refine TL.nil ?_
  refine hK4 _ _ ?_
  refine TK.seq_k fun K5 hK5 => ?_
  refine TK.reg ?_
  refine TL.p (C := cx) (gc := true) (p_mv rfl) rfl rfl ?_
  refine TL.p (C := cx) (gc := true) (p_mv rfl) rfl rfl ?_
  obtain ⟨r6, hr6, hX⟩ := bind_some hX
  refine TL.lookX [L s1, .fn g3f g3m g3c] rfl rfl rfl (fun _ => ⟨rfl, ⟨rfl, ⟨rfl, trivial⟩⟩⟩) ⟨look_OL nd (j := 0) rfl, look_v hg3v, trivial⟩ (fun e => ok_slices_IndexFunc_Lint_int s1 g3 _ hr6 ⟨_, _, _, rfl, hg3v, hg3⟩) (trivial) ?_
  refine TL.p (C := cx) (gc := true) (p_mv rfl) rfl rfl ?_
  refine TL.nil ?_
  refine hK5 _ _ ?_
  refine TK.seq_k fun K7 hK7 => ?_
  refine TK.seq_k fun K8 hK8 => ?_
  refine TK.reg ?_
  refine TL.p (C := cx) (gc := true) (p_mv rfl) rfl rfl ?_
  refine TL.p (C := cx) (gc := true) (p_eql rfl rfl) rfl rfl ?_
  refine TL.nil ?_
  refine hK8 _ _ ?_
  refine TK.cond (b := (r6 == ((-1) : Int))) rfl (fun hc => ?_) (fun hc => ?_)
  · have hX := ite_t hc hX
    refine TK.seq_k fun K9 hK9 => ?_
    refine TK.reg ?_
    refine TL.p (C := cx) (gc := true) (p_mv rfl) rfl rfl ?_
    refine TL.p (C := cx) (gc := true) (p_mv rfl) rfl rfl ?_
    refine TL.nil ?_
    refine hK9 _ _ ?_
    refine TK.ret ?_
    try dsimp only [thenQ]
    exact retX (v := OL (α := Int) b2 s1) (res1 rfl) (by obtain rfl := some_in hX; exact ⟨b2, rfl, rfl⟩) nd (inH_rs nd (j := 0) rfl) ⟨rowIn_RL, trivial⟩
  · have hX := ite_f hc hX
    refine TK.skip ?_
    refine hK7 _ _ ?_
    refine TK.seq_k fun K10 hK10 => ?_
    refine TK.seq_k fun K11 hK11 => ?_
    refine TK.reg ?_
    refine TL.p (C := cx) (gc := true) (p_mv rfl) rfl rfl ?_
    refine TL.p (C := cx) (gc := true) (p_add rfl rfl) rfl rfl ?_
    refine TL.p (C := cx) (gc := true) (p_mv rfl) rfl rfl ?_
    refine TL.nil ?_
    refine hK11 _ _ ?_
    refine TK.block ?_
    obtain ⟨o12, hO12, hA12⟩ := bind_some hX
    have E12 : ∀ (l18 : List Int) (i19 : Int) (env : Env) (h : Hp), (∃ _u : Unit, keepE [0, 5] env = [(0, true, OL (α := Int) b2 l18), (5, true, Enc.v (i19 : Int))] ∧ Nd [(b2, RL (α := Int) 3 l18)] ∧ HSub [(b2, RL (α := Int) 3 l18)] h) → X.slices_DeleteFunc_Lint_int_e12 l18 i19 = some r → K10 env h := by
      intro l18 i19 env h hE hX
      obtain ⟨_u, henv, nd, hs⟩ := hE
      unfold X.slices_DeleteFunc_Lint_int_e12 at hX
      refine hK10 _ _ (TK.keep [0, 5] ?_)
      rw [henv]
      refine TK.subH hs ?_
      refine TK.seq_k fun K20 hK20 => ?_
      refine TK.reg ?_
      refine TL.p (C := cx) (gc := true) (p_mv rfl) rfl rfl ?_
      refine TL.p (C := cx) (gc := true) (p_mv rfl) rfl rfl ?_
      obtain ⟨u21, hu21, hX⟩ := bind_some hX
      refine TL.p (C := cx) (gc := true) (p_sliO (xs := l18) (l := i19) (k := (l18.length : Int)) kd46 ty3 rfl rfl nd (j := 0) rfl rfl rfl (fun e => need_t hu21)) rfl rfl ?_
      refine TL.clrO (C := cx) nd (0 : Int) kd46 ty3 rfl (fun j hj => by (have : j = 0 := by simpa [Enc.sz] using hj); subst this; rfl) rfl (j := 0) rfl (need_t hu21).1 fun nd => ?_
      refine TL.cv 0 (OL b2 (clr l18 i19 (l18.length : Int) (0 : Int))) rfl (Wk_eq (OL_len (clr_len (need_t hu21).1))) ?_
      refine TL.nil ?_
      refine hK20 _ _ ?_
      refine TK.seq_k fun K22 hK22 => ?_
      refine TK.reg ?_
      refine TL.p (C := cx) (gc := true) (p_mv rfl) rfl rfl ?_
      refine TL.p (C := cx) (gc := true) (p_mv rfl) rfl rfl ?_
      obtain ⟨u23, hu23, hX⟩ := bind_some hX
      refine TL.p (C := cx) (gc := true) (p_sliO (xs := (clr l18 i19 (l18.length : Int) (0 : Int))) (l := (0 : Int)) (k := i19) kd46 ty3 rfl rfl nd (j := 0) rfl rfl rfl (fun e => need_t hu23)) rfl rfl ?_
      refine TL.p (C := cx) (gc := true) (p_mv rfl) rfl rfl ?_
      refine TL.nil ?_
      refine hK22 _ _ ?_
      refine TK.cutX (xs := (clr l18 i19 (l18.length : Int) (0 : Int))) (k := i19) 4 nd (j := 0) rfl rfl (by have := (need_t hu23).1; omega) fun b24 nd => ?_
      refine TK.ret ?_
      try dsimp only [thenQ]
      exact retX (v := OL (α := Int) b24 (slc (clr l18 i19 (l18.length : Int) (0 : Int)) (0 : Int) i19)) (res1 rfl) (by obtain rfl := some_in hX; exact ⟨b24, rfl, rfl⟩) nd (inH_rs nd (j := 0) rfl) ⟨rowIn_RL, trivial⟩
    refine TK.iter [0, 1, 5, 6] (fun s env h => match s with | (s14, i15, j16) => ∃ _u : Unit, env = [(0, true, OL (α := Int) b2 s14), (1, true, .fn g3f g3m g3c), (5, true, Enc.v (i15 : Int)), (6, true, Enc.v (j16 : Int))] ∧ Nd [(b2, RL (α := Int) 3 s14)] ∧ HSub [(b2, RL (α := Int) 3 s14)] h) hO12 ⟨(), rfl, (Nd.pick nd (is := [0]) (by decide)), (HSub.pick nd (is := [0]) (by decide))⟩ ?_
    rintro ⟨s14, i15, j16⟩ env h x12x ⟨_u, rfl, nd, hs⟩ hX hR12
    refine TK.subH hs ?_
    unfold X.slices_DeleteFunc_Lint_int_s12 at hX
    try dsimp only at hX
    refine TK.seq_k fun K25 hK25 => ?_
    refine TK.seq_k fun K26 hK26 => ?_
    refine TK.reg ?_
    refine TL.p (C := cx) (gc := true) (p_mv rfl) rfl rfl ?_
    refine TL.p (C := cx) (gc := true) (p_mv rfl) rfl rfl ?_
    refine TL.p (C := cx) (gc := true) (p_lenR kd46 rfl (fun _ => refOK_of nd (j := 0) rfl rfl)) rfl rfl ?_
    refine TL.p (C := cx) (gc := true) (p_lss rfl rfl) rfl rfl ?_
    refine TL.nil ?_
    refine hK26 _ _ ?_
    refine TK.cond (b := (decide (j16 < (s14.length : Int)))) rfl (fun hc => ?_) (fun hc => ?_)
    · have hX := ite_t hc hX
      refine TK.skip ?_
      refine hK25 _ _ ?_
      refine TK.seq_k fun K27 hK27 => ?_
      have J27 : ∀ (l29 : List Int) (i30 : Int) (env : Env) (h : Hp), (∃ _u : Unit, keepE [0, 1, 5, 6] env = [(0, true, OL (α := Int) b2 l29), (1, true, .fn g3f g3m g3c), (5, true, Enc.v (i30 : Int)), (6, true, Enc.v (j16 : Int))] ∧ Nd [(b2, RL (α := Int) 3 l29)] ∧ HSub [(b2, RL (α := Int) 3 l29)] h) → X.slices_DeleteFunc_Lint_int_j27 j16 l29 i30 = some x12x → K27 env h := by
        intro l29 i30 env h hE hX
        obtain ⟨_u, henv, nd, hs⟩ := hE
        unfold X.slices_DeleteFunc_Lint_int_j27 at hX
        refine hK27 _ _ (TK.keep [0, 1, 5, 6] ?_)
        rw [henv]
        refine TK.subH hs ?_
        refine TK.reg ?_
        refine TL.p (C := cx) (gc := true) (p_mv rfl) rfl rfl ?_
        refine TL.p (C := cx) (gc := true) (p_add rfl rfl) rfl rfl ?_
        refine TL.p (C := cx) (gc := true) (p_mv rfl) rfl rfl ?_
        refine TL.nil ?_
        exact ⟨_, (some_in hX).symm, (), rfl, (Nd.pick nd (is := [0]) (by decide)), (HSub.pick nd (is := [0]) (by decide))⟩
      refine TK.block ?_
      refine TK.seq_k fun K31 hK31 => ?_
      refine TK.reg ?_
      refine TL.p (C := cx) (gc := true) (p_mv rfl) rfl rfl ?_
      refine TL.p (C := cx) (gc := true) (p_mv rfl) rfl rfl ?_
      obtain ⟨e32, he32, hX⟩ := bind_some hX
      refine TL.p (C := cx) (gc := true) (p_iaO (xs := s14) kd46 ty3 rfl rfl rfl nd (j := 0) rfl (fun _ => he32)) rfl rfl ?_
      refine TL.p (C := cx) (gc := true) (p_ldO (xs := s14) (a := e32) (e32 : Int) ty3 rfl rfl nd (j := 0) rfl (fun _ => he32) rfl rfl rfl) rfl rfl ?_
      refine TL.p (C := cx) (gc := true) (p_mv rfl) rfl rfl ?_
      refine TL.nil ?_
      refine hK31 _ _ ?_
      refine TK.seq_k fun K33 hK33 => ?_
      refine TK.reg ?_
      refine TL.p (C := cx) (gc := true) (p_mv rfl) rfl rfl ?_
      refine TL.p (C := cx) (gc := true) (p_mv rfl) rfl rfl ?_
      obtain ⟨r34, hr34, hX⟩ := bind_some hX
      refine TL.cvX rfl rfl rfl (fun _ => ⟨rfl, ⟨rfl, trivial⟩⟩) (fun e => hg3 e32 _ hr34) ?_
      refine TL.p (C := cx) (gc := true) (p_not rfl) rfl rfl ?_
      refine TL.nil ?_
      refine hK33 _ _ ?_
      refine TK.cond (b := (!r34)) rfl (fun hc => ?_) (fun hc => ?_)
      · have hX := ite_t hc hX
        refine TK.seq_k fun K35 hK35 => ?_
        refine TK.reg ?_
        refine TL.p (C := cx) (gc := true) (p_mv rfl) rfl rfl ?_
        refine TL.p (C := cx) (gc := true) (p_mv rfl) rfl rfl ?_
        refine TL.p (C := cx) (gc := true) (p_mv rfl) rfl rfl ?_
        obtain ⟨e36, he36, hX⟩ := bind_some hX
        refine TL.p (C := cx) (gc := true) (p_iaO (xs := s14) kd46 ty3 rfl rfl rfl nd (j := 0) rfl (fun _ => he36)) rfl rfl ?_
        refine TL.stW (C := cx) (xs := s14) (i := i15) (lu := Enc.cl (e32 : Int)) (a' := e32) nd ty3 rfl (j := 0) rfl (by simp [Enc.sz]) (inb_of he36 (by simp)) rfl (Cells_v (e32 : Int)) rfl (WkL_refl _) fun nd => ?_
        refine TL.cv 0 (OL b2 (s14.set i15.toNat e32)) rfl (Wk_eq (OL_len (by simp))) ?_
        refine TL.nil ?_
        refine hK35 _ _ ?_
        refine TK.reg ?_
        refine TL.p (C := cx) (gc := true) (p_mv rfl) rfl rfl ?_
        refine TL.p (C := cx) (gc := true) (p_add rfl rfl) rfl rfl ?_
        refine TL.p (C := cx) (gc := true) (p_mv rfl) rfl rfl ?_
        refine TL.nil ?_
        exact J27 (s14.set i15.toNat e32) (wr (i15 + (1 : Int))) _ _ ⟨(), rfl, (Nd.pick nd (is := [0]) (by decide)), (HSub.pick nd (is := [0]) (by decide))⟩ hX
      · have hX := ite_f hc hX
        refine TK.skip ?_
        exact J27 s14 i15 _ _ ⟨(), rfl, (Nd.pick nd (is := [0]) (by decide)), (HSub.pick nd (is := [0]) (by decide))⟩ hX
    · have hX := ite_f hc hX
      refine TK.exit ?_
      obtain rfl := hR12 _ (some_in hX).symm
      exact E12 s14 i15 _ _ ⟨(), rfl, (Nd.pick nd (is := [0]) (by decide)), (HSub.pick nd (is := [0]) (by decide))⟩ hA12

/-- (*cartridge/mount.Line).Serve$1 -/
theorem ok_mount_Line_Serve_c1 (x1 : Int) (c2 : Int) (r : Bool) (hX : X.mount_Line_Serve_c1 x1 c2 = some r) : Fun Try.prog 103 [Enc.v (x1 : Int), .vref (ofL [Enc.v (c2 : Int)]) 1 0] (· = Enc.v (r : Bool)) := by
  refine Fun.of b103 (Nat.le_of_ble_eq_true rfl) (allVal.mem ⟨(by exact (v_val _)), (by exact (vref_val (l := [Enc.v (c2 : Int)]) rfl ⟨(v_val _), trivial⟩)), trivial⟩) ?_
  unfold k103
  have nd : Nd [] := Nd_nil
  unfold X.mount_Line_Serve_c1 at hX
  refine TK.seq_k fun K3 hK3 => ?_
  refine TK.reg ?_
  refine TL.p (C := cx) (gc := true) (p_mv rfl) rfl rfl ?_
  refine TL.nil ?_
  refine hK3 _ _ ?_
  refine TK.seq_k fun K4 hK4 => ?_
  refine TK.reg ?_
  refine TL.p (C := cx) (gc := true) (p_mv rfl) rfl rfl ?_
  refine TL.p (C := cx) (gc := true) (p_ldR (v := Enc.v (c2 : Int)) ty3 rfl rfl rfl rfl rfl rfl) rfl rfl ?_
  refine TL.p (C := cx) (gc := true) (p_eql rfl rfl) rfl rfl ?_
  refine TL.p (C := cx) (gc := true) (p_mv rfl) rfl rfl ?_
  refine TL.nil ?_
  refine hK4 _ _ ?_
  refine TK.ret ?_
  try dsimp only [thenQ]
  exact ret1 (v := Enc.v ((x1 == c2) : Bool)) rfl (by obtain rfl := some_in hX; rfl) (v_val _)

/-- (*cartridge/mount.Line).Serve -/
theorem ok_mount_Line_Serve_in_Robot_robot (label13 : Int) (labels1 : (List Int)) (drives2 : (List Int)) (drives3 : Int) (labels4 : (List Int)) (l5 : (List Int)) (order6 : (List Int)) (b7 : Nat) (b8 : Nat) (b9 : Nat) (b10 : Nat) (b11 : Nat) (pre12 : List Int) (nd : Nd [(b7, RV 109 [.ref b8 0 2, Enc.v (drives3 : Int), Enc.v (labels4 : (List Int)), OL (α := Int) b10 l5, OQ (α := Int) b11 pre12 order6]), (b8, RV 127 [Enc.v (labels1 : (List Int)), OL (α := Int) b9 drives2]), (b9, RL (α := Int) 3 drives2), (b10, RL (α := Int) 3 l5), (b11, RL (α := Int) 3 (pre12 ++ order6))]) (r : (Int × ((List Int) × (List Int) × Int × (List Int) × (List Int) × (List Int)))) (hX : X.mount_Line_Serve_in_Robot_robot label13 labels1 drives2 drives3 labels4 l5 order6 = some r) : TCX Try.prog 85 [.ref b7 3 5, Enc.v (label13 : Int)] [(b7, RV 109 [.ref b8 0 2, Enc.v (drives3 : Int), Enc.v (labels4 : (List Int)), OL (α := Int) b10 l5, OQ (α := Int) b11 pre12 order6]), (b8, RV 127 [Enc.v (labels1 : (List Int)), OL (α := Int) b9 drives2]), (b9, RL (α := Int) 3 drives2), (b10, RL (α := Int) 3 l5), (b11, RL (α := Int) 3 (pre12 ++ order6))] (fun rv h' => ∃ b30 b31 b32 b33 pre34, rv = Enc.v (r.1 : Int) ∧ h' = [(b7, RV 109 [.ref b30 0 2, Enc.v (r.2.2.2.1 : Int), Enc.v (r.2.2.2.2.1 : (List Int)), OL (α := Int) b32 r.2.2.2.2.2.1, OQ (α := Int) b33 pre34 r.2.2.2.2.2.2]), (b30, RV 127 [Enc.v (r.2.1 : (List Int)), OL (α := Int) b31 r.2.2.1]), (b31, RL (α := Int) 3 r.2.2.1), (b32, RL (α := Int) 3 r.2.2.2.2.2.1), (b33, RL (α := Int) 3 (pre34 ++ r.2.2.2.2.2.2))]) := by
  refine TCX.of b85 (Nat.le_of_ble_eq_true rfl) ?_
  unfold k85
  unfold X.mount_Line_Serve_in_Robot_robot at hX
  refine TK.seq_k fun K14 hK14 => ?_
  refine TK.reg ?_
  refine TL.boxV (C := cx) (lu := [Enc.v (label13 : Int)]) nd rfl (Cells_v (label13 : Int)) rfl ?_
  refine TL.p (C := cx) (gc := true) (p_mv rfl) rfl rfl ?_
  refine TL.nil ?_
  refine hK14 _ _ ?_
  refine TK.seq_k fun K15 hK15 => ?_
  refine TK.reg ?_
  refine TL.p (C := cx) (gc := true) (p_mv rfl) rfl rfl ?_
  obtain ⟨r16, hr16, hX⟩ := bind_some hX
  refine TL.lookX [.vref (ofL [.vref (ofL [Enc.v (labels1 : (List Int)), Enc.v (drives2 : (List Int))]) 2 0, Enc.v (drives3 : Int), Enc.v (labels4 : (List Int)), Enc.v (l5 : (List Int)), Enc.v (order6 : (List Int))]) 5 3] rfl rfl rfl (fun _ => ⟨rfl, ⟨rfl, trivial⟩⟩) ⟨look_ref (l := [.ref b8 0 2, Enc.v (drives3 : Int), Enc.v (labels4 : (List Int)), OL (α := Int) b10 l5, OQ (α := Int) b11 pre12 order6]) nd (j := 0) rfl ⟨look_ref (l := [Enc.v (labels1 : (List Int)), OL (α := Int) b9 drives2]) nd (j := 1) rfl ⟨look_v (v := Enc.v (labels1 : (List Int))) (v_val _), look_OL nd (j := 2) rfl, trivial⟩, look_v (v := Enc.v (drives3 : Int)) (v_val _), look_v (v := Enc.v (labels4 : (List Int))) (v_val _), look_OL nd (j := 3) rfl, look_OQ nd (j := 4) rfl, trivial⟩, trivial⟩ (fun e => ok_mount_Line_Len_in_Robot_robot labels1 drives2 drives3 labels4 l5 order6 _ hr16) (trivial) ?_
  refine TL.p (C := cx) (gc := true) (p_mv rfl) rfl rfl ?_
  refine TL.nil ?_
  refine hK15 _ _ ?_
  refine TK.seq_k fun K17 hK17 => ?_
  have J17 : ∀ (l22 : List Int) (env : Env) (h : Hp), (∃ b21, keepE [0, 5] env = [(0, true, .ref b7 3 5), (5, true, Enc.v (r16 : Int))] ∧ Nd [(b9, RL (α := Int) 3 drives2), (b8, RV 127 [Enc.v (labels1 : (List Int)), OL (α := Int) b9 drives2]), (b21, RL (α := Int) 3 l22), (b11, RL (α := Int) 3 (pre12 ++ order6)), (b7, RV 109 [.ref b8 0 2, Enc.v (drives3 : Int), Enc.v (labels4 : (List Int)), OL (α := Int) b21 l22, OQ (α := Int) b11 pre12 order6])] ∧ HSub [(b9, RL (α := Int) 3 drives2), (b8, RV 127 [Enc.v (labels1 : (List Int)), OL (α := Int) b9 drives2]), (b21, RL (α := Int) 3 l22), (b11, RL (α := Int) 3 (pre12 ++ order6)), (b7, RV 109 [.ref b8 0 2, Enc.v (drives3 : Int), Enc.v (labels4 : (List Int)), OL (α := Int) b21 l22, OQ (α := Int) b11 pre12 order6])] h) → X.mount_Line_Serve_in_Robot_robot_j17 labels1 drives2 drives3 labels4 order6 r16 l22 = some r → K17 env h := by
    intro l22 env h hE hX
    obtain ⟨b21, henv, nd, hs⟩ := hE
    unfold X.mount_Line_Serve_in_Robot_robot_j17 at hX
    refine hK17 _ _ (TK.keep [0, 5] ?_)
    rw [henv]
    refine TK.subH hs ?_
    refine TK.seq_k fun K24 hK24 => ?_
    refine TK.reg ?_
    refine TL.p (C := cx) (gc := true) (p_mv rfl) rfl rfl ?_
    refine TL.p (C := cx) (gc := true) (p_mv rfl) rfl rfl ?_
    obtain ⟨r25, hr25, hX⟩ := bind_some hX
    refine TL.lookX [.vref (ofL [.vref (ofL [Enc.v (labels1 : (List Int)), Enc.v (drives2 : (List Int))]) 2 0, Enc.v (drives3 : Int), Enc.v (labels4 : (List Int)), Enc.v (l22 : (List Int)), Enc.v (order6 : (List Int))]) 5 3] rfl rfl rfl (fun _ => ⟨rfl, ⟨rfl, trivial⟩⟩) ⟨look_ref (l := [.ref b8 0 2, Enc.v (drives3 : Int), Enc.v (labels4 : (List Int)), OL (α := Int) b21 l22, OQ (α := Int) b11 pre12 order6]) nd (j := 4) rfl ⟨look_ref (l := [Enc.v (labels1 : (List Int)), OL (α := Int) b9 drives2]) nd (j := 1) rfl ⟨look_v (v := Enc.v (labels1 : (List Int))) (v_val _), look_OL nd (j := 0) rfl, trivial⟩, look_v (v := Enc.v (drives3 : Int)) (v_val _), look_v (v := Enc.v (labels4 : (List Int))) (v_val _), look_OL nd (j := 2) rfl, look_OQ nd (j := 3) rfl, trivial⟩, trivial⟩ (fun e => ok_mount_Line_Len_in_Robot_robot labels1 drives2 drives3 labels4 l22 order6 _ hr25) (trivial) ?_
    refine TL.p (C := cx) (gc := true) (p_sub rfl rfl) rfl rfl ?_
    refine TL.p (C := cx) (gc := true) (p_mv rfl) rfl rfl ?_
    refine TL.nil ?_
    refine hK24 _ _ ?_
    refine TK.pick [4, 1, 0, 2, 3] nd (by decide) fun nd => ?_
    refine TK.ret ?_
    try dsimp only [thenQ]
    exact retX (v := Enc.v ((wr (r16 - r25)) : Int)) (res1 rfl) (by obtain rfl := some_in hX; exact ⟨b8, b9, b21, b11, pre12, rfl, rfl⟩) nd (inH_val (v_val _)) ⟨rowIn_RV ⟨inH_ref nd (j := 1) rfl, inH_val (v_val _), inH_val (v_val _), inH_rs nd (j := 3) rfl, inH_rs nd (j := 4) rfl, trivial⟩, rowIn_RV ⟨inH_val (v_val _), inH_rs nd (j := 2) rfl, trivial⟩, rowIn_RL, rowIn_RL, rowIn_RL, trivial⟩
  refine TK.seq_k fun K26 hK26 => ?_
  refine TK.reg ?_
  refine TL.p (C := cx) (gc := true) (p_mv rfl) rfl rfl ?_
  refine TL.p (C := cx) (gc := true) (p_gtr rfl rfl) rfl rfl ?_
  refine TL.nil ?_
  refine hK26 _ _ ?_
  refine TK.cond (b := (decide (r16 > (0 : Int)))) rfl (fun hc => ?_) (fun hc => ?_)
  · have hX := ite_t hc hX
    refine TK.reg ?_
    refine TL.p (C := cx) (gc := true) (p_mv rfl) rfl rfl ?_
    refine TL.p (C := cx) (gc := true) (p_mv rfl) rfl rfl ?_
    refine TL.p (C := cx) (gc := true) (p_ncR rfl (fun _ => refOK_of nd (j := 0) rfl rfl)) rfl rfl ?_
    refine TL.p (C := cx) (gc := true) (p_faV fs107_0 (by decide) rfl nd (j := 0) rfl rfl) rfl rfl ?_
    refine TL.p (C := cx) (gc := true) (p_ldV (v := OL (α := Int) b10 l5) ty46 rfl rfl nd (j := 0) rfl rfl rfl rfl rfl) rfl rfl ?_
    refine TL.p (C := cx) (gc := true) (p_mf (l := [.vref (ofL [Enc.v (label13 : Int)]) 1 0]) rfl (fun _ => ⟨rfl, trivial⟩)) rfl rfl ?_
    obtain ⟨r27, hr27, hX⟩ := bind_some hX
    refine TL.pick [3, 0, 1, 2, 4] nd (by decide) fun nd => ?_
    refine TL.tcX [(b10, RL (α := Int) 3 l5)] [(b7, RV 109 [.ref b8 0 2, Enc.v (drives3 : Int), Enc.v (labels4 : (List Int)), OL (α := Int) b10 l5, OQ (α := Int) b11 pre12 order6]), (b8, RV 127 [Enc.v (labels1 : (List Int)), OL (α := Int) b9 drives2]), (b9, RL (α := Int) 3 drives2), (b11, RL (α := Int) 3 (pre12 ++ order6))] rfl nd (dlt rfl) rfl ⟨rfl, ⟨rfl, ⟨rfl, trivial⟩⟩⟩ (ok_slices_DeleteFunc_Lint_int (fun a1 => X.mount_Line_Serve_c1 a1 label13) l5 b10 (Nd.take nd 1 rfl) _ hr27 ⟨103, 1, ofL [.vref (ofL [Enc.v (label13 : Int)]) 1 0], rfl, (caps_val rfl ⟨(vref_val (l := [Enc.v (label13 : Int)]) rfl ⟨(v_val _), trivial⟩), trivial⟩), fun a1 r hr => ok_mount_Line_Serve_c1 a1 label13 r hr⟩) ?_
    rintro _ _ hQ nd
    obtain ⟨b28, rfl, rfl⟩ := hQ
    refine TL.p (C := cx) (gc := true) (p_ncR rfl (fun _ => refOK_of nd (j := 1) rfl rfl)) rfl rfl ?_
    refine TL.p (C := cx) (gc := true) (p_faV fs107_0 (by decide) rfl nd (j := 1) rfl rfl) rfl rfl ?_
    refine TL.stV (C := cx) (lu := [OL (α := Int) b28 r27]) nd ty46 rfl (j := 1) rfl rfl rfl (Cells_rs (refOK_of nd (j := 0) rfl rfl)) rfl rfl [.ref b8 0 2, Enc.v (drives3 : Int), Enc.v (labels4 : (List Int)), OL (α := Int) b28 r27, OQ (α := Int) b11 pre12 order6] rfl fun nd => ?_
    refine TL.nil ?_
    exact J17 r27 _ _ ⟨b28, rfl, (Nd.pick nd (is := [3, 2, 0, 4, 1]) (by decide)), (HSub.pick nd (is := [3, 2, 0, 4, 1]) (by decide))⟩ hX
  · have hX := ite_f hc hX
    refine TK.skip ?_
    exact J17 l5 _ _ ⟨b10, rfl, (Nd.pick nd (is := [2, 1, 3, 4, 0]) (by decide)), (HSub.pick nd (is := [2, 1, 3, 4, 0]) (by decide))⟩ hX

/-- (*cartridge/mount.Line).First -/
theorem ok_mount_Line_First_in_Robot_robot (labels1 : (List Int)) (drives2 : (List Int)) (drives3 : Int) (labels4 : (List Int)) (l5 : (List Int)) (order6 : (List Int)) (r : (Int × Bool)) (hX : X.mount_Line_First_in_Robot_robot labels1 drives2 drives3 labels4 l5 order6 = some r) : Fun Try.prog 104 [.vref (ofL [.vref (ofL [Enc.v (labels1 : (List Int)), Enc.v (drives2 : (List Int))]) 2 0, Enc.v (drives3 : Int), Enc.v (labels4 : (List Int)), Enc.v (l5 : (List Int)), Enc.v (order6 : (List Int))]) 5 3] (· = .tup 2 (ofL [Enc.v r.1, Enc.v r.2])) := by
  refine Fun.of b104 (Nat.le_of_ble_eq_true rfl) (allVal.mem ⟨(by exact (vref_val (l := [.vref (ofL [Enc.v (labels1 : (List Int)), Enc.v (drives2 : (List Int))]) 2 0, Enc.v (drives3 : Int), Enc.v (labels4 : (List Int)), Enc.v (l5 : (List Int)), Enc.v (order6 : (List Int))]) rfl ⟨(vref_val (l := [Enc.v (labels1 : (List Int)), Enc.v (drives2 : (List Int))]) rfl ⟨(v_val _), (v_val _), trivial⟩), (v_val _), (v_val _), (v_val _), (v_val _), trivial⟩)), trivial⟩) ?_
  unfold k104
  have nd : Nd [] := Nd_nil
  unfold X.mount_Line_First_in_Robot_robot at hX
  refine TK.seq_k fun K7 hK7 => ?_
  refine TK.reg ?_
  refine TL.p (C := cx) (gc := true) (p_mv rfl) rfl rfl ?_
  refine TL.p (C := cx) (gc := true) (p_mv rfl) rfl rfl ?_
  refine TL.nil ?_
  refine hK7 _ _ ?_
  refine TK.seq_k fun K8 hK8 => ?_
  refine TK.seq_k fun K9 hK9 => ?_
  refine TK.reg ?_
  refine TL.p (C := cx) (gc := true) (p_mv rfl) rfl rfl ?_
  obtain ⟨r10, hr10, hX⟩ := bind_some hX
  refine TL.cvX rfl rfl rfl (fun _ => ⟨rfl, ⟨rfl, trivial⟩⟩) (fun e => ok_mount_Line_Len_in_Robot_robot labels1 drives2 drives3 labels4 l5 order6 _ hr10) ?_
  refine TL.p (C := cx) (gc := true) (p_eql rfl rfl) rfl rfl ?_
  refine TL.nil ?_
  refine hK9 _ _ ?_
  refine TK.cond (b := (r10 == (0 : Int))) rfl (fun hc => ?_) (fun hc => ?_)
  · have hX := ite_t hc hX
    refine TK.seq_k fun K11 hK11 => ?_
    refine TK.reg ?_
    refine TL.p (C := cx) (gc := true) (p_mv rfl) rfl rfl ?_
    refine TL.p (C := cx) (gc := true) (p_mv rfl) rfl rfl ?_
    refine TL.nil ?_
    refine hK11 _ _ ?_
    refine TK.ret ?_
    try dsimp only [thenQ]
    exact retN (vs := [Enc.v ((0 : Int) : Int), Enc.v (false : Bool)]) ⟨rfl, rfl, trivial⟩ (by obtain rfl := some_in hX; rfl) (allVal.mem ⟨v_val _, v_val _, trivial⟩)
  · have hX := ite_f hc hX
    refine TK.skip ?_
    refine hK8 _ _ ?_
    refine TK.seq_k fun K12 hK12 => ?_
    refine TK.reg ?_
    refine TL.p (C := cx) (gc := true) (p_mv rfl) rfl rfl ?_
    refine TL.p (C := cx) (gc := true) (p_ncV rfl) rfl rfl ?_
    refine TL.p (C := cx) (gc := true) (p_faR fs107_0 (by decide) rfl) rfl rfl ?_
    refine TL.p (C := cx) (gc := true) (p_ldR (v := Enc.v (l5 : (List Int))) ty46 rfl rfl rfl rfl rfl rfl) rfl rfl ?_
    obtain ⟨e13, he13, hX⟩ := bind_some hX
    refine TL.p (C := cx) (gc := true) (p_iaL (xs := l5) kd46 ty3 rfl rfl rfl (fun _ => he13)) rfl rfl ?_
    refine TL.p (C := cx) (gc := true) (p_ldE (xs := l5) (a := e13) (e13 : Int) ty3 rfl rfl (fun _ => he13) rfl rfl rfl) rfl rfl ?_
    refine TL.p (C := cx) (gc := true) (p_mv rfl) rfl rfl ?_
    refine TL.p (C := cx) (gc := true) (p_mv rfl) rfl rfl ?_
    refine TL.nil ?_
    refine hK12 _ _ ?_
    refine TK.ret ?_
    try dsimp only [thenQ]
    exact retN (vs := [Enc.v (e13 : Int), Enc.v (true : Bool)]) ⟨rfl, rfl, trivial⟩ (by obtain rfl := some_in hX; rfl) (allVal.mem ⟨v_val _, v_val _, trivial⟩)

/-- (*cartridge/robot.Robot).empty -/
theorem ok_robot_Robot_empty (labels1 : (List Int)) (drives2 : (List Int)) (drives3 : Int) (labels4 : (List Int)) (l5 : (List Int)) (order6 : (List Int)) (r : (Int × Bool)) (hX : X.robot_Robot_empty labels1 drives2 drives3 labels4 l5 order6 = some r) : Fun Try.prog 105 [.vref (ofL [.vref (ofL [Enc.v (labels1 : (List Int)), Enc.v (drives2 : (List Int))]) 2 0, Enc.v (drives3 : Int), Enc.v (labels4 : (List Int)), Enc.v (l5 : (List Int)), Enc.v (order6 : (List Int))]) 5 0] (· = .tup 2 (ofL [Enc.v r.1, Enc.v r.2])) := by
  refine Fun.of b105 (Nat.le_of_ble_eq_true rfl) (allVal.mem ⟨(by exact (vref_val (l := [.vref (ofL [Enc.v (labels1 : (List Int)), Enc.v (drives2 : (List Int))]) 2 0, Enc.v (drives3 : Int), Enc.v (labels4 : (List Int)), Enc.v (l5 : (List Int)), Enc.v (order6 : (List Int))]) rfl ⟨(vref_val (l := [Enc.v (labels1 : (List Int)), Enc.v (drives2 : (List Int))]) rfl ⟨(v_val _), (v_val _), trivial⟩), (v_val _), (v_val _), (v_val _), (v_val _), trivial⟩)), trivial⟩) ?_
  unfold k105
  have nd : Nd [] := Nd_nil
  unfold X.robot_Robot_empty at hX
  refine TK.seq_k fun K7 hK7 => ?_
  refine TK.reg ?_
  refine TL.p (C := cx) (gc := true) (p_mv rfl) rfl rfl ?_
  refine TL.p (C := cx) (gc := true) (p_mv rfl) rfl rfl ?_
  refine TL.nil ?_
  refine hK7 _ _ ?_
  refine TK.seq_k fun K8 hK8 => ?_
  refine TK.seq_k fun K9 hK9 => ?_
  refine TK.reg ?_
  refine TL.p (C := cx) (gc := true) (p_mv rfl) rfl rfl ?_
  refine TL.p (C := cx) (gc := true) (p_ncV rfl) rfl rfl ?_
  refine TL.p (C := cx) (gc := true) (p_faR fs109_1 (by decide) rfl) rfl rfl ?_
  refine TL.p (C := cx) (gc := true) (p_ldR (v := Enc.v (drives3 : Int)) ty3 rfl rfl rfl rfl rfl rfl) rfl rfl ?_
  refine TL.p (C := cx) (gc := true) (p_mv rfl) rfl rfl ?_
  refine TL.nil ?_
  refine hK9 _ _ ?_
  refine TK.block ?_
  obtain ⟨o10, hO10, hA10⟩ := bind_some hX
  have E10 : ∀ (env : Env) (h : Hp), (∃ _u : Unit, keepE [0] env = [(0, true, .vref (ofL [.vref (ofL [Enc.v (labels1 : (List Int)), Enc.v (drives2 : (List Int))]) 2 0, Enc.v (drives3 : Int), Enc.v (labels4 : (List Int)), Enc.v (l5 : (List Int)), Enc.v (order6 : (List Int))]) 5 0)] ∧ Nd [] ∧ HSub [] h) → X.robot_Robot_empty_e10 = some r → K8 env h := by
    intro  env h hE hX
    obtain ⟨_u, henv, nd, hs⟩ := hE
    unfold X.robot_Robot_empty_e10 at hX
    refine hK8 _ _ (TK.keep [0] ?_)
    rw [henv]
    refine TK.subH hs ?_
    refine TK.seq_k fun K12 hK12 => ?_
    refine TK.reg ?_
    refine TL.p (C := cx) (gc := true) (p_mv rfl) rfl rfl ?_
    refine TL.p (C := cx) (gc := true) (p_mv rfl) rfl rfl ?_
    refine TL.nil ?_
    refine hK12 _ _ ?_
    refine TK.ret ?_
    try dsimp only [thenQ]
    exact retN (vs := [Enc.v ((0 : Int) : Int), Enc.v (false : Bool)]) ⟨rfl, rfl, trivial⟩ (by obtain rfl := some_in hX; rfl) (allVal.mem ⟨v_val _, v_val _, trivial⟩)
  refine TK.iter [0, 8, 9] (fun s env h => match s with | x11 => ∃ _u : Unit, env = [(0, true, .vref (ofL [.vref (ofL [Enc.v (labels1 : (List Int)), Enc.v (drives2 : (List Int))]) 2 0, Enc.v (drives3 : Int), Enc.v (labels4 : (List Int)), Enc.v (l5 : (List Int)), Enc.v (order6 : (List Int))]) 5 0), (8, true, Enc.v (drives3 : Int)), (9, true, Enc.v (x11 : Int))] ∧ Nd [] ∧ HSub [] h) hO10 ⟨(), rfl, Nd_nil, HSub.refl _⟩ ?_
  rintro x11 env h x10x ⟨_u, rfl, nd, hs⟩ hX hR10
  refine TK.subH hs ?_
  unfold X.robot_Robot_empty_s10 at hX
  try dsimp only at hX
  refine TK.seq_k fun K13 hK13 => ?_
  refine TK.reg ?_
  refine TL.p (C := cx) (gc := true) (p_lss rfl rfl) rfl rfl ?_
  refine TL.nil ?_
  refine hK13 _ _ ?_
  refine TK.seq_k fun K14 hK14 => ?_
  refine TK.cond (b := (decide (x11 < drives3))) rfl (fun hc => ?_) (fun hc => ?_)
  · have hX := ite_t hc hX
    refine TK.skip ?_
    refine hK14 _ _ ?_
    refine TK.seq_k fun K15 hK15 => ?_
    refine TK.block ?_
    refine TK.seq_k fun K16 hK16 => ?_
    refine TK.reg ?_
    refine TL.p (C := cx) (gc := true) (p_mv rfl) rfl rfl ?_
    refine TL.p (C := cx) (gc := true) (p_mv rfl) rfl rfl ?_
    refine TL.nil ?_
    refine hK16 _ _ ?_
    refine TK.seq_k fun K17 hK17 => ?_
    refine TK.reg ?_
    refine TL.p (C := cx) (gc := true) (p_mv rfl) rfl rfl ?_
    refine TL.p (C := cx) (gc := true) (p_ncV rfl) rfl rfl ?_
    refine TL.p (C := cx) (gc := true) (p_faR fs109_0 (by decide) rfl) rfl rfl ?_
    refine TL.p (C := cx) (gc := true) (p_ldR (v := .vref (ofL [Enc.v (labels1 : (List Int)), Enc.v (drives2 : (List Int))]) 2 0) ty102 rfl rfl rfl rfl rfl rfl) rfl rfl ?_
    refine TL.p (C := cx) (gc := true) (p_mv rfl) rfl rfl ?_
    obtain ⟨r18, hr18, hX⟩ := bind_some hX
    refine TL.cvX rfl rfl rfl (fun _ => ⟨rfl, ⟨rfl, ⟨rfl, trivial⟩⟩⟩) (fun e => ok_shelf_Shelf_Mounted labels1 drives2 x11 _ hr18) ?_
    refine TL.p (C := cx) (gc := true) (p_eql rfl rfl) rfl rfl ?_
    refine TL.nil ?_
    refine hK17 _ _ ?_
    refine TK.cond (b := (r18 == (0 : Int))) rfl (fun hc => ?_) (fun hc => ?_)
    · have hX := ite_t hc hX
      refine TK.seq_k fun K19 hK19 => ?_
      refine TK.reg ?_
      refine TL.p (C := cx) (gc := true) (p_mv rfl) rfl rfl ?_
      refine TL.p (C := cx) (gc := true) (p_mv rfl) rfl rfl ?_
      refine TL.p (C := cx) (gc := true) (p_mv rfl) rfl rfl ?_
      refine TL.nil ?_
      refine hK19 _ _ ?_
      refine TK.ret ?_
      obtain rfl := hR10 _ (some_in hX).symm
      replace hX := hA10
      try dsimp only [thenQ]
      exact retN (vs := [Enc.v (x11 : Int), Enc.v (true : Bool)]) ⟨rfl, rfl, trivial⟩ (by obtain rfl := some_in hX; rfl) (allVal.mem ⟨v_val _, v_val _, trivial⟩)
    · have hX := ite_f hc hX
      refine TK.skip ?_
      refine hK15 _ _ ?_
      refine TK.reg ?_
      refine TL.p (C := cx) (gc := true) (p_add rfl rfl) rfl rfl ?_
      refine TL.p (C := cx) (gc := true) (p_mv rfl) rfl rfl ?_
      refine TL.nil ?_
      exact ⟨_, (some_in hX).symm, (), rfl, Nd_nil, HSub.refl _⟩
  · have hX := ite_f hc hX
    refine TK.exit ?_
    obtain rfl := hR10 _ (some_in hX).symm
    exact E10 _ _ ⟨(), rfl, Nd_nil, HSub.refl _⟩ hA10

/-- (*cartridge/shelf.Shelf).is -/
theorem ok_shelf_Shelf_is (labels1 : (List Int)) (drives2 : (List Int)) (label3 : Int) (r : Bool) (hX : X.shelf_Shelf_is labels1 drives2 label3 = some r) : Fun Try.prog 112 [.vref (ofL [Enc.v (labels1 : (List Int)), Enc.v (drives2 : (List Int))]) 2 0, Enc.v (label3 : Int)] (· = Enc.v (r : Bool)) := by
  refine Fun.of b112 (Nat.le_of_ble_eq_true rfl) (allVal.mem ⟨(by exact (vref_val (l := [Enc.v (labels1 : (List Int)), Enc.v (drives2 : (List Int))]) rfl ⟨(v_val _), (v_val _), trivial⟩)), (by exact (v_val _)), trivial⟩) ?_
  unfold k112
  have nd : Nd [] := Nd_nil
  unfold X.shelf_Shelf_is at hX
  refine TK.seq_k fun K4 hK4 => ?_
  refine TK.reg ?_
  refine TL.p (C := cx) (gc := true) (p_mv rfl) rfl rfl ?_
  refine TL.nil ?_
  refine hK4 _ _ ?_
  refine TK.seq_k fun K5 hK5 => ?_
  refine TK.reg ?_
  refine TL.p (C := cx) (gc := true) (p_mv rfl) rfl rfl ?_
  refine TL.p (C := cx) (gc := true) (p_neV kd102 rfl rfl) rfl rfl ?_
  refine TL.p (C := cx) (gc := true) (p_mv rfl) rfl rfl ?_
  refine TL.guardT rfl ?_
  refine TL.p (C := cx) (gc := true) (p_mv rfl) rfl rfl ?_
  refine TL.guardT rfl ?_
  refine TL.p (C := cx) (gc := true) (p_ncV rfl) rfl rfl ?_
  refine TL.guardT rfl ?_
  refine TL.p (C := cx) (gc := true) (p_faR fs127_0 (by decide) rfl) rfl rfl ?_
  refine TL.guardT rfl ?_
  refine TL.p (C := cx) (gc := true) (p_ldR (v := Enc.v (labels1 : (List Int))) ty46 rfl rfl rfl rfl rfl rfl) rfl rfl ?_
  refine TL.guardT rfl ?_
  refine TL.p (C := cx) (gc := true) (p_mv rfl) rfl rfl ?_
  obtain ⟨r6, hr6, hX⟩ := bind_some hX
  refine TL.guardT rfl ?_
  refine TL.cvX rfl rfl rfl (fun _ => ⟨rfl, ⟨rfl, ⟨rfl, trivial⟩⟩⟩) (fun e => ok_slices_Contains_Lint_int labels1 label3 _ hr6) ?_
  refine TL.p (C := cx) (gc := true) (p_and rfl rfl (fun e => ⟨rfl, fun h => rfl⟩)) rfl rfl ?_
  refine TL.p (C := cx) (gc := true) (p_mv rfl) rfl rfl ?_
  refine TL.nil ?_
  refine hK5 _ _ ?_
  refine TK.ret ?_
  try dsimp only [thenQ]
  exact ret1 (v := Enc.v (r6 : Bool)) rfl (by obtain rfl := some_in hX; rfl) (v_val _)

/-- (*cartridge/shelf.Shelf).Drive -/
theorem ok_shelf_Shelf_Drive (labels1 : (List Int)) (drives2 : (List Int)) (label3 : Int) (r : Int) (hX : X.shelf_Shelf_Drive labels1 drives2 label3 = some r) : Fun Try.prog 113 [.vref (ofL [Enc.v (labels1 : (List Int)), Enc.v (drives2 : (List Int))]) 2 0, Enc.v (label3 : Int)] (· = Enc.v (r : Int)) := by
  refine Fun.of b113 (Nat.le_of_ble_eq_true rfl) (allVal.mem ⟨(by exact (vref_val (l := [Enc.v (labels1 : (List Int)), Enc.v (drives2 : (List Int))]) rfl ⟨(v_val _), (v_val _), trivial⟩)), (by exact (v_val _)), trivial⟩) ?_
  unfold k113
  have nd : Nd [] := Nd_nil
  unfold X.shelf_Shelf_Drive at hX
  refine TK.seq_k fun K4 hK4 => ?_
  refine TK.reg ?_
  refine TL.p (C := cx) (gc := true) (p_mv rfl) rfl rfl ?_
  refine TL.nil ?_
  refine hK4 _ _ ?_
  refine TK.seq_k fun K5 hK5 => ?_
  refine TK.seq_k fun K6 hK6 => ?_
  refine TK.reg ?_
  refine TL.p (C := cx) (gc := true) (p_mv rfl) rfl rfl ?_
  refine TL.p (C := cx) (gc := true) (p_mv rfl) rfl rfl ?_
  obtain ⟨r7, hr7, hX⟩ := bind_some hX
  refine TL.cvX rfl rfl rfl (fun _ => ⟨rfl, ⟨rfl, ⟨rfl, trivial⟩⟩⟩) (fun e => ok_shelf_Shelf_is labels1 drives2 label3 _ hr7) ?_
  refine TL.p (C := cx) (gc := true) (p_not rfl) rfl rfl ?_
  refine TL.nil ?_
  refine hK6 _ _ ?_
  refine TK.cond (b := (!r7)) rfl (fun hc => ?_) (fun hc => ?_)
  · have hX := ite_t hc hX
    refine TK.seq_k fun K8 hK8 => ?_
    refine TK.reg ?_
    refine TL.p (C := cx) (gc := true) (p_mv rfl) rfl rfl ?_
    refine TL.nil ?_
    refine hK8 _ _ ?_
    refine TK.ret ?_
    try dsimp only [thenQ]
    exact ret1 (v := Enc.v (((-1) : Int) : Int)) rfl (by obtain rfl := some_in hX; rfl) (v_val _)
  · have hX := ite_f hc hX
    refine TK.skip ?_
    refine hK5 _ _ ?_
    refine TK.seq_k fun K9 hK9 => ?_
    refine TK.reg ?_
    refine TL.p (C := cx) (gc := true) (p_mv rfl) rfl rfl ?_
    refine TL.p (C := cx) (gc := true) (p_ncV rfl) rfl rfl ?_
    refine TL.p (C := cx) (gc := true) (p_faR fs127_1 (by decide) rfl) rfl rfl ?_
    refine TL.p (C := cx) (gc := true) (p_ldR (v := Enc.v (drives2 : (List Int))) ty46 rfl rfl rfl rfl rfl rfl) rfl rfl ?_
    refine TL.p (C := cx) (gc := true) (p_mv rfl) rfl rfl ?_
    obtain ⟨r10, hr10, hX⟩ := bind_some hX
    refine TL.cvX rfl rfl rfl (fun _ => ⟨rfl, ⟨rfl, ⟨rfl, trivial⟩⟩⟩) (fun e => ok_slices_Index_Lint_int drives2 label3 _ hr10) ?_
    refine TL.p (C := cx) (gc := true) (p_mv rfl) rfl rfl ?_
    refine TL.nil ?_
    refine hK9 _ _ ?_
    refine TK.ret ?_
    try dsimp only [thenQ]
    exact ret1 (v := Enc.v (r10 : Int)) rfl (by obtain rfl := some_in hX; rfl) (v_val _)

/-- (*cartridge/shelf.Shelf).Move -/
theorem ok_shelf_Shelf_Move (label5 : Int) (drive6 : Int) (labels1 : (List Int)) (drives2 : (List Int)) (b3 : Nat) (b4 : Nat) (nd : Nd [(b3, RV 127 [Enc.v (labels1 : (List Int)), OL (α := Int) b4 drives2]), (b4, RL (α := Int) 3 drives2)]) (r : (Int × ((List Int) × (List Int)))) (hX : X.shelf_Shelf_Move label5 drive6 labels1 drives2 = some r) : TCX Try.prog 106 [.ref b3 0 2, Enc.v (label5 : Int), Enc.v (drive6 : Int)] [(b3, RV 127 [Enc.v (labels1 : (List Int)), OL (α := Int) b4 drives2]), (b4, RL (α := Int) 3 drives2)] (fun rv h' => ∃ b21, rv = Enc.v (r.1 : Int) ∧ h' = [(b3, RV 127 [Enc.v (r.2.1 : (List Int)), OL (α := Int) b21 r.2.2]), (b21, RL (α := Int) 3 r.2.2)]) := by
  refine TCX.of b106 (Nat.le_of_ble_eq_true rfl) ?_
  unfold k106
  unfold X.shelf_Shelf_Move at hX
  refine TK.seq_k fun K7 hK7 => ?_
  refine TK.reg ?_
  refine TL.p (C := cx) (gc := true) (p_mv rfl) rfl rfl ?_
  refine TL.nil ?_
  refine hK7 _ _ ?_
  refine TK.seq_k fun K8 hK8 => ?_
  refine TK.block ?_
  refine TK.seq_k fun K9 hK9 => ?_
  refine TK.reg ?_
  refine TL.p (C := cx) (gc := true) (p_mv rfl) rfl rfl ?_
  refine TL.p (C := cx) (gc := true) (p_mv rfl) rfl rfl ?_
  obtain ⟨r10, hr10, hX⟩ := bind_some hX
  refine TL.lookX [.vref (ofL [Enc.v (labels1 : (List Int)), Enc.v (drives2 : (List Int))]) 2 0, Enc.v (label5 : Int)] rfl rfl rfl (fun _ => ⟨rfl, ⟨rfl, ⟨rfl, trivial⟩⟩⟩) ⟨look_ref (l := [Enc.v (labels1 : (List Int)), OL (α := Int) b4 drives2]) nd (j := 0) rfl ⟨look_v (v := Enc.v (labels1 : (List Int))) (v_val _), look_OL nd (j := 1) rfl, trivial⟩, look_v (v := Enc.v (label5 : Int)) (v_val _), trivial⟩ (fun e => ok_shelf_Shelf_is labels1 drives2 label5 _ hr10) (trivial) ?_
  refine TL.p (C := cx) (gc := true) (p_not rfl) rfl rfl ?_
  refine TL.p (C := cx) (gc := true) (p_mv rfl) rfl rfl ?_
  refine TL.p (C := cx) (gc := (!((!r10)))) (p_mv rfl (hg := fun e => rfl)) (gcF1 rfl) rfl ?_
  refine TL.p (C := cx) (gc := (!((!r10)))) (p_mv rfl (hg := fun e => rfl)) (gcF1 rfl) rfl ?_
  obtain ⟨r11, hr11, hX⟩ := bind_some hX
  refine TL.lookX [.vref (ofL [Enc.v (labels1 : (List Int)), Enc.v (drives2 : (List Int))]) 2 0, Enc.v (drive6 : Int)] (gcF1 rfl) rfl rfl (fun e => ⟨rfl, ⟨e, ⟨e, trivial⟩⟩⟩) ⟨look_ref (l := [Enc.v (labels1 : (List Int)), OL (α := Int) b4 drives2]) nd (j := 0) rfl ⟨look_v (v := Enc.v (labels1 : (List Int))) (v_val _), look_OL nd (j := 1) rfl, trivial⟩, look_v (v := Enc.v (drive6 : Int)) (v_val _), trivial⟩ (fun e => ok_shelf_Shelf_drive labels1 drives2 drive6 _ (optG_t hr11 e)) (trivial) ?_
  refine TL.p (C := cx) (gc := (!((!r10)))) (p_not rfl (hg := fun e => e)) (gcF1 rfl) rfl ?_
  refine TL.p (C := cx) (gc := true) (p_or rfl rfl (fun e => ⟨rfl, fun h => (not_t h)⟩)) rfl rfl ?_
  refine TL.p (C := cx) (gc := true) (p_mv rfl) rfl rfl ?_
  refine TL.nil ?_
  refine hK9 _ _ ?_
  refine TK.cond (b := ((!r10) || (!r11))) rfl (fun hc => ?_) (fun hc => ?_)
  · have hX := ite_t hc hX
    refine TK.seq_k fun K12 hK12 => ?_
    refine TK.reg ?_
    refine TL.p (C := cx) (gc := true) (p_mv rfl) rfl rfl ?_
    refine TL.nil ?_
    refine hK12 _ _ ?_
    refine TK.ret ?_
    try dsimp only [thenQ]
    exact retX (v := Enc.v ((1 : Int) : Int)) (res1 rfl) (by obtain rfl := some_in hX; exact ⟨b4, rfl, rfl⟩) nd (inH_val (v_val _)) ⟨rowIn_RV ⟨inH_val (v_val _), inH_rs nd (j := 1) rfl, trivial⟩, rowIn_RL, trivial⟩
  · have hX := ite_f hc hX
    refine TK.seq_k fun K13 hK13 => ?_
    refine TK.reg ?_
    refine TL.p (C := cx) (gc := true) (p_mv rfl) rfl rfl ?_
    refine TL.p (C := cx) (gc := true) (p_mv rfl) rfl rfl ?_
    obtain ⟨r14, hr14, hX⟩ := bind_some hX
    refine TL.lookX [.vref (ofL [Enc.v (labels1 : (List Int)), Enc.v (drives2 : (List Int))]) 2 0, Enc.v (label5 : Int)] rfl rfl rfl (fun _ => ⟨rfl, ⟨rfl, ⟨rfl, trivial⟩⟩⟩) ⟨look_ref (l := [Enc.v (labels1 : (List Int)), OL (α := Int) b4 drives2]) nd (j := 0) rfl ⟨look_v (v := Enc.v (labels1 : (List Int))) (v_val _), look_OL nd (j := 1) rfl, trivial⟩, look_v (v := Enc.v (label5 : Int)) (v_val _), trivial⟩ (fun e => ok_shelf_Shelf_Drive labels1 drives2 label5 _ hr14) (trivial) ?_
    refine TL.p (C := cx) (gc := true) (p_neq rfl rfl) rfl rfl ?_
    refine TL.p (C := cx) (gc := true) (p_mv rfl) rfl rfl ?_
    refine TL.p (C := cx) (gc := (!((r14 != ((-1) : Int))))) (p_mv rfl (hg := fun e => rfl)) (gcF1 rfl) rfl ?_
    refine TL.p (C := cx) (gc := (!((r14 != ((-1) : Int))))) (p_ncR rfl (fun _ => refOK_of nd (j := 0) rfl rfl) (hg := fun e => e)) (gcF1 rfl) rfl ?_
    refine TL.p (C := cx) (gc := (!((r14 != ((-1) : Int))))) (p_faV fs127_1 (by decide) rfl nd (j := 0) rfl rfl (hg := fun e => e)) (gcF1 rfl) rfl ?_
    refine TL.p (C := cx) (gc := (!((r14 != ((-1) : Int))))) (p_ldV (v := OL (α := Int) b4 drives2) ty46 rfl rfl nd (j := 0) rfl rfl rfl rfl rfl (hg := fun e => e)) (gcF1 rfl) rfl ?_
    refine TL.p (C := cx) (gc := (!((r14 != ((-1) : Int))))) (p_mv rfl (hg := fun e => rfl)) (gcF1 rfl) rfl ?_
    obtain ⟨e15, he15, hX⟩ := bind_some hX
    refine TL.p (C := cx) (gc := (!((r14 != ((-1) : Int))))) (p_iaO (xs := drives2) kd46 ty3 rfl rfl rfl nd (j := 1) rfl (fun e => optG_t he15 e) (hg := fun e => ⟨e, e⟩)) (gcF1 rfl) rfl ?_
    refine TL.p (C := cx) (gc := (!((r14 != ((-1) : Int))))) (p_ldO (xs := drives2) (a := e15) (e15 : Int) ty3 rfl rfl nd (j := 1) rfl (fun e => optG_t he15 e) rfl rfl rfl (hg := fun e => e)) (gcF1 rfl) rfl ?_
    refine TL.p (C := cx) (gc := (!((r14 != ((-1) : Int))))) (p_neq rfl rfl (hg := fun e => ⟨e, rfl⟩)) (gcF1 rfl) rfl ?_
    refine TL.p (C := cx) (gc := true) (p_or rfl rfl (fun e => ⟨rfl, fun h => (not_t h)⟩)) rfl rfl ?_
    refine TL.p (C := cx) (gc := true) (p_mv rfl) rfl rfl ?_
    refine TL.nil ?_
    refine hK13 _ _ ?_
    refine TK.cond (b := ((r14 != ((-1) : Int)) || (e15 != (0 : Int)))) rfl (fun hc => ?_) (fun hc => ?_)
    · have hX := ite_t hc hX
      refine TK.seq_k fun K16 hK16 => ?_
      refine TK.reg ?_
      refine TL.p (C := cx) (gc := true) (p_mv rfl) rfl rfl ?_
      refine TL.nil ?_
      refine hK16 _ _ ?_
      refine TK.ret ?_
      try dsimp only [thenQ]
      exact retX (v := Enc.v ((11 : Int) : Int)) (res1 rfl) (by obtain rfl := some_in hX; exact ⟨b4, rfl, rfl⟩) nd (inH_val (v_val _)) ⟨rowIn_RV ⟨inH_val (v_val _), inH_rs nd (j := 1) rfl, trivial⟩, rowIn_RL, trivial⟩
    · have hX := ite_f hc hX
      refine TK.skip ?_
      refine hK8 _ _ ?_
      refine TK.seq_k fun K17 hK17 => ?_
      refine TK.reg ?_
      refine TL.p (C := cx) (gc := true) (p_mv rfl) rfl rfl ?_
      refine TL.p (C := cx) (gc := true) (p_ncR rfl (fun _ => refOK_of nd (j := 0) rfl rfl)) rfl rfl ?_
      refine TL.p (C := cx) (gc := true) (p_faV fs127_1 (by decide) rfl nd (j := 0) rfl rfl) rfl rfl ?_
      refine TL.p (C := cx) (gc := true) (p_ldV (v := OL (α := Int) b4 drives2) ty46 rfl rfl nd (j := 0) rfl rfl rfl rfl rfl) rfl rfl ?_
      refine TL.p (C := cx) (gc := true) (p_mv rfl) rfl rfl ?_
      refine TL.p (C := cx) (gc := true) (p_mv rfl) rfl rfl ?_
      obtain ⟨e18, he18, hX⟩ := bind_some hX
      refine TL.p (C := cx) (gc := true) (p_iaO (xs := drives2) kd46 ty3 rfl rfl rfl nd (j := 1) rfl (fun _ => he18)) rfl rfl ?_
      refine TL.stW (C := cx) (xs := drives2) (i := drive6) (lu := Enc.cl (label5 : Int)) (a' := label5) nd ty3 rfl (j := 1) rfl (by simp [Enc.sz]) (inb_of he18 (by simp)) rfl (Cells_v (label5 : Int)) rfl (WkL_refl _) fun nd => ?_
      refine TL.cvR nd (j := 0) rfl (l' := [Enc.v (labels1 : (List Int)), OL (α := Int) b4 (drives2.set drive6.toNat label5)]) ⟨Wk.refl _, Wk_eq (OL_len (by simp)), trivial⟩ fun nd => ?_
      refine TL.nil ?_
      refine hK17 _ _ ?_
      refine TK.seq_k fun K19 hK19 => ?_
      refine TK.reg ?_
      refine TL.p (C := cx) (gc := true) (p_mv rfl) rfl rfl ?_
      refine TL.nil ?_
      refine hK19 _ _ ?_
      refine TK.ret ?_
      try dsimp only [thenQ]
      exact retX (v := Enc.v ((0 : Int) : Int)) (res1 rfl) (by obtain rfl := some_in hX; exact ⟨b4, rfl, rfl⟩) nd (inH_val (v_val _)) ⟨rowIn_RV ⟨inH_val (v_val _), inH_rs nd (j := 1) rfl, trivial⟩, rowIn_RL, trivial⟩

/-- (*cartridge/shelf.Shelf).Back -/
theorem ok_shelf_Shelf_Back (drive5 : Int) (labels1 : (List Int)) (drives2 : (List Int)) (b3 : Nat) (b4 : Nat) (nd : Nd [(b3, RV 127 [Enc.v (labels1 : (List Int)), OL (α := Int) b4 drives2]), (b4, RL (α := Int) 3 drives2)]) (r : (Int × ((List Int) × (List Int)))) (hX : X.shelf_Shelf_Back drive5 labels1 drives2 = some r) : TCX Try.prog 107 [.ref b3 0 2, Enc.v (drive5 : Int)] [(b3, RV 127 [Enc.v (labels1 : (List Int)), OL (α := Int) b4 drives2]), (b4, RL (α := Int) 3 drives2)] (fun rv h' => ∃ b18, rv = Enc.v (r.1 : Int) ∧ h' = [(b3, RV 127 [Enc.v (r.2.1 : (List Int)), OL (α := Int) b18 r.2.2]), (b18, RL (α := Int) 3 r.2.2)]) := by
  refine TCX.of b107 (Nat.le_of_ble_eq_true rfl) ?_
  unfold k107
  unfold X.shelf_Shelf_Back at hX
  refine TK.seq_k fun K6 hK6 => ?_
  refine TK.reg ?_
  refine TL.p (C := cx) (gc := true) (p_mv rfl) rfl rfl ?_
  refine TL.nil ?_
  refine hK6 _ _ ?_
  refine TK.seq_k fun K7 hK7 => ?_
  refine TK.block ?_
  refine TK.seq_k fun K8 hK8 => ?_
  refine TK.reg ?_
  refine TL.p (C := cx) (gc := true) (p_mv rfl) rfl rfl ?_
  refine TL.p (C := cx) (gc := true) (p_mv rfl) rfl rfl ?_
  obtain ⟨r9, hr9, hX⟩ := bind_some hX
  refine TL.lookX [.vref (ofL [Enc.v (labels1 : (List Int)), Enc.v (drives2 : (List Int))]) 2 0, Enc.v (drive5 : Int)] rfl rfl rfl (fun _ => ⟨rfl, ⟨rfl, ⟨rfl, trivial⟩⟩⟩) ⟨look_ref (l := [Enc.v (labels1 : (List Int)), OL (α := Int) b4 drives2]) nd (j := 0) rfl ⟨look_v (v := Enc.v (labels1 : (List Int))) (v_val _), look_OL nd (j := 1) rfl, trivial⟩, look_v (v := Enc.v (drive5 : Int)) (v_val _), trivial⟩ (fun e => ok_shelf_Shelf_drive labels1 drives2 drive5 _ hr9) (trivial) ?_
  refine TL.p (C := cx) (gc := true) (p_not rfl) rfl rfl ?_
  refine TL.p (C := cx) (gc := true) (p_mv rfl) rfl rfl ?_
  refine TL.nil ?_
  refine hK8 _ _ ?_
  refine TK.cond (b := (!r9)) rfl (fun hc => ?_) (fun hc => ?_)
  · have hX := ite_t hc hX
    refine TK.seq_k fun K10 hK10 => ?_
    refine TK.reg ?_
    refine TL.p (C := cx) (gc := true) (p_mv rfl) rfl rfl ?_
    refine TL.nil ?_
    refine hK10 _ _ ?_
    refine TK.ret ?_
    try dsimp only [thenQ]
    exact retX (v := Enc.v ((1 : Int) : Int)) (res1 rfl) (by obtain rfl := some_in hX; exact ⟨b4, rfl, rfl⟩) nd (inH_val (v_val _)) ⟨rowIn_RV ⟨inH_val (v_val _), inH_rs nd (j := 1) rfl, trivial⟩, rowIn_RL, trivial⟩
  · have hX := ite_f hc hX
    refine TK.seq_k fun K11 hK11 => ?_
    refine TK.reg ?_
    refine TL.p (C := cx) (gc := true) (p_mv rfl) rfl rfl ?_
    refine TL.p (C := cx) (gc := true) (p_ncR rfl (fun _ => refOK_of nd (j := 0) rfl rfl)) rfl rfl ?_
    refine TL.p (C := cx) (gc := true) (p_faV fs127_1 (by decide) rfl nd (j := 0) rfl rfl) rfl rfl ?_
    refine TL.p (C := cx) (gc := true) (p_ldV (v := OL (α := Int) b4 drives2) ty46 rfl rfl nd (j := 0) rfl rfl rfl rfl rfl) rfl rfl ?_
    refine TL.p (C := cx) (gc := true) (p_mv rfl) rfl rfl ?_
    obtain ⟨e12, he12, hX⟩ := bind_some hX
    refine TL.p (C := cx) (gc := true) (p_iaO (xs := drives2) kd46 ty3 rfl rfl rfl nd (j := 1) rfl (fun _ => he12)) rfl rfl ?_
    refine TL.p (C := cx) (gc := true) (p_ldO (xs := drives2) (a := e12) (e12 : Int) ty3 rfl rfl nd (j := 1) rfl (fun _ => he12) rfl rfl rfl) rfl rfl ?_
    refine TL.p (C := cx) (gc := true) (p_eql rfl rfl) rfl rfl ?_
    refine TL.p (C := cx) (gc := true) (p_mv rfl) rfl rfl ?_
    refine TL.nil ?_
    refine hK11 _ _ ?_
    refine TK.cond (b := (e12 == (0 : Int))) rfl (fun hc => ?_) (fun hc => ?_)
    · have hX := ite_t hc hX
      refine TK.seq_k fun K13 hK13 => ?_
      refine TK.reg ?_
      refine TL.p (C := cx) (gc := true) (p_mv rfl) rfl rfl ?_
      refine TL.nil ?_
      refine hK13 _ _ ?_
      refine TK.ret ?_
      try dsimp only [thenQ]
      exact retX (v := Enc.v ((11 : Int) : Int)) (res1 rfl) (by obtain rfl := some_in hX; exact ⟨b4, rfl, rfl⟩) nd (inH_val (v_val _)) ⟨rowIn_RV ⟨inH_val (v_val _), inH_rs nd (j := 1) rfl, trivial⟩, rowIn_RL, trivial⟩
    · have hX := ite_f hc hX
      refine TK.skip ?_
      refine hK7 _ _ ?_
      refine TK.seq_k fun K14 hK14 => ?_
      refine TK.reg ?_
      refine TL.p (C := cx) (gc := true) (p_mv rfl) rfl rfl ?_
      refine TL.p (C := cx) (gc := true) (p_ncR rfl (fun _ => refOK_of nd (j := 0) rfl rfl)) rfl rfl ?_
      refine TL.p (C := cx) (gc := true) (p_faV fs127_1 (by decide) rfl nd (j := 0) rfl rfl) rfl rfl ?_
      refine TL.p (C := cx) (gc := true) (p_ldV (v := OL (α := Int) b4 drives2) ty46 rfl rfl nd (j := 0) rfl rfl rfl rfl rfl) rfl rfl ?_
      refine TL.p (C := cx) (gc := true) (p_mv rfl) rfl rfl ?_
      obtain ⟨e15, he15, hX⟩ := bind_some hX
      refine TL.p (C := cx) (gc := true) (p_iaO (xs := drives2) kd46 ty3 rfl rfl rfl nd (j := 1) rfl (fun _ => he15)) rfl rfl ?_
      refine TL.stW (C := cx) (xs := drives2) (i := drive5) (lu := Enc.cl ((0 : Int) : Int)) (a' := (0 : Int)) nd ty3 rfl (j := 1) rfl (by simp [Enc.sz]) (inb_of he15 (by simp)) rfl (Cells_v ((0 : Int) : Int)) rfl (WkL_refl _) fun nd => ?_
      refine TL.cvR nd (j := 0) rfl (l' := [Enc.v (labels1 : (List Int)), OL (α := Int) b4 (drives2.set drive5.toNat (0 : Int))]) ⟨Wk.refl _, Wk_eq (OL_len (by simp)), trivial⟩ fun nd => ?_
      refine TL.nil ?_
      refine hK14 _ _ ?_
      refine TK.seq_k fun K16 hK16 => ?_
      refine TK.reg ?_
      refine TL.p (C := cx) (gc := true) (p_mv rfl) rfl rfl ?_
      refine TL.nil ?_
      refine hK16 _ _ ?_
      refine TK.ret ?_
      try dsimp only [thenQ]
      exact retX (v := Enc.v ((0 : Int) : Int)) (res1 rfl) (by obtain rfl := some_in hX; exact ⟨b4, rfl, rfl⟩) nd (inH_val (v_val _)) ⟨rowIn_RV ⟨inH_val (v_val _), inH_rs nd (j := 1) rfl, trivial⟩, rowIn_RL, trivial⟩

/-- (*cartridge/robot.Robot).pick -/
theorem ok_robot_Robot_pick (labels1 : (List Int)) (drives2 : (List Int)) (drives3 : Int) (labels4 : (List Int)) (l5 : (List Int)) (order6 : (List Int)) (b7 : Nat) (b8 : Nat) (b9 : Nat) (b10 : Nat) (b11 : Nat) (pre12 : List Int) (nd : Nd [(b7, RV 109 [.ref b8 0 2, Enc.v (drives3 : Int), Enc.v (labels4 : (List Int)), OL (α := Int) b10 l5, OQ (α := Int) b11 pre12 order6]), (b8, RV 127 [Enc.v (labels1 : (List Int)), OL (α := Int) b9 drives2]), (b9, RL (α := Int) 3 drives2), (b10, RL (α := Int) 3 l5), (b11, RL (α := Int) 3 (pre12 ++ order6))]) (r : ((List Int) × (List Int) × Int × (List Int) × (List Int) × (List Int))) (hX : X.robot_Robot_pick labels1 drives2 drives3 labels4 l5 order6 = some r) : TCX Try.prog 86 [.ref b7 0 5] [(b7, RV 109 [.ref b8 0 2, Enc.v (drives3 : Int), Enc.v (labels4 : (List Int)), OL (α := Int) b10 l5, OQ (α := Int) b11 pre12 order6]), (b8, RV 127 [Enc.v (labels1 : (List Int)), OL (α := Int) b9 drives2]), (b9, RL (α := Int) 3 drives2), (b10, RL (α := Int) 3 l5), (b11, RL (α := Int) 3 (pre12 ++ order6))] (fun rv h' => ∃ b36 b37 b38 b39 pre40, rv = .tup 0 (ofL []) ∧ h' = [(b7, RV 109 [.ref b36 0 2, Enc.v (r.2.2.1 : Int), Enc.v (r.2.2.2.1 : (List Int)), OL (α := Int) b38 r.2.2.2.2.1, OQ (α := Int) b39 pre40 r.2.2.2.2.2]), (b36, RV 127 [Enc.v (r.1 : (List Int)), OL (α := Int) b37 r.2.1]), (b37, RL (α := Int) 3 r.2.1), (b38, RL (α := Int) 3 r.2.2.2.2.1), (b39, RL (α := Int) 3 (pre40 ++ r.2.2.2.2.2))]) := by
  refine TCX.of b86 (Nat.le_of_ble_eq_true rfl) ?_
  unfold k86
  unfold X.robot_Robot_pick at hX
  refine TK.endK fun KE hKE => ?_
  refine TK.seq_k fun K13 hK13 => ?_
  refine TK.reg ?_
  refine TL.p (C := cx) (gc := true) (p_mv rfl) rfl rfl ?_
  refine TL.p (C := cx) (gc := true) (p_ncR rfl (fun _ => refOK_of nd (j := 0) rfl rfl)) rfl rfl ?_
  refine TL.p (C := cx) (gc := true) (p_faV fs109_3 (by decide) rfl nd (j := 0) rfl rfl) rfl rfl ?_
  obtain ⟨r14, hr14, hX⟩ := bind_some hX
  refine TL.lookX [.vref (ofL [.vref (ofL [Enc.v (labels1 : (List Int)), Enc.v (drives2 : (List Int))]) 2 0, Enc.v (drives3 : Int), Enc.v (labels4 : (List Int)), Enc.v (l5 : (List Int)), Enc.v (order6 : (List Int))]) 5 3] rfl rfl rfl (fun _ => ⟨rfl, ⟨rfl, trivial⟩⟩) ⟨look_ref (l := [.ref b8 0 2, Enc.v (drives3 : Int), Enc.v (labels4 : (List Int)), OL (α := Int) b10 l5, OQ (α := Int) b11 pre12 order6]) nd (j := 0) rfl ⟨look_ref (l := [Enc.v (labels1 : (List Int)), OL (α := Int) b9 drives2]) nd (j := 1) rfl ⟨look_v (v := Enc.v (labels1 : (List Int))) (v_val _), look_OL nd (j := 2) rfl, trivial⟩, look_v (v := Enc.v (drives3 : Int)) (v_val _), look_v (v := Enc.v (labels4 : (List Int))) (v_val _), look_OL nd (j := 3) rfl, look_OQ nd (j := 4) rfl, trivial⟩, trivial⟩ (fun e => ok_mount_Line_First_in_Robot_robot labels1 drives2 drives3 labels4 l5 order6 _ hr14) (tup_closed rfl ⟨trivial, trivial, trivial⟩) ?_
  refine TL.p (C := cx) (gc := true) (p_mv rfl) rfl rfl ?_
  refine TL.p (C := cx) (gc := true) (p_ex rfl rfl (by decide)) rfl rfl ?_
  refine TL.p (C := cx) (gc := true) (p_ex rfl rfl (by decide)) rfl rfl ?_
  refine TL.p (C := cx) (gc := true) (p_mv rfl) rfl rfl ?_
  refine TL.p (C := cx) (gc := true) (p_mv rfl) rfl rfl ?_
  refine TL.nil ?_
  refine hK13 _ _ ?_
  refine TK.seq_k fun K15 hK15 => ?_
  refine TK.seq_k fun K16 hK16 => ?_
  refine TK.reg ?_
  refine TL.p (C := cx) (gc := true) (p_mv rfl) rfl rfl ?_
  obtain ⟨r17, hr17, hX⟩ := bind_some hX
  refine TL.lookX [.vref (ofL [.vref (ofL [Enc.v (labels1 : (List Int)), Enc.v (drives2 : (List Int))]) 2 0, Enc.v (drives3 : Int), Enc.v (labels4 : (List Int)), Enc.v (l5 : (List Int)), Enc.v (order6 : (List Int))]) 5 0] rfl rfl rfl (fun _ => ⟨rfl, ⟨rfl, trivial⟩⟩) ⟨look_ref (l := [.ref b8 0 2, Enc.v (drives3 : Int), Enc.v (labels4 : (List Int)), OL (α := Int) b10 l5, OQ (α := Int) b11 pre12 order6]) nd (j := 0) rfl ⟨look_ref (l := [Enc.v (labels1 : (List Int)), OL (α := Int) b9 drives2]) nd (j := 1) rfl ⟨look_v (v := Enc.v (labels1 : (List Int))) (v_val _), look_OL nd (j := 2) rfl, trivial⟩, look_v (v := Enc.v (drives3 : Int)) (v_val _), look_v (v := Enc.v (labels4 : (List Int))) (v_val _), look_OL nd (j := 3) rfl, look_OQ nd (j := 4) rfl, trivial⟩, trivial⟩ (fun e => ok_robot_Robot_empty labels1 drives2 drives3 labels4 l5 order6 _ hr17) (tup_closed rfl ⟨trivial, trivial, trivial⟩) ?_
  refine TL.p (C := cx) (gc := true) (p_mv rfl) rfl rfl ?_
  refine TL.p (C := cx) (gc := true) (p_ex rfl rfl (by decide)) rfl rfl ?_
  refine TL.p (C := cx) (gc := true) (p_ex rfl rfl (by decide)) rfl rfl ?_
  refine TL.p (C := cx) (gc := true) (p_mv rfl) rfl rfl ?_
  refine TL.p (C := cx) (gc := true) (p_mv rfl) rfl rfl ?_
  refine TL.nil ?_
  refine hK16 _ _ ?_
  refine TK.seq_k fun K18 hK18 => ?_
  refine TK.reg ?_
  refine TL.p (C := cx) (gc := true) (p_mv rfl) rfl rfl ?_
  refine TL.nil ?_
  refine hK18 _ _ ?_
  refine TK.cond (b := r17.2) rfl (fun hc => ?_) (fun hc => ?_)
  · have hX := ite_t hc hX
    refine TK.seq_k fun K19 hK19 => ?_
    refine TK.reg ?_
    refine TL.p (C := cx) (gc := true) (p_mv rfl) rfl rfl ?_
    refine TL.p (C := cx) (gc := true) (p_ncR rfl (fun _ => refOK_of nd (j := 0) rfl rfl)) rfl rfl ?_
    refine TL.p (C := cx) (gc := true) (p_faV fs109_0 (by decide) rfl nd (j := 0) rfl rfl) rfl rfl ?_
    refine TL.p (C := cx) (gc := true) (p_ldV (v := .ref b8 0 2) ty102 rfl rfl nd (j := 0) rfl rfl rfl rfl rfl) rfl rfl ?_
    refine TL.p (C := cx) (gc := true) (p_mv rfl) rfl rfl ?_
    refine TL.p (C := cx) (gc := true) (p_mv rfl) rfl rfl ?_
    obtain ⟨r20, hr20, hX⟩ := bind_some hX
    refine TL.pick [1, 2, 0, 3, 4] nd (by decide) fun nd => ?_
    refine TL.tcX [(b8, RV 127 [Enc.v (labels1 : (List Int)), OL (α := Int) b9 drives2]), (b9, RL (α := Int) 3 drives2)] [(b7, RV 109 [.ref b8 0 2, Enc.v (drives3 : Int), Enc.v (labels4 : (List Int)), OL (α := Int) b10 l5, OQ (α := Int) b11 pre12 order6]), (b10, RL (α := Int) 3 l5), (b11, RL (α := Int) 3 (pre12 ++ order6))] rfl nd (dlt rfl) rfl ⟨rfl, ⟨rfl, ⟨rfl, ⟨rfl, trivial⟩⟩⟩⟩ (ok_shelf_Shelf_Move r14.1 r17.1 labels1 drives2 b8 b9 (Nd.take nd 2 rfl) _ hr20) ?_
    rintro _ _ hQ nd
    obtain ⟨b22, rfl, rfl⟩ := hQ
    refine TL.nil ?_
    refine hK19 _ _ ?_
    refine TK.seq_k fun K23 hK23 => ?_
    refine TK.reg ?_
    refine TL.p (C := cx) (gc := true) (p_mv rfl) rfl rfl ?_
    refine TL.p (C := cx) (gc := true) (p_mv rfl) rfl rfl ?_
    refine TL.p (C := cx) (gc := true) (p_ncR rfl (fun _ => refOK_of nd (j := 2) rfl rfl)) rfl rfl ?_
    refine TL.p (C := cx) (gc := true) (p_faV fs109_4 (by decide) rfl nd (j := 2) rfl rfl) rfl rfl ?_
    refine TL.p (C := cx) (gc := true) (p_ldV (v := OQ (α := Int) b11 pre12 order6) ty46 rfl rfl nd (j := 2) rfl rfl rfl rfl rfl) rfl rfl ?_
    refine TL.p (C := cx) (gc := true) (p_mv rfl) rfl rfl ?_
    refine TL.lit (C := cx) ([r17.1] : List Int) kd46 ty3 rfl ⟨⟨rfl, rfl⟩, trivial⟩ rfl rfl rfl ?_
    obtain ⟨u24, hu24, hX⟩ := bind_some hX
    refine TL.appQ (C := cx) (pre := pre12) (xs := order6) nd kd46 bo46 ty3 rfl rfl (j := 4) rfl rfl (Src_L _) (by decide) (need_t hu24) rfl fun b25 pre26 nd => ?_
    refine TL.p (C := cx) (gc := true) (p_ncR rfl (fun _ => refOK_of nd (j := 3) rfl rfl)) rfl rfl ?_
    refine TL.p (C := cx) (gc := true) (p_faV fs109_4 (by decide) rfl nd (j := 3) rfl rfl) rfl rfl ?_
    refine TL.stV (C := cx) (lu := [OQ (α := Int) b25 pre26 (order6 ++ ([r17.1] : List Int))]) nd ty46 rfl (j := 3) rfl rfl rfl (Cells_rs (refOK_of nd (j := 0) rfl rfl)) rfl rfl [.ref b8 0 2, Enc.v (drives3 : Int), Enc.v (labels4 : (List Int)), OL (α := Int) b10 l5, OQ (α := Int) b25 pre26 (order6 ++ ([r17.1] : List Int))] rfl fun nd => ?_
    refine TL.nil ?_
    refine hK23 _ _ ?_
    refine TK.pick [3, 1, 2, 4, 0] nd (by decide) fun nd => ?_
    refine TK.ret ?_
    try dsimp only [thenQ]
    exact retX (v := .tup 0 (ofL [])) res0 (by obtain rfl := some_in hX; exact ⟨b8, b22, b10, b25, pre26, rfl, rfl⟩) nd (inH_tup (l := []) trivial) ⟨rowIn_RV ⟨inH_ref nd (j := 1) rfl, inH_val (v_val _), inH_val (v_val _), inH_rs nd (j := 3) rfl, inH_rs nd (j := 4) rfl, trivial⟩, rowIn_RV ⟨inH_val (v_val _), inH_rs nd (j := 2) rfl, trivial⟩, rowIn_RL, rowIn_RL, rowIn_RL, trivial⟩
  · have hX := ite_f hc hX
    refine TK.skip ?_
    refine hK15 _ _ ?_
    refine TK.seq_k fun K27 hK27 => ?_
    refine TK.pick [1, 2, 0, 3, 4] nd (by decide) fun nd => ?_
    have ndS : Nd [(b7, RV 109 [.ref b8 0 2, Enc.v (drives3 : Int), Enc.v (labels4 : (List Int)), OL (α := Int) b10 l5, OQ (α := Int) b11 pre12 order6]), (b10, RL (α := Int) 3 l5), (b11, RL (α := Int) 3 (pre12 ++ order6))] := Nd.pick nd (is := [2, 3, 4]) (by decide)
    refine TK.drwX (h := [(b8, RV 127 [Enc.v (labels1 : (List Int)), OL (α := Int) b9 drives2]), (b9, RL (α := Int) 3 drives2)]) (hS := [(b7, RV 109 [.ref b8 0 2, Enc.v (drives3 : Int), Enc.v (labels4 : (List Int)), OL (α := Int) b10 l5, OQ (α := Int) b11 pre12 order6]), (b10, RL (α := Int) 3 l5), (b11, RL (α := Int) 3 (pre12 ++ order6))]) [(0, 0), (0, 1), (0, 2), (0, 3), (0, 4), (0, 5), (0, 6), (0, 7), (0, 8), (0, 9), (2, 10)] mixed (by kernel_rfl) (HSub_app nd) ?_
    refine DR0 (gc := true) rfl (vok_p (C := cx) (p_mv rfl)) rfl rfl ?_
    refine DR0 (gc := true) rfl (vok_p (C := cx) (p_ncR rfl (fun _ => refOK_of ndS (j := 0) rfl rfl))) rfl rfl ?_
    refine DR0 (gc := true) rfl (vok_p (C := cx) (p_faV fs109_0 (by decide) rfl ndS (j := 0) rfl rfl)) rfl rfl ?_
    refine DR0 (gc := true) rfl (vok_p (C := cx) (p_ldV (v := .ref b8 0 2) ty102 rfl rfl ndS (j := 0) rfl rfl rfl rfl rfl)) rfl rfl ?_
    refine DR0 (gc := true) rfl (vok_p (C := cx) (p_mv rfl)) rfl rfl ?_
    refine DR0 (gc := true) rfl (vok_p (C := cx) (p_ncR rfl (fun _ => refOK_of ndS (j := 0) rfl rfl))) rfl rfl ?_
    refine DR0 (gc := true) rfl (vok_p (C := cx) (p_faV fs109_4 (by decide) rfl ndS (j := 0) rfl rfl)) rfl rfl ?_
    refine DR0 (gc := true) rfl (vok_p (C := cx) (p_ldV (v := OQ (α := Int) b11 pre12 order6) ty46 rfl rfl ndS (j := 0) rfl rfl rfl rfl rfl)) rfl rfl ?_
    obtain ⟨e28, he28, hX⟩ := bind_some hX
    refine DR0 (gc := true) rfl (vok_p (C := cx) (p_iaOQ (pre := pre12) (xs := order6) kd46 ty3 rfl rfl rfl ndS (j := 2) rfl (fun _ => he28))) rfl rfl ?_
    refine DR0 (gc := true) rfl (vok_p (C := cx) (p_ldOQ (pre := pre12) (xs := order6) (a := e28) (e28 : Int) ty3 rfl rfl ndS (j := 2) rfl (fun _ => he28) rfl rfl rfl)) rfl rfl ?_
    obtain ⟨r29, hr29, hX⟩ := bind_some hX
    refine DR2 rfl rfl ?_
    refine TL.tcX [(b8, RV 127 [Enc.v (labels1 : (List Int)), OL (α := Int) b9 drives2]), (b9, RL (α := Int) 3 drives2)] [(b7, RV 109 [.ref b8 0 2, Enc.v (drives3 : Int), Enc.v (labels4 : (List Int)), OL (α := Int) b10 l5, OQ (α := Int) b11 pre12 order6]), (b10, RL (α := Int) 3 l5), (b11, RL (α := Int) 3 (pre12 ++ order6))] rfl nd (dlt rfl) rfl ⟨rfl, ⟨rfl, ⟨rfl, trivial⟩⟩⟩ (ok_shelf_Shelf_Back e28 labels1 drives2 b8 b9 (Nd.take nd 2 rfl) _ hr29) ?_
    rintro _ _ hQ nd
    obtain ⟨b31, rfl, rfl⟩ := hQ
    refine TL.nil ⟨_, [(b8, RV 127 [Enc.v (r29.2.1 : (List Int)), OL (α := Int) b31 r29.2.2]), (b31, RL (α := Int) 3 r29.2.2)], rfl, rfl, HSub_app nd, ?_⟩
    refine DRend ?_
    refine hK27 _ _ ?_
    refine TK.reg ?_
    refine TL.p (C := cx) (gc := true) (p_mv rfl) rfl rfl ?_
    refine TL.p (C := cx) (gc := true) (p_mv rfl) rfl rfl ?_
    refine TL.p (C := cx) (gc := true) (p_ncR rfl (fun _ => refOK_of nd (j := 2) rfl rfl)) rfl rfl ?_
    refine TL.p (C := cx) (gc := true) (p_faV fs109_4 (by decide) rfl nd (j := 2) rfl rfl) rfl rfl ?_
    refine TL.p (C := cx) (gc := true) (p_ldV (v := OQ (α := Int) b11 pre12 order6) ty46 rfl rfl nd (j := 2) rfl rfl rfl rfl rfl) rfl rfl ?_
    obtain ⟨u32, hu32, hX⟩ := bind_some hX
    refine TL.sliQ (C := cx) (pre := pre12) (xs := order6) (l := (1 : Int)) nd kd46 ty3 rfl rfl (j := 4) rfl rfl (need_t hu32) rfl fun b33 pre34 nd => ?_
    refine TL.p (C := cx) (gc := true) (p_ncR rfl (fun _ => refOK_of nd (j := 3) rfl rfl)) rfl rfl ?_
    refine TL.p (C := cx) (gc := true) (p_faV fs109_4 (by decide) rfl nd (j := 3) rfl rfl) rfl rfl ?_
    refine TL.stV (C := cx) (lu := [OQ (α := Int) b33 pre34 (slc order6 (1 : Int) (order6.length : Int))]) nd ty46 rfl (j := 3) rfl rfl rfl (Cells_rs (refOK_of nd (j := 0) rfl rfl)) rfl rfl [.ref b8 0 2, Enc.v (drives3 : Int), Enc.v (labels4 : (List Int)), OL (α := Int) b10 l5, OQ (α := Int) b33 pre34 (slc order6 (1 : Int) (order6.length : Int))] rfl fun nd => ?_
    refine TL.nil ?_
    refine hKE _ _ ?_
    refine TL.pick [3, 1, 2, 4, 0] nd (by decide) fun nd => ?_
    refine TL.nil ?_
    try dsimp only [thenQ]
    refine RetQ_end ?_
    exact retX (v := .tup 0 (ofL [])) res0 (by obtain rfl := some_in hX; exact ⟨b8, b31, b10, b33, pre34, rfl, rfl⟩) nd (inH_tup (l := []) trivial) ⟨rowIn_RV ⟨inH_ref nd (j := 1) rfl, inH_val (v_val _), inH_val (v_val _), inH_rs nd (j := 3) rfl, inH_rs nd (j := 4) rfl, trivial⟩, rowIn_RV ⟨inH_val (v_val _), inH_rs nd (j := 2) rfl, trivial⟩, rowIn_RL, rowIn_RL, rowIn_RL, trivial⟩

/-- (*cartridge/robot.Robot).Step -/
theorem ok_robot_Robot_Step (fail13 : Bool) (labels1 : (List Int)) (drives2 : (List Int)) (drives3 : Int) (labels4 : (List Int)) (l5 : (List Int)) (order6 : (List Int)) (b7 : Nat) (b8 : Nat) (b9 : Nat) (b10 : Nat) (b11 : Nat) (pre12 : List Int) (nd : Nd [(b7, RV 109 [.ref b8 0 2, Enc.v (drives3 : Int), Enc.v (labels4 : (List Int)), OL (α := Int) b10 l5, OQ (α := Int) b11 pre12 order6]), (b8, RV 127 [Enc.v (labels1 : (List Int)), OL (α := Int) b9 drives2]), (b9, RL (α := Int) 3 drives2), (b10, RL (α := Int) 3 l5), (b11, RL (α := Int) 3 (pre12 ++ order6))]) (r : (Bool × ((List Int) × (List Int) × Int × (List Int) × (List Int) × (List Int)))) (hX : X.robot_Robot_Step fail13 labels1 drives2 drives3 labels4 l5 order6 = some r) : TCX Try.prog 48 [.ref b7 0 5, Enc.v (fail13 : Bool)] [(b7, RV 109 [.ref b8 0 2, Enc.v (drives3 : Int), Enc.v (labels4 : (List Int)), OL (α := Int) b10 l5, OQ (α := Int) b11 pre12 order6]), (b8, RV 127 [Enc.v (labels1 : (List Int)), OL (α := Int) b9 drives2]), (b9, RL (α := Int) 3 drives2), (b10, RL (α := Int) 3 l5), (b11, RL (α := Int) 3 (pre12 ++ order6))] (fun rv h' => ∃ b55 b56 b57 b58 pre59, rv = Enc.v (r.1 : Bool) ∧ h' = [(b7, RV 109 [.ref b55 0 2, Enc.v (r.2.2.2.1 : Int), Enc.v (r.2.2.2.2.1 : (List Int)), OL (α := Int) b57 r.2.2.2.2.2.1, OQ (α := Int) b58 pre59 r.2.2.2.2.2.2]), (b55, RV 127 [Enc.v (r.2.1 : (List Int)), OL (α := Int) b56 r.2.2.1]), (b56, RL (α := Int) 3 r.2.2.1), (b57, RL (α := Int) 3 r.2.2.2.2.2.1), (b58, RL (α := Int) 3 (pre59 ++ r.2.2.2.2.2.2))]) := by
  refine TCX.of b48 (Nat.le_of_ble_eq_true rfl) ?_
  unfold k48
  unfold X.robot_Robot_Step at hX
  refine TK.seq_k fun K14 hK14 => ?_
  refine TK.reg ?_
  refine TL.p (C := cx) (gc := true) (p_mv rfl) rfl rfl ?_
  refine TL.nil ?_
  refine hK14 _ _ ?_
  refine TK.seq_k fun K15 hK15 => ?_
  refine TK.seq_k fun K16 hK16 => ?_
  refine TK.reg ?_
  refine TL.p (C := cx) (gc := true) (p_mv rfl) rfl rfl ?_
  obtain ⟨r17, hr17, hX⟩ := bind_some hX
  refine TL.lookX [.vref (ofL [.vref (ofL [Enc.v (labels1 : (List Int)), Enc.v (drives2 : (List Int))]) 2 0, Enc.v (drives3 : Int), Enc.v (labels4 : (List Int)), Enc.v (l5 : (List Int)), Enc.v (order6 : (List Int))]) 5 0] rfl rfl rfl (fun _ => ⟨rfl, ⟨rfl, trivial⟩⟩) ⟨look_ref (l := [.ref b8 0 2, Enc.v (drives3 : Int), Enc.v (labels4 : (List Int)), OL (α := Int) b10 l5, OQ (α := Int) b11 pre12 order6]) nd (j := 0) rfl ⟨look_ref (l := [Enc.v (labels1 : (List Int)), OL (α := Int) b9 drives2]) nd (j := 1) rfl ⟨look_v (v := Enc.v (labels1 : (List Int))) (v_val _), look_OL nd (j := 2) rfl, trivial⟩, look_v (v := Enc.v (drives3 : Int)) (v_val _), look_v (v := Enc.v (labels4 : (List Int))) (v_val _), look_OL nd (j := 3) rfl, look_OQ nd (j := 4) rfl, trivial⟩, trivial⟩ (fun e => ok_robot_Robot_Waiting labels1 drives2 drives3 labels4 l5 order6 _ hr17) (trivial) ?_
  refine TL.p (C := cx) (gc := true) (p_eql rfl rfl) rfl rfl ?_
  refine TL.nil ?_
  refine hK16 _ _ ?_
  refine TK.cond (b := (r17 == (0 : Int))) rfl (fun hc => ?_) (fun hc => ?_)
  · have hX := ite_t hc hX
    refine TK.seq_k fun K18 hK18 => ?_
    refine TK.reg ?_
    refine TL.p (C := cx) (gc := true) (p_mv rfl) rfl rfl ?_
    refine TL.nil ?_
    refine hK18 _ _ ?_
    refine TK.ret ?_
    try dsimp only [thenQ]
    exact retX (v := Enc.v (false : Bool)) (res1 rfl) (by obtain rfl := some_in hX; exact ⟨b8, b9, b10, b11, pre12, rfl, rfl⟩) nd (inH_val (v_val _)) ⟨rowIn_RV ⟨inH_ref nd (j := 1) rfl, inH_val (v_val _), inH_val (v_val _), inH_rs nd (j := 3) rfl, inH_rs nd (j := 4) rfl, trivial⟩, rowIn_RV ⟨inH_val (v_val _), inH_rs nd (j := 2) rfl, trivial⟩, rowIn_RL, rowIn_RL, rowIn_RL, trivial⟩
  · have hX := ite_f hc hX
    refine TK.skip ?_
    refine hK15 _ _ ?_
    refine TK.seq_k fun K19 hK19 => ?_
    refine TK.seq_k fun K20 hK20 => ?_
    refine TK.reg ?_
    refine TL.p (C := cx) (gc := true) (p_mv rfl) rfl rfl ?_
    obtain ⟨r21, hr21, hX⟩ := bind_some hX
    refine TL.lookX [.vref (ofL [.vref (ofL [Enc.v (labels1 : (List Int)), Enc.v (drives2 : (List Int))]) 2 0, Enc.v (drives3 : Int), Enc.v (labels4 : (List Int)), Enc.v (l5 : (List Int)), Enc.v (order6 : (List Int))]) 5 0] rfl rfl rfl (fun _ => ⟨rfl, ⟨rfl, trivial⟩⟩) ⟨look_ref (l := [.ref b8 0 2, Enc.v (drives3 : Int), Enc.v (labels4 : (List Int)), OL (α := Int) b10 l5, OQ (α := Int) b11 pre12 order6]) nd (j := 0) rfl ⟨look_ref (l := [Enc.v (labels1 : (List Int)), OL (α := Int) b9 drives2]) nd (j := 1) rfl ⟨look_v (v := Enc.v (labels1 : (List Int))) (v_val _), look_OL nd (j := 2) rfl, trivial⟩, look_v (v := Enc.v (drives3 : Int)) (v_val _), look_v (v := Enc.v (labels4 : (List Int))) (v_val _), look_OL nd (j := 3) rfl, look_OQ nd (j := 4) rfl, trivial⟩, trivial⟩ (fun e => ok_robot_Robot_ready labels1 drives2 drives3 labels4 l5 order6 _ hr21) (tup_closed rfl ⟨trivial, trivial, trivial⟩) ?_
    refine TL.p (C := cx) (gc := true) (p_mv rfl) rfl rfl ?_
    refine TL.p (C := cx) (gc := true) (p_ex rfl rfl (by decide)) rfl rfl ?_
    refine TL.p (C := cx) (gc := true) (p_ex rfl rfl (by decide)) rfl rfl ?_
    refine TL.p (C := cx) (gc := true) (p_mv rfl) rfl rfl ?_
    refine TL.p (C := cx) (gc := true) (p_mv rfl) rfl rfl ?_
    refine TL.nil ?_
    refine hK20 _ _ ?_
    refine TK.seq_k fun K22 hK22 => ?_
    refine TK.reg ?_
    refine TL.p (C := cx) (gc := true) (p_mv rfl) rfl rfl ?_
    refine TL.nil ?_
    refine hK22 _ _ ?_
    refine TK.cond (b := r21.2) rfl (fun hc => ?_) (fun hc => ?_)
    · have hX := ite_t hc hX
      refine TK.seq_k fun K23 hK23 => ?_
      refine TK.reg ?_
      refine TL.p (C := cx) (gc := true) (p_mv rfl) rfl rfl ?_
      refine TL.p (C := cx) (gc := true) (p_ncR rfl (fun _ => refOK_of nd (j := 0) rfl rfl)) rfl rfl ?_
      refine TL.p (C := cx) (gc := true) (p_faV fs109_3 (by decide) rfl nd (j := 0) rfl rfl) rfl rfl ?_
      refine TL.p (C := cx) (gc := true) (p_mv rfl) rfl rfl ?_
      obtain ⟨r24, hr24, hX⟩ := bind_some hX
      refine TL.tcX [(b7, RV 109 [.ref b8 0 2, Enc.v (drives3 : Int), Enc.v (labels4 : (List Int)), OL (α := Int) b10 l5, OQ (α := Int) b11 pre12 order6]), (b8, RV 127 [Enc.v (labels1 : (List Int)), OL (α := Int) b9 drives2]), (b9, RL (α := Int) 3 drives2), (b10, RL (α := Int) 3 l5), (b11, RL (α := Int) 3 (pre12 ++ order6))] [] rfl nd (dlt rfl) rfl ⟨rfl, ⟨rfl, ⟨rfl, trivial⟩⟩⟩ (ok_mount_Line_Serve_in_Robot_robot r21.1 labels1 drives2 drives3 labels4 l5 order6 b7 b8 b9 b10 b11 pre12 (Nd.take nd 5 rfl) _ hr24) ?_
      rintro _ _ hQ nd
      obtain ⟨b26, b27, b28, b29, pre30, rfl, rfl⟩ := hQ
      refine TL.nil ?_
      refine hK23 _ _ ?_
      refine TK.seq_k fun K31 hK31 => ?_
      refine TK.reg ?_
      refine TL.p (C := cx) (gc := true) (p_mv rfl) rfl rfl ?_
      refine TL.nil ?_
      refine hK31 _ _ ?_
      refine TK.ret ?_
      try dsimp only [thenQ]
      exact retX (v := Enc.v (true : Bool)) (res1 rfl) (by obtain rfl := some_in hX; exact ⟨b26, b27, b28, b29, pre30, rfl, rfl⟩) nd (inH_val (v_val _)) ⟨rowIn_RV ⟨inH_ref nd (j := 1) rfl, inH_val (v_val _), inH_val (v_val _), inH_rs nd (j := 3) rfl, inH_rs nd (j := 4) rfl, trivial⟩, rowIn_RV ⟨inH_val (v_val _), inH_rs nd (j := 2) rfl, trivial⟩, rowIn_RL, rowIn_RL, rowIn_RL, trivial⟩
    · have hX := ite_f hc hX
      refine TK.skip ?_
      refine hK19 _ _ ?_
      refine TK.seq_k fun K32 hK32 => ?_
      have J32 : ∀ (c35 : (List Int)) (l37 : List Int) (c38 : Int) (c39 : (List Int)) (l41 : List Int) (l44 : List Int) (env : Env) (h : Hp), (∃ b36 b34 b40 b42 pre43, keepE [0] env = [(0, true, .ref b7 0 5)] ∧ Nd [(b36, RL (α := Int) 3 l37), (b34, RV 127 [Enc.v (c35 : (List Int)), OL (α := Int) b36 l37]), (b40, RL (α := Int) 3 l41), (b42, RL (α := Int) 3 (pre43 ++ l44)), (b7, RV 109 [.ref b34 0 2, Enc.v (c38 : Int), Enc.v (c39 : (List Int)), OL (α := Int) b40 l41, OQ (α := Int) b42 pre43 l44])] ∧ HSub [(b36, RL (α := Int) 3 l37), (b34, RV 127 [Enc.v (c35 : (List Int)), OL (α := Int) b36 l37]), (b40, RL (α := Int) 3 l41), (b42, RL (α := Int) 3 (pre43 ++ l44)), (b7, RV 109 [.ref b34 0 2, Enc.v (c38 : Int), Enc.v (c39 : (List Int)), OL (α := Int) b40 l41, OQ (α := Int) b42 pre43 l44])] h) → X.robot_Robot_Step_j32 c35 l37 c38 c39 l41 l44 = some r → K32 env h := by
        intro c35 l37 c38 c39 l41 l44 env h hE hX
        obtain ⟨b36, b34, b40, b42, pre43, henv, nd, hs⟩ := hE
        unfold X.robot_Robot_Step_j32 at hX
        refine hK32 _ _ (TK.keep [0] ?_)
        rw [henv]
        refine TK.subH hs ?_
        refine TK.seq_k fun K45 hK45 => ?_
        refine TK.reg ?_
        refine TL.p (C := cx) (gc := true) (p_mv rfl) rfl rfl ?_
        refine TL.nil ?_
        refine hK45 _ _ ?_
        refine TK.pick [4, 1, 0, 2, 3] nd (by decide) fun nd => ?_
        refine TK.ret ?_
        try dsimp only [thenQ]
        exact retX (v := Enc.v (true : Bool)) (res1 rfl) (by obtain rfl := some_in hX; exact ⟨b34, b36, b40, b42, pre43, rfl, rfl⟩) nd (inH_val (v_val _)) ⟨rowIn_RV ⟨inH_ref nd (j := 1) rfl, inH_val (v_val _), inH_val (v_val _), inH_rs nd (j := 3) rfl, inH_rs nd (j := 4) rfl, trivial⟩, rowIn_RV ⟨inH_val (v_val _), inH_rs nd (j := 2) rfl, trivial⟩, rowIn_RL, rowIn_RL, rowIn_RL, trivial⟩
      refine TK.seq_k fun K46 hK46 => ?_
      refine TK.reg ?_
      refine TL.p (C := cx) (gc := true) (p_mv rfl) rfl rfl ?_
      refine TL.p (C := cx) (gc := true) (p_not rfl) rfl rfl ?_
      refine TL.nil ?_
      refine hK46 _ _ ?_
      refine TK.cond (b := (!fail13)) rfl (fun hc => ?_) (fun hc => ?_)
      · have hX := ite_t hc hX
        refine TK.reg ?_
        refine TL.p (C := cx) (gc := true) (p_mv rfl) rfl rfl ?_
        obtain ⟨r47, hr47, hX⟩ := bind_some hX
        refine TL.tcX [(b7, RV 109 [.ref b8 0 2, Enc.v (drives3 : Int), Enc.v (labels4 : (List Int)), OL (α := Int) b10 l5, OQ (α := Int) b11 pre12 order6]), (b8, RV 127 [Enc.v (labels1 : (List Int)), OL (α := Int) b9 drives2]), (b9, RL (α := Int) 3 drives2), (b10, RL (α := Int) 3 l5), (b11, RL (α := Int) 3 (pre12 ++ order6))] [] rfl nd (dlt rfl) rfl ⟨rfl, ⟨rfl, trivial⟩⟩ (ok_robot_Robot_pick labels1 drives2 drives3 labels4 l5 order6 b7 b8 b9 b10 b11 pre12 (Nd.take nd 5 rfl) _ hr47) ?_
        rintro _ _ hQ nd
        obtain ⟨b49, b50, b51, b52, pre53, rfl, rfl⟩ := hQ
        refine TL.nil ?_
        exact J32 r47.1 r47.2.1 r47.2.2.1 r47.2.2.2.1 r47.2.2.2.2.1 r47.2.2.2.2.2 _ _ ⟨b50, b49, b51, b52, pre53, rfl, (Nd.pick nd (is := [2, 1, 3, 4, 0]) (by decide)), (HSub.pick nd (is := [2, 1, 3, 4, 0]) (by decide))⟩ hX
      · have hX := ite_f hc hX
        refine TK.skip ?_
        exact J32 labels1 drives2 drives3 labels4 l5 order6 _ _ ⟨b9, b8, b10, b11, pre12, rfl, (Nd.pick nd (is := [2, 1, 3, 4, 0]) (by decide)), (HSub.pick nd (is := [2, 1, 3, 4, 0]) (by decide))⟩ hX

/-- (*cartridge/robot.Robot).Serve -/
theorem ok_robot_Robot_Serve (labels13 : (List Int)) (fails14 : Int) (labels1 : (List Int)) (drives2 : (List Int)) (drives3 : Int) (labels4 : (List Int)) (l5 : (List Int)) (order6 : (List Int)) (b7 : Nat) (b8 : Nat) (b9 : Nat) (b10 : Nat) (b11 : Nat) (pre12 : List Int) (nd : Nd [(b7, RV 109 [.ref b8 0 2, Enc.v (drives3 : Int), Enc.v (labels4 : (List Int)), OL (α := Int) b10 l5, OQ (α := Int) b11 pre12 order6]), (b8, RV 127 [Enc.v (labels1 : (List Int)), OL (α := Int) b9 drives2]), (b9, RL (α := Int) 3 drives2), (b10, RL (α := Int) 3 l5), (b11, RL (α := Int) 3 (pre12 ++ order6))]) (r : (Int × Int × ((List Int) × (List Int) × Int × (List Int) × (List Int) × (List Int)))) (hX : X.robot_Robot_Serve labels13 fails14 labels1 drives2 drives3 labels4 l5 order6 = some r) : TCX Try.prog 43 [.ref b7 0 5, Enc.v (labels13 : (List Int)), Enc.v (fails14 : Int)] [(b7, RV 109 [.ref b8 0 2, Enc.v (drives3 : Int), Enc.v (labels4 : (List Int)), OL (α := Int) b10 l5, OQ (α := Int) b11 pre12 order6]), (b8, RV 127 [Enc.v (labels1 : (List Int)), OL (α := Int) b9 drives2]), (b9, RL (α := Int) 3 drives2), (b10, RL (α := Int) 3 l5), (b11, RL (α := Int) 3 (pre12 ++ order6))] (fun rv h' => ∃ b122 b123 b124 b125 pre126, rv = .tup 2 (ofL [Enc.v (r.1 : Int), Enc.v (r.2.1 : Int)]) ∧ h' = [(b7, RV 109 [.ref b122 0 2, Enc.v (r.2.2.2.2.1 : Int), Enc.v (r.2.2.2.2.2.1 : (List Int)), OL (α := Int) b124 r.2.2.2.2.2.2.1, OQ (α := Int) b125 pre126 r.2.2.2.2.2.2.2]), (b122, RV 127 [Enc.v (r.2.2.1 : (List Int)), OL (α := Int) b123 r.2.2.2.1]), (b123, RL (α := Int) 3 r.2.2.2.1), (b124, RL (α := Int) 3 r.2.2.2.2.2.2.1), (b125, RL (α := Int) 3 (pre126 ++ r.2.2.2.2.2.2.2))]) := by
  refine TCX.of b43 (Nat.le_of_ble_eq_true rfl) ?_
  unfold k43
  unfold X.robot_Robot_Serve at hX
  refine TK.seq_k fun K15 hK15 => ?_
  refine TK.reg ?_
  refine TL.boxO (C := cx) (lu := [.ref b7 0 5]) nd rfl (Cells_ref (refOK_of nd (j := 0) rfl rfl)) rfl fun b16 nd => ?_
  refine TL.p (C := cx) (gc := true) (p_mv rfl) rfl rfl ?_
  refine TL.p (C := cx) (gc := true) (p_mv rfl) rfl rfl ?_
  refine TL.nil ?_
  refine hK15 _ _ ?_
  refine TK.seq_k fun K17 hK17 => ?_
  refine TK.seq_k fun K18 hK18 => ?_
  refine TK.reg ?_
  refine TL.p (C := cx) (gc := true) (p_ldV (v := .ref b7 0 5) ty64 rfl rfl nd (j := 0) rfl rfl rfl rfl rfl) rfl rfl ?_
  refine TL.p (C := cx) (gc := true) (p_eqP kd64 rfl rfl (fun _ => refOK_of nd (j := 1) rfl rfl)) rfl rfl ?_
  refine TL.p (C := cx) (gc := true) (p_mv rfl) rfl rfl ?_
  refine TL.guardT rfl ?_
  refine TL.p (C := cx) (gc := true) (p_mv rfl) rfl rfl ?_
  refine TL.guardT rfl ?_
  refine TL.p (C := cx) (gc := true) (p_mf (l := [.ref b16 0 1]) rfl (fun _ => ⟨rfl, trivial⟩)) rfl rfl ?_
  obtain ⟨r19, hr19, hX⟩ := bind_some hX
  refine TL.guardT rfl ?_
  refine TL.lookX [Enc.v (labels13 : (List Int)), .fn 78 1 (ofL [.vref (ofL [.vref (ofL [.vref (ofL [Enc.v (labels1 : (List Int)), Enc.v (drives2 : (List Int))]) 2 0, Enc.v (drives3 : Int), Enc.v (labels4 : (List Int)), Enc.v (l5 : (List Int)), Enc.v (order6 : (List Int))]) 5 0]) 1 0])] rfl rfl rfl (fun _ => ⟨rfl, ⟨rfl, ⟨rfl, trivial⟩⟩⟩) ⟨look_v (v := Enc.v (labels13 : (List Int))) (v_val _), look_fn (l := [.ref b16 0 1]) rfl ⟨look_ref (l := [.ref b7 0 5]) nd (j := 0) rfl ⟨look_ref (l := [.ref b8 0 2, Enc.v (drives3 : Int), Enc.v (labels4 : (List Int)), OL (α := Int) b10 l5, OQ (α := Int) b11 pre12 order6]) nd (j := 1) rfl ⟨look_ref (l := [Enc.v (labels1 : (List Int)), OL (α := Int) b9 drives2]) nd (j := 2) rfl ⟨look_v (v := Enc.v (labels1 : (List Int))) (v_val _), look_OL nd (j := 3) rfl, trivial⟩, look_v (v := Enc.v (drives3 : Int)) (v_val _), look_v (v := Enc.v (labels4 : (List Int))) (v_val _), look_OL nd (j := 4) rfl, look_OQ nd (j := 5) rfl, trivial⟩, trivial⟩, trivial⟩, trivial⟩ (fun e => ok_slices_ContainsFunc_Lint_int labels13 (fun a1 => X.robot_Robot_Serve_c1 a1 labels1 drives2 drives3 labels4 l5 order6) _ hr19 ⟨78, 1, ofL [.vref (ofL [.vref (ofL [.vref (ofL [Enc.v (labels1 : (List Int)), Enc.v (drives2 : (List Int))]) 2 0, Enc.v (drives3 : Int), Enc.v (labels4 : (List Int)), Enc.v (l5 : (List Int)), Enc.v (order6 : (List Int))]) 5 0]) 1 0], rfl, (caps_val rfl ⟨(vref_val (l := [.vref (ofL [.vref (ofL [Enc.v (labels1 : (List Int)), Enc.v (drives2 : (List Int))]) 2 0, Enc.v (drives3 : Int), Enc.v (labels4 : (List Int)), Enc.v (l5 : (List Int)), Enc.v (order6 : (List Int))]) 5 0]) rfl ⟨(vref_val (l := [.vref (ofL [Enc.v (labels1 : (List Int)), Enc.v (drives2 : (List Int))]) 2 0, Enc.v (drives3 : Int), Enc.v (labels4 : (List Int)), Enc.v (l5 : (List Int)), Enc.v (order6 : (List Int))]) rfl ⟨(vref_val (l := [Enc.v (labels1 : (List Int)), Enc.v (drives2 : (List Int))]) rfl ⟨(v_val _), (v_val _), trivial⟩), (v_val _), (v_val _), (v_val _), (v_val _), trivial⟩), trivial⟩), trivial⟩), fun a1 r hr => ok_robot_Robot_Serve_c1 a1 labels1 drives2 drives3 labels4 l5 order6 r hr⟩) (trivial) ?_
  refine TL.p (C := cx) (gc := true) (p_or rfl rfl (fun e => ⟨rfl, fun h => rfl⟩)) rfl rfl ?_
  refine TL.nil ?_
  refine hK18 _ _ ?_
  refine TK.cond (b := r19) rfl (fun hc => ?_) (fun hc => ?_)
  · have hX := ite_t hc hX
    refine TK.seq_k fun K20 hK20 => ?_
    refine TK.reg ?_
    refine TL.p (C := cx) (gc := true) (p_mv rfl) rfl rfl ?_
    refine TL.p (C := cx) (gc := true) (p_mv rfl) rfl rfl ?_
    refine TL.nil ?_
    refine hK20 _ _ ?_
    refine TK.pick [1, 2, 3, 4, 5] nd (by decide) fun nd => ?_
    refine TK.ret ?_
    try dsimp only [thenQ]
    exact retX (v := .tup 2 (ofL [Enc.v ((0 : Int) : Int), Enc.v ((1 : Int) : Int)])) (resN (vs := [Enc.v ((0 : Int) : Int), Enc.v ((1 : Int) : Int)]) ⟨rfl, rfl, trivial⟩) (by obtain rfl := some_in hX; exact ⟨b8, b9, b10, b11, pre12, rfl, rfl⟩) nd (inH_tup (l := [Enc.v ((0 : Int) : Int), Enc.v ((1 : Int) : Int)]) ⟨inH_val (v_val _), inH_val (v_val _), trivial⟩) ⟨rowIn_RV ⟨inH_ref nd (j := 1) rfl, inH_val (v_val _), inH_val (v_val _), inH_rs nd (j := 3) rfl, inH_rs nd (j := 4) rfl, trivial⟩, rowIn_RV ⟨inH_val (v_val _), inH_rs nd (j := 2) rfl, trivial⟩, rowIn_RL, rowIn_RL, rowIn_RL, trivial⟩
  · have hX := ite_f hc hX
    refine TK.skip ?_
    refine hK17 _ _ ?_
    refine TK.seq_k fun K21 hK21 => ?_
    refine TK.seq_k fun K22 hK22 => ?_
    refine TK.reg ?_
    refine TL.p (C := cx) (gc := true) (p_mv rfl) rfl rfl ?_
    refine TL.p (C := cx) (gc := true) (p_lenL (xs := labels13) kd46 rfl) rfl rfl ?_
    refine TL.p (C := cx) (gc := true) (p_mv rfl) rfl rfl ?_
    refine TL.nil ?_
    refine hK22 _ _ ?_
    refine TK.block ?_
    obtain ⟨o23, hO23, hA23⟩ := bind_some hX
    have E23 : ∀ (c40 : (List Int)) (l42 : List Int) (c43 : Int) (c44 : (List Int)) (l46 : List Int) (l49 : List Int) (env : Env) (h : Hp), (∃ b41 b39 b45 b47 pre48 b50, keepE [0, 2, 3] env = [(0, true, .ref b7 0 5), (2, true, Enc.v (fails14 : Int)), (3, true, .ref b50 0 1)] ∧ Nd [(b41, RL (α := Int) 3 l42), (b39, RV 127 [Enc.v (c40 : (List Int)), OL (α := Int) b41 l42]), (b45, RL (α := Int) 3 l46), (b47, RL (α := Int) 3 (pre48 ++ l49)), (b7, RV 109 [.ref b39 0 2, Enc.v (c43 : Int), Enc.v (c44 : (List Int)), OL (α := Int) b45 l46, OQ (α := Int) b47 pre48 l49]), (b50, RV 64 [.ref b7 0 5])] ∧ HSub [(b41, RL (α := Int) 3 l42), (b39, RV 127 [Enc.v (c40 : (List Int)), OL (α := Int) b41 l42]), (b45, RL (α := Int) 3 l46), (b47, RL (α := Int) 3 (pre48 ++ l49)), (b7, RV 109 [.ref b39 0 2, Enc.v (c43 : Int), Enc.v (c44 : (List Int)), OL (α := Int) b45 l46, OQ (α := Int) b47 pre48 l49]), (b50, RV 64 [.ref b7 0 5])] h) → X.robot_Robot_Serve_e23 fails14 c40 l42 c43 c44 l46 l49 = some r → K21 env h := by
      intro c40 l42 c43 c44 l46 l49 env h hE hX
      obtain ⟨b41, b39, b45, b47, pre48, b50, henv, nd, hs⟩ := hE
      unfold X.robot_Robot_Serve_e23 at hX
      refine hK21 _ _ (TK.keep [0, 2, 3] ?_)
      rw [henv]
      refine TK.subH hs ?_
      refine TK.seq_k fun K51 hK51 => ?_
      refine TK.reg ?_
      refine TL.p (C := cx) (gc := true) (p_mv rfl) rfl rfl ?_
      refine TL.nil ?_
      refine hK51 _ _ ?_
      refine TK.seq_k fun K52 hK52 => ?_
      refine TK.reg ?_
      refine TL.p (C := cx) (gc := true) (p_mv rfl) rfl rfl ?_
      refine TL.p (C := cx) (gc := true) (p_min rfl rfl) rfl rfl ?_
      refine TL.p (C := cx) (gc := true) (p_max rfl rfl) rfl rfl ?_
      refine TL.p (C := cx) (gc := true) (p_mv rfl) rfl rfl ?_
      refine TL.nil ?_
      refine hK52 _ _ ?_
      refine TK.seq_k fun K53 hK53 => ?_
      refine TK.block ?_
      obtain ⟨o54, hO54, hA54⟩ := bind_some hX
      have E54 : ∀ (c72 : (List Int)) (l74 : List Int) (c75 : Int) (c76 : (List Int)) (l78 : List Int) (l81 : List Int) (steps82 : Int) (env : Env) (h : Hp), (∃ b73 b71 b77 b79 pre80, keepE [0, 10] env = [(0, true, .ref b7 0 5), (10, true, Enc.v (steps82 : Int))] ∧ Nd [(b73, RL (α := Int) 3 l74), (b71, RV 127 [Enc.v (c72 : (List Int)), OL (α := Int) b73 l74]), (b77, RL (α := Int) 3 l78), (b79, RL (α := Int) 3 (pre80 ++ l81)), (b7, RV 109 [.ref b71 0 2, Enc.v (c75 : Int), Enc.v (c76 : (List Int)), OL (α := Int) b77 l78, OQ (α := Int) b79 pre80 l81])] ∧ HSub [(b73, RL (α := Int) 3 l74), (b71, RV 127 [Enc.v (c72 : (List Int)), OL (α := Int) b73 l74]), (b77, RL (α := Int) 3 l78), (b79, RL (α := Int) 3 (pre80 ++ l81)), (b7, RV 109 [.ref b71 0 2, Enc.v (c75 : Int), Enc.v (c76 : (List Int)), OL (α := Int) b77 l78, OQ (α := Int) b79 pre80 l81])] h) → X.robot_Robot_Serve_e54 c72 l74 c75 c76 l78 l81 steps82 = some r → K53 env h := by
        intro c72 l74 c75 c76 l78 l81 steps82 env h hE hX
        obtain ⟨b73, b71, b77, b79, pre80, henv, nd, hs⟩ := hE
        unfold X.robot_Robot_Serve_e54 at hX
        refine hK53 _ _ (TK.keep [0, 10] ?_)
        rw [henv]
        refine TK.subH hs ?_
        refine TK.seq_k fun K83 hK83 => ?_
        refine TK.reg ?_
        refine TL.p (C := cx) (gc := true) (p_mv rfl) rfl rfl ?_
        refine TL.p (C := cx) (gc := true) (p_mv rfl) rfl rfl ?_
        refine TL.p (C := cx) (gc := true) (p_mv rfl) rfl rfl ?_
        refine TL.nil ?_
        refine hK83 _ _ ?_
        refine TK.pick [4, 1, 0, 2, 3] nd (by decide) fun nd => ?_
        refine TK.ret ?_
        try dsimp only [thenQ]
        exact retX (v := .tup 2 (ofL [Enc.v (steps82 : Int), Enc.v ((0 : Int) : Int)])) (resN (vs := [Enc.v (steps82 : Int), Enc.v ((0 : Int) : Int)]) ⟨rfl, rfl, trivial⟩) (by obtain rfl := some_in hX; exact ⟨b71, b73, b77, b79, pre80, rfl, rfl⟩) nd (inH_tup (l := [Enc.v (steps82 : Int), Enc.v ((0 : Int) : Int)]) ⟨inH_val (v_val _), inH_val (v_val _), trivial⟩) ⟨rowIn_RV ⟨inH_ref nd (j := 1) rfl, inH_val (v_val _), inH_val (v_val _), inH_rs nd (j := 3) rfl, inH_rs nd (j := 4) rfl, trivial⟩, rowIn_RV ⟨inH_val (v_val _), inH_rs nd (j := 2) rfl, trivial⟩, rowIn_RL, rowIn_RL, rowIn_RL, trivial⟩
      refine TK.iter [0, 2, 3, 10] (fun s env h => match s with | (c57, l59, c60, c61, l63, l66, fails67, steps69) => ∃ b58 b56 b62 b64 pre65 b68, env = [(0, true, .ref b7 0 5), (2, true, Enc.v (fails67 : Int)), (3, true, .ref b68 0 1), (10, true, Enc.v (steps69 : Int))] ∧ Nd [(b58, RL (α := Int) 3 l59), (b56, RV 127 [Enc.v (c57 : (List Int)), OL (α := Int) b58 l59]), (b62, RL (α := Int) 3 l63), (b64, RL (α := Int) 3 (pre65 ++ l66)), (b7, RV 109 [.ref b56 0 2, Enc.v (c60 : Int), Enc.v (c61 : (List Int)), OL (α := Int) b62 l63, OQ (α := Int) b64 pre65 l66]), (b68, RV 64 [.ref b7 0 5])] ∧ HSub [(b58, RL (α := Int) 3 l59), (b56, RV 127 [Enc.v (c57 : (List Int)), OL (α := Int) b58 l59]), (b62, RL (α := Int) 3 l63), (b64, RL (α := Int) 3 (pre65 ++ l66)), (b7, RV 109 [.ref b56 0 2, Enc.v (c60 : Int), Enc.v (c61 : (List Int)), OL (α := Int) b62 l63, OQ (α := Int) b64 pre65 l66]), (b68, RV 64 [.ref b7 0 5])] h) hO54 ⟨b41, b39, b45, b47, pre48, b50, rfl, (Nd.pick nd (is := [0, 1, 2, 3, 4, 5]) (by decide)), (HSub.pick nd (is := [0, 1, 2, 3, 4, 5]) (by decide))⟩ ?_
      rintro ⟨c57, l59, c60, c61, l63, l66, fails67, steps69⟩ env h x54x ⟨b58, b56, b62, b64, pre65, b68, rfl, nd, hs⟩ hX hR54
      refine TK.subH hs ?_
      unfold X.robot_Robot_Serve_s54 at hX
      try dsimp only at hX
      refine TK.seq_k fun K84 hK84 => ?_
      refine TK.seq_k fun K85 hK85 => ?_
      refine TK.reg ?_
      refine TL.p (C := cx) (gc := true) (p_ldV (v := .ref b7 0 5) ty64 rfl rfl nd (j := 5) rfl rfl rfl rfl rfl) rfl rfl ?_
      obtain ⟨r86, hr86, hX⟩ := bind_some hX
      refine TL.lookX [.vref (ofL [.vref (ofL [Enc.v (c57 : (List Int)), Enc.v (l59 : (List Int))]) 2 0, Enc.v (c60 : Int), Enc.v (c61 : (List Int)), Enc.v (l63 : (List Int)), Enc.v (l66 : (List Int))]) 5 0] rfl rfl rfl (fun _ => ⟨rfl, ⟨rfl, trivial⟩⟩) ⟨look_ref (l := [.ref b56 0 2, Enc.v (c60 : Int), Enc.v (c61 : (List Int)), OL (α := Int) b62 l63, OQ (α := Int) b64 pre65 l66]) nd (j := 4) rfl ⟨look_ref (l := [Enc.v (c57 : (List Int)), OL (α := Int) b58 l59]) nd (j := 1) rfl ⟨look_v (v := Enc.v (c57 : (List Int))) (v_val _), look_OL nd (j := 0) rfl, trivial⟩, look_v (v := Enc.v (c60 : Int)) (v_val _), look_v (v := Enc.v (c61 : (List Int))) (v_val _), look_OL nd (j := 2) rfl, look_OQ nd (j := 3) rfl, trivial⟩, trivial⟩ (fun e => ok_robot_Robot_Waiting c57 l59 c60 c61 l63 l66 _ hr86) (trivial) ?_
      refine TL.p (C := cx) (gc := true) (p_gtr rfl rfl) rfl rfl ?_
      refine TL.nil ?_
      refine hK85 _ _ ?_
      refine TK.cond (b := (decide (r86 > (0 : Int)))) rfl (fun hc => ?_) (fun hc => ?_)
      · have hX := ite_t hc hX
        refine TK.skip ?_
        refine hK84 _ _ ?_
        refine TK.block ?_
        refine TK.seq_k fun K87 hK87 => ?_
        have J87 : ∀ (fails94 : Int) (steps96 : Int) (env : Env) (h : Hp), (∃ b90 b89 b91 b92 pre93 b95, keepE [0, 2, 3, 10] env = [(0, true, .ref b7 0 5), (2, true, Enc.v (fails94 : Int)), (3, true, .ref b95 0 1), (10, true, Enc.v (steps96 : Int))] ∧ Nd [(b90, RL (α := Int) 3 l59), (b89, RV 127 [Enc.v (c57 : (List Int)), OL (α := Int) b90 l59]), (b91, RL (α := Int) 3 l63), (b92, RL (α := Int) 3 (pre93 ++ l66)), (b7, RV 109 [.ref b89 0 2, Enc.v (c60 : Int), Enc.v (c61 : (List Int)), OL (α := Int) b91 l63, OQ (α := Int) b92 pre93 l66]), (b95, RV 64 [.ref b7 0 5])] ∧ HSub [(b90, RL (α := Int) 3 l59), (b89, RV 127 [Enc.v (c57 : (List Int)), OL (α := Int) b90 l59]), (b91, RL (α := Int) 3 l63), (b92, RL (α := Int) 3 (pre93 ++ l66)), (b7, RV 109 [.ref b89 0 2, Enc.v (c60 : Int), Enc.v (c61 : (List Int)), OL (α := Int) b91 l63, OQ (α := Int) b92 pre93 l66]), (b95, RV 64 [.ref b7 0 5])] h) → X.robot_Robot_Serve_j87 c57 l59 c60 c61 l63 l66 fails94 steps96 = some x54x → K87 env h := by
          intro fails94 steps96 env h hE hX
          obtain ⟨b90, b89, b91, b92, pre93, b95, henv, nd, hs⟩ := hE
          unfold X.robot_Robot_Serve_j87 at hX
          refine hK87 _ _ (TK.keep [0, 2, 3, 10] ?_)
          rw [henv]
          refine TK.subH hs ?_
          refine TK.seq_k fun K97 hK97 => ?_
          refine TK.reg ?_
          refine TL.p (C := cx) (gc := true) (p_ldV (v := .ref b7 0 5) ty64 rfl rfl nd (j := 5) rfl rfl rfl rfl rfl) rfl rfl ?_
          obtain ⟨r98, hr98, hX⟩ := bind_some hX
          refine TL.pick [4, 1, 0, 2, 3, 5] nd (by decide) fun nd => ?_
          refine TL.tcX [(b7, RV 109 [.ref b89 0 2, Enc.v (c60 : Int), Enc.v (c61 : (List Int)), OL (α := Int) b91 l63, OQ (α := Int) b92 pre93 l66]), (b89, RV 127 [Enc.v (c57 : (List Int)), OL (α := Int) b90 l59]), (b90, RL (α := Int) 3 l59), (b91, RL (α := Int) 3 l63), (b92, RL (α := Int) 3 (pre93 ++ l66))] [(b95, RV 64 [.ref b7 0 5])] rfl nd (dlt rfl) rfl ⟨rfl, ⟨rfl, ⟨rfl, trivial⟩⟩⟩ (ok_robot_Robot_Step false c57 l59 c60 c61 l63 l66 b7 b89 b90 b91 b92 pre93 (Nd.take nd 5 rfl) _ hr98) ?_
          rintro _ _ hQ nd
          obtain ⟨b100, b101, b102, b103, pre104, rfl, rfl⟩ := hQ
          refine TL.nil ?_
          refine hK97 _ _ ?_
          refine TK.reg ?_
          refine TL.p (C := cx) (gc := true) (p_mv rfl) rfl rfl ?_
          refine TL.p (C := cx) (gc := true) (p_add rfl rfl) rfl rfl ?_
          refine TL.p (C := cx) (gc := true) (p_mv rfl) rfl rfl ?_
          refine TL.nil ?_
          exact ⟨_, (some_in hX).symm, b101, b100, b102, b103, pre104, b95, rfl, (Nd.pick nd (is := [2, 1, 3, 4, 0, 5]) (by decide)), (HSub.pick nd (is := [2, 1, 3, 4, 0, 5]) (by decide))⟩
        refine TK.seq_k fun K105 hK105 => ?_
        refine TK.reg ?_
        refine TL.p (C := cx) (gc := true) (p_ldV (v := .ref b7 0 5) ty64 rfl rfl nd (j := 5) rfl rfl rfl rfl rfl) rfl rfl ?_
        obtain ⟨r106, hr106, hX⟩ := bind_some hX
        refine TL.lookX [.vref (ofL [.vref (ofL [Enc.v (c57 : (List Int)), Enc.v (l59 : (List Int))]) 2 0, Enc.v (c60 : Int), Enc.v (c61 : (List Int)), Enc.v (l63 : (List Int)), Enc.v (l66 : (List Int))]) 5 0] rfl rfl rfl (fun _ => ⟨rfl, ⟨rfl, trivial⟩⟩) ⟨look_ref (l := [.ref b56 0 2, Enc.v (c60 : Int), Enc.v (c61 : (List Int)), OL (α := Int) b62 l63, OQ (α := Int) b64 pre65 l66]) nd (j := 4) rfl ⟨look_ref (l := [Enc.v (c57 : (List Int)), OL (α := Int) b58 l59]) nd (j := 1) rfl ⟨look_v (v := Enc.v (c57 : (List Int))) (v_val _), look_OL nd (j := 0) rfl, trivial⟩, look_v (v := Enc.v (c60 : Int)) (v_val _), look_v (v := Enc.v (c61 : (List Int))) (v_val _), look_OL nd (j := 2) rfl, look_OQ nd (j := 3) rfl, trivial⟩, trivial⟩ (fun e => ok_robot_Robot_ready c57 l59 c60 c61 l63 l66 _ hr106) (tup_closed rfl ⟨trivial, trivial, trivial⟩) ?_
        refine TL.p (C := cx) (gc := true) (p_mv rfl) rfl rfl ?_
        refine TL.p (C := cx) (gc := true) (p_ex rfl rfl (by decide)) rfl rfl ?_
        refine TL.p (C := cx) (gc := true) (p_ex rfl rfl (by decide)) rfl rfl ?_
        refine TL.p (C := cx) (gc := true) (p_mv rfl) rfl rfl ?_
        refine TL.p (C := cx) (gc := true) (p_mv rfl) rfl rfl ?_
        refine TL.nil ?_
        refine hK105 _ _ ?_
        refine TK.seq_k fun K107 hK107 => ?_
        refine TK.reg ?_
        refine TL.p (C := cx) (gc := true) (p_mv rfl) rfl rfl ?_
        refine TL.p (C := cx) (gc := true) (p_not rfl) rfl rfl ?_
        refine TL.nil ?_
        refine hK107 _ _ ?_
        refine TK.cond (b := (!r106.2)) rfl (fun hc => ?_) (fun hc => ?_)
        · have hX := ite_t hc hX
          refine TK.seq_k fun K108 hK108 => ?_
          refine TK.reg ?_
          refine TL.p (C := cx) (gc := true) (p_mv rfl) rfl rfl ?_
          refine TL.p (C := cx) (gc := true) (p_mv rfl) rfl rfl ?_
          refine TL.p (C := cx) (gc := true) (p_add rfl rfl) rfl rfl ?_
          refine TL.p (C := cx) (gc := true) (p_mv rfl) rfl rfl ?_
          refine TL.nil ?_
          refine hK108 _ _ ?_
          refine TK.reg ?_
          refine TL.p (C := cx) (gc := true) (p_mv rfl) rfl rfl ?_
          refine TL.nil ?_
          exact J87 (0 : Int) (wr (steps69 + fails67)) _ _ ⟨b58, b56, b62, b64, pre65, b68, rfl, (Nd.pick nd (is := [0, 1, 2, 3, 4, 5]) (by decide)), (HSub.pick nd (is := [0, 1, 2, 3, 4, 5]) (by decide))⟩ hX
        · have hX := ite_f hc hX
          refine TK.skip ?_
          exact J87 fails67 steps69 _ _ ⟨b58, b56, b62, b64, pre65, b68, rfl, (Nd.pick nd (is := [0, 1, 2, 3, 4, 5]) (by decide)), (HSub.pick nd (is := [0, 1, 2, 3, 4, 5]) (by decide))⟩ hX
      · have hX := ite_f hc hX
        refine TK.exit ?_
        obtain rfl := hR54 _ (some_in hX).symm
        exact E54 c57 l59 c60 c61 l63 l66 steps69 _ _ ⟨b58, b56, b62, b64, pre65, rfl, (Nd.pick nd (is := [0, 1, 2, 3, 4]) (by decide)), (HSub.pick nd (is := [0, 1, 2, 3, 4]) (by decide))⟩ hA54
    refine TK.iter [0, 2, 3, 20, 21, 22] (fun s env h => match s with | (c26, l28, c29, c30, l32, l35, x37) => ∃ b27 b25 b31 b33 pre34 b36, env = [(0, true, .ref b7 0 5), (2, true, Enc.v (fails14 : Int)), (3, true, .ref b36 0 1), (20, true, Enc.v (labels13 : (List Int))), (21, true, Enc.v ((labels13.length : Int) : Int)), (22, true, Enc.v (x37 : Int))] ∧ Nd [(b27, RL (α := Int) 3 l28), (b25, RV 127 [Enc.v (c26 : (List Int)), OL (α := Int) b27 l28]), (b31, RL (α := Int) 3 l32), (b33, RL (α := Int) 3 (pre34 ++ l35)), (b7, RV 109 [.ref b25 0 2, Enc.v (c29 : Int), Enc.v (c30 : (List Int)), OL (α := Int) b31 l32, OQ (α := Int) b33 pre34 l35]), (b36, RV 64 [.ref b7 0 5])] ∧ HSub [(b27, RL (α := Int) 3 l28), (b25, RV 127 [Enc.v (c26 : (List Int)), OL (α := Int) b27 l28]), (b31, RL (α := Int) 3 l32), (b33, RL (α := Int) 3 (pre34 ++ l35)), (b7, RV 109 [.ref b25 0 2, Enc.v (c29 : Int), Enc.v (c30 : (List Int)), OL (α := Int) b31 l32, OQ (α := Int) b33 pre34 l35]), (b36, RV 64 [.ref b7 0 5])] h) hO23 ⟨b9, b8, b10, b11, pre12, b16, rfl, (Nd.pick nd (is := [3, 2, 4, 5, 1, 0]) (by decide)), (HSub.pick nd (is := [3, 2, 4, 5, 1, 0]) (by decide))⟩ ?_
    rintro ⟨c26, l28, c29, c30, l32, l35, x37⟩ env h x23x ⟨b27, b25, b31, b33, pre34, b36, rfl, nd, hs⟩ hX hR23
    refine TK.subH hs ?_
    unfold X.robot_Robot_Serve_s23 at hX
    try dsimp only at hX
    refine TK.seq_k fun K109 hK109 => ?_
    refine TK.reg ?_
    refine TL.p (C := cx) (gc := true) (p_lss rfl rfl) rfl rfl ?_
    refine TL.nil ?_
    refine hK109 _ _ ?_
    refine TK.seq_k fun K110 hK110 => ?_
    refine TK.cond (b := (decide (x37 < (labels13.length : Int)))) rfl (fun hc => ?_) (fun hc => ?_)
    · have hX := ite_t hc hX
      refine TK.skip ?_
      refine hK110 _ _ ?_
      refine TK.seq_k fun K111 hK111 => ?_
      refine TK.block ?_
      refine TK.seq_k fun K112 hK112 => ?_
      refine TK.reg ?_
      obtain ⟨e113, he113, hX⟩ := bind_some hX
      refine TL.p (C := cx) (gc := true) (p_iaL (xs := labels13) kd46 ty3 rfl rfl rfl (fun _ => he113)) rfl rfl ?_
      refine TL.p (C := cx) (gc := true) (p_ldE (xs := labels13) (a := e113) (e113 : Int) ty3 rfl rfl (fun _ => he113) rfl rfl rfl) rfl rfl ?_
      refine TL.p (C := cx) (gc := true) (p_mv rfl) rfl rfl ?_
      refine TL.nil ?_
      refine hK112 _ _ ?_
      refine TK.reg ?_
      refine TL.p (C := cx) (gc := true) (p_ldV (v := .ref b7 0 5) ty64 rfl rfl nd (j := 5) rfl rfl rfl rfl rfl) rfl rfl ?_
      refine TL.p (C := cx) (gc := true) (p_ncR rfl (fun _ => refOK_of nd (j := 4) rfl rfl)) rfl rfl ?_
      refine TL.p (C := cx) (gc := true) (p_faV fs109_3 (by decide) rfl nd (j := 4) rfl rfl) rfl rfl ?_
      refine TL.p (C := cx) (gc := true) (p_mv rfl) rfl rfl ?_
      obtain ⟨r114, hr114, hX⟩ := bind_some hX
      refine TL.pick [4, 1, 0, 2, 3, 5] nd (by decide) fun nd => ?_
      refine TL.tcX [(b7, RV 109 [.ref b25 0 2, Enc.v (c29 : Int), Enc.v (c30 : (List Int)), OL (α := Int) b31 l32, OQ (α := Int) b33 pre34 l35]), (b25, RV 127 [Enc.v (c26 : (List Int)), OL (α := Int) b27 l28]), (b27, RL (α := Int) 3 l28), (b31, RL (α := Int) 3 l32), (b33, RL (α := Int) 3 (pre34 ++ l35))] [(b36, RV 64 [.ref b7 0 5])] rfl nd (dlt rfl) rfl ⟨rfl, ⟨rfl, ⟨rfl, trivial⟩⟩⟩ (ok_mount_Line_Add_in_Robot_robot e113 c26 l28 c29 c30 l32 l35 b7 b25 b27 b31 b33 pre34 (Nd.take nd 5 rfl) _ hr114) ?_
      rintro _ _ hQ nd
      obtain ⟨b116, b117, b118, b119, pre120, rfl, rfl⟩ := hQ
      refine TL.nil ?_
      refine hK111 _ _ ?_
      refine TK.reg ?_
      refine TL.p (C := cx) (gc := true) (p_add rfl rfl) rfl rfl ?_
      refine TL.p (C := cx) (gc := true) (p_mv rfl) rfl rfl ?_
      refine TL.nil ?_
      exact ⟨_, (some_in hX).symm, b117, b116, b118, b119, pre120, b36, rfl, (Nd.pick nd (is := [2, 1, 3, 4, 0, 5]) (by decide)), (HSub.pick nd (is := [2, 1, 3, 4, 0, 5]) (by decide))⟩
    · have hX := ite_f hc hX
      refine TK.exit ?_
      obtain rfl := hR23 _ (some_in hX).symm
      exact E23 c26 l28 c29 c30 l32 l35 _ _ ⟨b27, b25, b31, b33, pre34, b36, rfl, (Nd.pick nd (is := [0, 1, 2, 3, 4, 5]) (by decide)), (HSub.pick nd (is := [0, 1, 2, 3, 4, 5]) (by decide))⟩ hA23

/-- (*cartridge/robot.Robot).Mounted -/
theorem ok_robot_Robot_Mounted (labels1 : (List Int)) (drives2 : (List Int)) (drives3 : Int) (labels4 : (List Int)) (l5 : (List Int)) (order6 : (List Int)) (drive7 : Int) (r : Int) (hX : X.robot_Robot_Mounted labels1 drives2 drives3 labels4 l5 order6 drive7 = some r) : Fun Try.prog 52 [.vref (ofL [.vref (ofL [Enc.v (labels1 : (List Int)), Enc.v (drives2 : (List Int))]) 2 0, Enc.v (drives3 : Int), Enc.v (labels4 : (List Int)), Enc.v (l5 : (List Int)), Enc.v (order6 : (List Int))]) 5 0, Enc.v (drive7 : Int)] (· = Enc.v (r : Int)) := by
  refine Fun.of b52 (Nat.le_of_ble_eq_true rfl) (allVal.mem ⟨(by exact (vref_val (l := [.vref (ofL [Enc.v (labels1 : (List Int)), Enc.v (drives2 : (List Int))]) 2 0, Enc.v (drives3 : Int), Enc.v (labels4 : (List Int)), Enc.v (l5 : (List Int)), Enc.v (order6 : (List Int))]) rfl ⟨(vref_val (l := [Enc.v (labels1 : (List Int)), Enc.v (drives2 : (List Int))]) rfl ⟨(v_val _), (v_val _), trivial⟩), (v_val _), (v_val _), (v_val _), (v_val _), trivial⟩)), (by exact (v_val _)), trivial⟩) ?_
  unfold k52
  have nd : Nd [] := Nd_nil
  unfold X.robot_Robot_Mounted at hX
  refine TK.seq_k fun K8 hK8 => ?_
  refine TK.reg ?_
  refine TL.p (C := cx) (gc := true) (p_mv rfl) rfl rfl ?_
  refine TL.nil ?_
  refine hK8 _ _ ?_
  refine TK.seq_k fun K9 hK9 => ?_
  refine TK.seq_k fun K10 hK10 => ?_
  refine TK.reg ?_
  refine TL.p (C := cx) (gc := true) (p_mv rfl) rfl rfl ?_
  refine TL.p (C := cx) (gc := true) (p_eqV kd64 rfl rfl) rfl rfl ?_
  refine TL.nil ?_
  refine hK10 _ _ ?_
  refine TK.cond (b := false) rfl (fun hc => by simp at hc) (fun _ => ?_)
  refine TK.skip ?_
  refine hK9 _ _ ?_
  refine TK.seq_k fun K11 hK11 => ?_
  refine TK.reg ?_
  refine TL.p (C := cx) (gc := true) (p_mv rfl) rfl rfl ?_
  refine TL.p (C := cx) (gc := true) (p_ncV rfl) rfl rfl ?_
  refine TL.p (C := cx) (gc := true) (p_faR fs109_0 (by decide) rfl) rfl rfl ?_
  refine TL.p (C := cx) (gc := true) (p_ldR (v := .vref (ofL [Enc.v (labels1 : (List Int)), Enc.v (drives2 : (List Int))]) 2 0) ty102 rfl rfl rfl rfl rfl rfl) rfl rfl ?_
  refine TL.p (C := cx) (gc := true) (p_mv rfl) rfl rfl ?_
  obtain ⟨r12, hr12, hX⟩ := bind_some hX
  refine TL.cvX rfl rfl rfl (fun _ => ⟨rfl, ⟨rfl, ⟨rfl, trivial⟩⟩⟩) (fun e => ok_shelf_Shelf_Mounted labels1 drives2 drive7 _ hr12) ?_
  refine TL.p (C := cx) (gc := true) (p_mv rfl) rfl rfl ?_
  refine TL.nil ?_
  refine hK11 _ _ ?_
  refine TK.ret ?_
  try dsimp only [thenQ]
  exact ret1 (v := Enc.v (r12 : Int)) rfl (by obtain rfl := some_in hX; rfl) (v_val _)

/-- cartridge/cartridgelaw24.alive -/
theorem ok_cartridgelaw24_alive  (r : Bool) (hX : X.cartridgelaw24_alive = some r) : Fun Try.prog 40 [] (· = Enc.v (r : Bool)) := by
  refine Fun.of b40 (Nat.le_of_ble_eq_true rfl) (fun x hx => by cases hx) ?_
  unfold k40
  have nd : Nd [] := Nd_nil
  unfold X.cartridgelaw24_alive at hX
  refine TK.seq_k fun K1 hK1 => ?_
  refine TK.reg ?_
  refine TL.p (C := cx) (gc := true) (p_mv rfl) rfl rfl ?_
  refine TL.nil ?_
  refine hK1 _ _ ?_
  refine TK.seq_k fun K2 hK2 => ?_
  refine TK.reg ?_
  refine TL.lit (C := cx) ([(1 : Int), (2 : Int)] : List Int) kd46 ty3 rfl ⟨⟨rfl, rfl⟩, ⟨rfl, rfl⟩, trivial⟩ rfl rfl rfl ?_
  obtain ⟨r3, hr3, hX⟩ := bind_some hX
  refine TL.tcX [] [] rfl nd (dlt rfl) rfl ⟨rfl, ⟨rfl, ⟨rfl, trivial⟩⟩⟩ (ok_robot_New ([(1 : Int), (2 : Int)] : List Int) (1 : Int) (Nd.take nd 0 rfl) _ hr3) ?_
  rintro _ _ hQ nd
  cases hqr3 : r3.1 with
  | none =>
    simp only [hqr3] at hQ hX
    obtain ⟨rfl, rfl⟩ := hQ
    refine TL.p (C := cx) (gc := true) (p_mv rfl) rfl rfl ?_
    refine TL.p (C := cx) (gc := true) (p_ex rfl rfl (by decide)) rfl rfl ?_
    refine TL.p (C := cx) (gc := true) (p_ex rfl rfl (by decide)) rfl rfl ?_
    refine TL.p (C := cx) (gc := true) (p_mv rfl) rfl rfl ?_
    refine TL.p (C := cx) (gc := true) (p_mv rfl) rfl rfl ?_
    refine TL.nil ?_
    refine hK2 _ _ ?_
    refine TK.seq_k fun K4 hK4 => ?_
    refine TK.seq_k fun K5 hK5 => ?_
    refine TK.reg ?_
    refine TL.p (C := cx) (gc := true) (p_mv rfl) rfl rfl ?_
    obtain ⟨r6, hr6, hX⟩ := bind_some hX
    refine TL.cvX rfl rfl rfl (fun _ => ⟨rfl, ⟨rfl, trivial⟩⟩) (fun e => ok_cartridgelaw24_num r3.2 _ hr6) ?_
    refine TL.p (C := cx) (gc := true) (p_neq rfl rfl) rfl rfl ?_
    refine TL.p (C := cx) (gc := true) (p_mv rfl) rfl rfl ?_
    refine TL.p (C := cx) (gc := (!((r6 != (0 : Int))))) (p_mv rfl (hg := fun e => rfl)) (gcF1 rfl) rfl ?_
    refine TL.p (C := cx) (gc := (!((r6 != (0 : Int))))) (p_eqN kd64 rfl rfl (hg := fun e => ⟨e, rfl⟩)) (gcF1 rfl) rfl ?_
    refine TL.p (C := cx) (gc := true) (p_or rfl rfl (fun e => ⟨rfl, fun h => (not_t h)⟩)) rfl rfl ?_
    refine TL.nil ?_
    refine hK5 _ _ ?_
    refine TK.cond (b := ((r6 != (0 : Int)) || true)) rfl (fun _ => ?_) (fun hc => by simp at hc)
    refine TK.seq_k fun K7 hK7 => ?_
    refine TK.reg ?_
    refine TL.p (C := cx) (gc := true) (p_mv rfl) rfl rfl ?_
    refine TL.nil ?_
    refine hK7 _ _ ?_
    refine TK.ret ?_
    try dsimp only [thenQ]
    exact ret1 (v := Enc.v (false : Bool)) rfl (by obtain rfl := some_in hX; rfl) (v_val _)
  | some o8 =>
    simp only [hqr3] at hQ hX
    obtain ⟨b9, b10, b11, b12, b13, pre14, rfl, rfl⟩ := hQ
    refine TL.p (C := cx) (gc := true) (p_mv rfl) rfl rfl ?_
    refine TL.p (C := cx) (gc := true) (p_ex rfl rfl (by decide)) rfl rfl ?_
    refine TL.p (C := cx) (gc := true) (p_ex rfl rfl (by decide)) rfl rfl ?_
    refine TL.p (C := cx) (gc := true) (p_mv rfl) rfl rfl ?_
    refine TL.p (C := cx) (gc := true) (p_mv rfl) rfl rfl ?_
    refine TL.nil ?_
    refine hK2 _ _ ?_
    refine TK.seq_k fun K15 hK15 => ?_
    refine TK.seq_k fun K16 hK16 => ?_
    refine TK.reg ?_
    refine TL.p (C := cx) (gc := true) (p_mv rfl) rfl rfl ?_
    obtain ⟨r17, hr17, hX⟩ := bind_some hX
    refine TL.cvX rfl rfl rfl (fun _ => ⟨rfl, ⟨rfl, trivial⟩⟩) (fun e => ok_cartridgelaw24_num r3.2 _ hr17) ?_
    refine TL.p (C := cx) (gc := true) (p_neq rfl rfl) rfl rfl ?_
    refine TL.p (C := cx) (gc := true) (p_mv rfl) rfl rfl ?_
    refine TL.p (C := cx) (gc := (!((r17 != (0 : Int))))) (p_mv rfl (hg := fun e => rfl)) (gcF1 rfl) rfl ?_
    refine TL.p (C := cx) (gc := (!((r17 != (0 : Int))))) (p_eqP kd64 rfl rfl (fun _ => refOK_of nd (j := 0) rfl rfl) (hg := fun e => ⟨e, rfl⟩)) (gcF1 rfl) rfl ?_
    refine TL.p (C := cx) (gc := true) (p_or rfl rfl (fun e => ⟨rfl, fun h => (not_t h)⟩)) rfl rfl ?_
    refine TL.nil ?_
    refine hK16 _ _ ?_
    refine TK.cond (b := ((r17 != (0 : Int)) || false)) rfl (fun hc => ?_) (fun hc => ?_)
    · have hX := ite_t hc hX
      refine TK.seq_k fun K18 hK18 => ?_
      refine TK.reg ?_
      refine TL.p (C := cx) (gc := true) (p_mv rfl) rfl rfl ?_
      refine TL.nil ?_
      refine hK18 _ _ ?_
      refine TK.ret ?_
      try dsimp only [thenQ]
      exact ret1 (v := Enc.v (false : Bool)) rfl (by obtain rfl := some_in hX; rfl) (v_val _)
    · have hX := ite_f hc hX
      refine TK.skip ?_
      refine hK15 _ _ ?_
      refine TK.seq_k fun K19 hK19 => ?_
      refine TK.reg ?_
      refine TL.p (C := cx) (gc := true) (p_mv rfl) rfl rfl ?_
      obtain ⟨r20, hr20, hX⟩ := bind_some hX
      refine TL.tcX [(b9, RV 109 [.ref b10 0 2, Enc.v (o8.2.2.1 : Int), Enc.v (o8.2.2.2.1 : (List Int)), OL (α := Int) b12 o8.2.2.2.2.1, OQ (α := Int) b13 pre14 o8.2.2.2.2.2]), (b10, RV 127 [Enc.v (o8.1 : (List Int)), OL (α := Int) b11 o8.2.1]), (b11, RL (α := Int) 3 o8.2.1), (b12, RL (α := Int) 3 o8.2.2.2.2.1), (b13, RL (α := Int) 3 (pre14 ++ o8.2.2.2.2.2))] [] rfl nd (dlt rfl) rfl ⟨rfl, ⟨rfl, ⟨rfl, ⟨rfl, trivial⟩⟩⟩⟩ (TCX.wk (args' := [.ref b9 0 5, L ([] : List Int), Enc.v ((0 : Int) : Int)]) ⟨Wk.refl _, Wk_nil, Wk.refl _, trivial⟩ (ok_robot_Robot_Serve ([] : List Int) (0 : Int) o8.1 o8.2.1 o8.2.2.1 o8.2.2.2.1 o8.2.2.2.2.1 o8.2.2.2.2.2 b9 b10 b11 b12 b13 pre14 (Nd.take nd 5 rfl) _ hr20)) ?_
      rintro _ _ hQ nd
      obtain ⟨b22, b23, b24, b25, pre26, rfl, rfl⟩ := hQ
      refine TL.p (C := cx) (gc := true) (p_mv rfl) rfl rfl ?_
      refine TL.p (C := cx) (gc := true) (p_ex rfl rfl (by decide)) rfl rfl ?_
      refine TL.p (C := cx) (gc := true) (p_ex rfl rfl (by decide)) rfl rfl ?_
      refine TL.p (C := cx) (gc := true) (p_mv rfl) rfl rfl ?_
      refine TL.p (C := cx) (gc := true) (p_mv rfl) rfl rfl ?_
      refine TL.nil ?_
      refine hK19 _ _ ?_
      refine TK.seq_k fun K27 hK27 => ?_
      refine TK.reg ?_
      refine TL.p (C := cx) (gc := true) (p_mv rfl) rfl rfl ?_
      refine TL.lit (C := cx) ([(2 : Int)] : List Int) kd46 ty3 rfl ⟨⟨rfl, rfl⟩, trivial⟩ rfl rfl rfl ?_
      obtain ⟨r28, hr28, hX⟩ := bind_some hX
      refine TL.tcX [(b9, RV 109 [.ref b22 0 2, Enc.v (r20.2.2.2.2.1 : Int), Enc.v (r20.2.2.2.2.2.1 : (List Int)), OL (α := Int) b24 r20.2.2.2.2.2.2.1, OQ (α := Int) b25 pre26 r20.2.2.2.2.2.2.2]), (b22, RV 127 [Enc.v (r20.2.2.1 : (List Int)), OL (α := Int) b23 r20.2.2.2.1]), (b23, RL (α := Int) 3 r20.2.2.2.1), (b24, RL (α := Int) 3 r20.2.2.2.2.2.2.1), (b25, RL (α := Int) 3 (pre26 ++ r20.2.2.2.2.2.2.2))] [] rfl nd (dlt rfl) rfl ⟨rfl, ⟨rfl, ⟨rfl, ⟨rfl, trivial⟩⟩⟩⟩ (ok_robot_Robot_Serve ([(2 : Int)] : List Int) (0 : Int) r20.2.2.1 r20.2.2.2.1 r20.2.2.2.2.1 r20.2.2.2.2.2.1 r20.2.2.2.2.2.2.1 r20.2.2.2.2.2.2.2 b9 b22 b23 b24 b25 pre26 (Nd.take nd 5 rfl) _ hr28) ?_
      rintro _ _ hQ nd
      obtain ⟨b30, b31, b32, b33, pre34, rfl, rfl⟩ := hQ
      refine TL.p (C := cx) (gc := true) (p_mv rfl) rfl rfl ?_
      refine TL.p (C := cx) (gc := true) (p_ex rfl rfl (by decide)) rfl rfl ?_
      refine TL.p (C := cx) (gc := true) (p_ex rfl rfl (by decide)) rfl rfl ?_
      refine TL.p (C := cx) (gc := true) (p_mv rfl) rfl rfl ?_
      refine TL.p (C := cx) (gc := true) (p_mv rfl) rfl rfl ?_
      refine TL.nil ?_
      refine hK27 _ _ ?_
      refine TK.seq_k fun K35 hK35 => ?_
      refine TK.reg ?_
      refine TL.p (C := cx) (gc := true) (p_mv rfl) rfl rfl ?_
      refine TL.p (C := cx) (gc := true) (p_eql rfl rfl) rfl rfl ?_
      refine TL.p (C := cx) (gc := true) (p_mv rfl) rfl rfl ?_
      refine TL.p (C := cx) (gc := ((r20.1 == (0 : Int)))) (p_mv rfl (hg := fun e => rfl)) (gcT1 rfl) rfl ?_
      obtain ⟨r36, hr36, hX⟩ := bind_some hX
      refine TL.cvX (gcT1 rfl) rfl rfl (fun e => ⟨rfl, ⟨e, trivial⟩⟩) (fun e => ok_cartridgelaw24_num r20.2.1 _ (optG_t hr36 e)) ?_
      refine TL.p (C := cx) (gc := ((r20.1 == (0 : Int)))) (p_eql rfl rfl (hg := fun e => ⟨e, rfl⟩)) (gcT1 rfl) rfl ?_
      refine TL.p (C := cx) (gc := true) (p_and rfl rfl (fun e => ⟨rfl, fun h => h⟩)) rfl rfl ?_
      refine TL.p (C := cx) (gc := true) (p_mv rfl) rfl rfl ?_
      refine TL.p (C := cx) (gc := (((r20.1 == (0 : Int)) && (r36 == (0 : Int))))) (p_mv rfl (hg := fun e => rfl)) (gcT1 rfl) rfl ?_
      refine TL.p (C := cx) (gc := (((r20.1 == (0 : Int)) && (r36 == (0 : Int))))) (p_eql rfl rfl (hg := fun e => ⟨e, rfl⟩)) (gcT1 rfl) rfl ?_
      refine TL.p (C := cx) (gc := true) (p_and rfl rfl (fun e => ⟨rfl, fun h => h⟩)) rfl rfl ?_
      refine TL.p (C := cx) (gc := true) (p_mv rfl) rfl rfl ?_
      refine TL.p (C := cx) (gc := ((((r20.1 == (0 : Int)) && (r36 == (0 : Int))) && (r28.1 == (2 : Int))))) (p_mv rfl (hg := fun e => rfl)) (gcT1 rfl) rfl ?_
      obtain ⟨r37, hr37, hX⟩ := bind_some hX
      refine TL.cvX (gcT1 rfl) rfl rfl (fun e => ⟨rfl, ⟨e, trivial⟩⟩) (fun e => ok_cartridgelaw24_num r28.2.1 _ (optG_t hr37 e)) ?_
      refine TL.p (C := cx) (gc := ((((r20.1 == (0 : Int)) && (r36 == (0 : Int))) && (r28.1 == (2 : Int))))) (p_eql rfl rfl (hg := fun e => ⟨e, rfl⟩)) (gcT1 rfl) rfl ?_
      refine TL.p (C := cx) (gc := true) (p_and rfl rfl (fun e => ⟨rfl, fun h => h⟩)) rfl rfl ?_
      refine TL.p (C := cx) (gc := true) (p_mv rfl) rfl rfl ?_
      refine TL.p (C := cx) (gc := (((((r20.1 == (0 : Int)) && (r36 == (0 : Int))) && (r28.1 == (2 : Int))) && (r37 == (0 : Int))))) (p_mv rfl (hg := fun e => rfl)) (gcT1 rfl) rfl ?_
      obtain ⟨r38, hr38, hX⟩ := bind_some hX
      refine TL.lookX [.vref (ofL [.vref (ofL [Enc.v (r28.2.2.1 : (List Int)), Enc.v (r28.2.2.2.1 : (List Int))]) 2 0, Enc.v (r28.2.2.2.2.1 : Int), Enc.v (r28.2.2.2.2.2.1 : (List Int)), Enc.v (r28.2.2.2.2.2.2.1 : (List Int)), Enc.v (r28.2.2.2.2.2.2.2 : (List Int))]) 5 0, Enc.v ((0 : Int) : Int)] (gcT1 rfl) rfl rfl (fun e => ⟨rfl, ⟨e, ⟨rfl, trivial⟩⟩⟩) ⟨look_ref (l := [.ref b30 0 2, Enc.v (r28.2.2.2.2.1 : Int), Enc.v (r28.2.2.2.2.2.1 : (List Int)), OL (α := Int) b32 r28.2.2.2.2.2.2.1, OQ (α := Int) b33 pre34 r28.2.2.2.2.2.2.2]) nd (j := 0) rfl ⟨look_ref (l := [Enc.v (r28.2.2.1 : (List Int)), OL (α := Int) b31 r28.2.2.2.1]) nd (j := 1) rfl ⟨look_v (v := Enc.v (r28.2.2.1 : (List Int))) (v_val _), look_OL nd (j := 2) rfl, trivial⟩, look_v (v := Enc.v (r28.2.2.2.2.1 : Int)) (v_val _), look_v (v := Enc.v (r28.2.2.2.2.2.1 : (List Int))) (v_val _), look_OL nd (j := 3) rfl, look_OQ nd (j := 4) rfl, trivial⟩, look_v (v := Enc.v ((0 : Int) : Int)) (v_val _), trivial⟩ (fun e => ok_robot_Robot_Mounted r28.2.2.1 r28.2.2.2.1 r28.2.2.2.2.1 r28.2.2.2.2.2.1 r28.2.2.2.2.2.2.1 r28.2.2.2.2.2.2.2 (0 : Int) _ (optG_t hr38 e)) (trivial) ?_
      refine TL.p (C := cx) (gc := (((((r20.1 == (0 : Int)) && (r36 == (0 : Int))) && (r28.1 == (2 : Int))) && (r37 == (0 : Int))))) (p_eql rfl rfl (hg := fun e => ⟨e, rfl⟩)) (gcT1 rfl) rfl ?_
      refine TL.p (C := cx) (gc := true) (p_and rfl rfl (fun e => ⟨rfl, fun h => h⟩)) rfl rfl ?_
      refine TL.p (C := cx) (gc := true) (p_mv rfl) rfl rfl ?_
      refine TL.nil ?_
      refine hK35 _ _ ?_
      refine TK.ret ?_
      try dsimp only [thenQ]
      exact ret1 (v := Enc.v ((((((r20.1 == (0 : Int)) && (r36 == (0 : Int))) && (r28.1 == (2 : Int))) && (r37 == (0 : Int))) && (r38 == (2 : Int))) : Bool)) rfl (by obtain rfl := some_in hX; rfl) (v_val _)

/-- (*cartridge/cartridgeref22.Shelf).find -/
theorem ok_cartridgeref22_Shelf_find (labels1 : (List Int)) (in2 : (List Int)) (drives3 : (List Int)) (label4 : Int) (r : Int) (hX : X.cartridgeref22_Shelf_find labels1 in2 drives3 label4 = some r) : Fun Try.prog 84 [.vref (ofL [Enc.v (labels1 : (List Int)), Enc.v (in2 : (List Int)), Enc.v (drives3 : (List Int))]) 3 0, Enc.v (label4 : Int)] (· = Enc.v (r : Int)) := by
  refine Fun.of b84 (Nat.le_of_ble_eq_true rfl) (allVal.mem ⟨(by exact (vref_val (l := [Enc.v (labels1 : (List Int)), Enc.v (in2 : (List Int)), Enc.v (drives3 : (List Int))]) rfl ⟨(v_val _), (v_val _), (v_val _), trivial⟩)), (by exact (v_val _)), trivial⟩) ?_
  unfold k84
  have nd : Nd [] := Nd_nil
  unfold X.cartridgeref22_Shelf_find at hX
  refine TK.seq_k fun K5 hK5 => ?_
  refine TK.reg ?_
  refine TL.p (C := cx) (gc := true) (p_mv rfl) rfl rfl ?_
  refine TL.nil ?_
  refine hK5 _ _ ?_
  refine TK.seq_k fun K6 hK6 => ?_
  refine TK.seq_k fun K7 hK7 => ?_
  refine TK.reg ?_
  refine TL.p (C := cx) (gc := true) (p_mv rfl) rfl rfl ?_
  refine TL.nil ?_
  refine hK7 _ _ ?_
  refine TK.block ?_
  obtain ⟨o8, hO8, hA8⟩ := bind_some hX
  have E8 : ∀ (env : Env) (h : Hp), (∃ _u : Unit, keepE [0] env = [(0, true, .vref (ofL [Enc.v (labels1 : (List Int)), Enc.v (in2 : (List Int)), Enc.v (drives3 : (List Int))]) 3 0)] ∧ Nd [] ∧ HSub [] h) → X.cartridgeref22_Shelf_find_e8 = some r → K6 env h := by
    intro  env h hE hX
    obtain ⟨_u, henv, nd, hs⟩ := hE
    unfold X.cartridgeref22_Shelf_find_e8 at hX
    refine hK6 _ _ (TK.keep [0] ?_)
    rw [henv]
    refine TK.subH hs ?_
    refine TK.seq_k fun K10 hK10 => ?_
    refine TK.reg ?_
    refine TL.p (C := cx) (gc := true) (p_mv rfl) rfl rfl ?_
    refine TL.nil ?_
    refine hK10 _ _ ?_
    refine TK.ret ?_
    try dsimp only [thenQ]
    exact ret1 (v := Enc.v (((-1) : Int) : Int)) rfl (by obtain rfl := some_in hX; rfl) (v_val _)
  refine TK.iter [0, 1, 5] (fun s env h => match s with | i9 => ∃ _u : Unit, env = [(0, true, .vref (ofL [Enc.v (labels1 : (List Int)), Enc.v (in2 : (List Int)), Enc.v (drives3 : (List Int))]) 3 0), (1, true, Enc.v (label4 : Int)), (5, true, Enc.v (i9 : Int))] ∧ Nd [] ∧ HSub [] h) hO8 ⟨(), rfl, Nd_nil, HSub.refl _⟩ ?_
  rintro i9 env h x8x ⟨_u, rfl, nd, hs⟩ hX hR8
  refine TK.subH hs ?_
  unfold X.cartridgeref22_Shelf_find_s8 at hX
  try dsimp only at hX
  refine TK.seq_k fun K11 hK11 => ?_
  refine TK.seq_k fun K12 hK12 => ?_
  refine TK.reg ?_
  refine TL.p (C := cx) (gc := true) (p_mv rfl) rfl rfl ?_
  refine TL.p (C := cx) (gc := true) (p_mv rfl) rfl rfl ?_
  refine TL.p (C := cx) (gc := true) (p_ncV rfl) rfl rfl ?_
  refine TL.p (C := cx) (gc := true) (p_faR fs118_0 (by decide) rfl) rfl rfl ?_
  refine TL.p (C := cx) (gc := true) (p_ldR (v := Enc.v (labels1 : (List Int))) ty46 rfl rfl rfl rfl rfl rfl) rfl rfl ?_
  refine TL.p (C := cx) (gc := true) (p_lenL (xs := labels1) kd46 rfl) rfl rfl ?_
  refine TL.p (C := cx) (gc := true) (p_lss rfl rfl) rfl rfl ?_
  refine TL.nil ?_
  refine hK12 _ _ ?_
  refine TK.cond (b := (decide (i9 < (labels1.length : Int)))) rfl (fun hc => ?_) (fun hc => ?_)
  · have hX := ite_t hc hX
    refine TK.skip ?_
    refine hK11 _ _ ?_
    refine TK.seq_k fun K13 hK13 => ?_
    refine TK.block ?_
    refine TK.seq_k fun K14 hK14 => ?_
    refine TK.reg ?_
    refine TL.p (C := cx) (gc := true) (p_mv rfl) rfl rfl ?_
    refine TL.p (C := cx) (gc := true) (p_ncV rfl) rfl rfl ?_
    refine TL.p (C := cx) (gc := true) (p_faR fs118_0 (by decide) rfl) rfl rfl ?_
    refine TL.p (C := cx) (gc := true) (p_ldR (v := Enc.v (labels1 : (List Int))) ty46 rfl rfl rfl rfl rfl rfl) rfl rfl ?_
    refine TL.p (C := cx) (gc := true) (p_mv rfl) rfl rfl ?_
    obtain ⟨e15, he15, hX⟩ := bind_some hX
    refine TL.p (C := cx) (gc := true) (p_iaL (xs := labels1) kd46 ty3 rfl rfl rfl (fun _ => he15)) rfl rfl ?_
    refine TL.p (C := cx) (gc := true) (p_ldE (xs := labels1) (a := e15) (e15 : Int) ty3 rfl rfl (fun _ => he15) rfl rfl rfl) rfl rfl ?_
    refine TL.p (C := cx) (gc := true) (p_mv rfl) rfl rfl ?_
    refine TL.p (C := cx) (gc := true) (p_eql rfl rfl) rfl rfl ?_
    refine TL.nil ?_
    refine hK14 _ _ ?_
    refine TK.cond (b := (e15 == label4)) rfl (fun hc => ?_) (fun hc => ?_)
    · have hX := ite_t hc hX
      refine TK.seq_k fun K16 hK16 => ?_
      refine TK.reg ?_
      refine TL.p (C := cx) (gc := true) (p_mv rfl) rfl rfl ?_
      refine TL.p (C := cx) (gc := true) (p_mv rfl) rfl rfl ?_
      refine TL.nil ?_
      refine hK16 _ _ ?_
      refine TK.ret ?_
      obtain rfl := hR8 _ (some_in hX).symm
      replace hX := hA8
      try dsimp only [thenQ]
      exact ret1 (v := Enc.v (i9 : Int)) rfl (by obtain rfl := some_in hX; rfl) (v_val _)
    · have hX := ite_f hc hX
      refine TK.skip ?_
      refine hK13 _ _ ?_
      refine TK.reg ?_
      refine TL.p (C := cx) (gc := true) (p_mv rfl) rfl rfl ?_
      refine TL.p (C := cx) (gc := true) (p_add rfl rfl) rfl rfl ?_
      refine TL.p (C := cx) (gc := true) (p_mv rfl) rfl rfl ?_
      refine TL.nil ?_
      exact ⟨_, (some_in hX).symm, (), rfl, Nd_nil, HSub.refl _⟩
  · have hX := ite_f hc hX
    refine TK.exit ?_
    obtain rfl := hR8 _ (some_in hX).symm
    exact E8 _ _ ⟨(), rfl, Nd_nil, HSub.refl _⟩ hA8

/-- cartridge/cartridgeref22.NewShelf -/
theorem ok_cartridgeref22_NewShelf (labels1 : (List Int)) (drives2 : Int) (nd : Nd []) (r : ((Option ((List Int) × (List Int) × (List Int))) × Int)) (hX : X.cartridgeref22_NewShelf labels1 drives2 = some r) : TCX Try.prog 83 [Enc.v (labels1 : (List Int)), Enc.v (drives2 : Int)] [] (fun rv h' => match r.1 with | none => (rv = .tup 2 (ofL [.nilp, Enc.v (r.2 : Int)]) ∧ h' = []) | some ov => (∃ b43 b44 b45 b46, rv = .tup 2 (ofL [.ref b43 0 3, Enc.v (r.2 : Int)]) ∧ h' = [(b43, RV 118 [OL (α := Int) b44 ov.1, OL (α := Int) b45 ov.2.1, OL (α := Int) b46 ov.2.2]), (b44, RL (α := Int) 3 ov.1), (b45, RL (α := Int) 3 ov.2.1), (b46, RL (α := Int) 3 ov.2.2)])) := by
  refine TCX.of b83 (Nat.le_of_ble_eq_true rfl) ?_
  unfold k83
  unfold X.cartridgeref22_NewShelf at hX
  refine TK.seq_k fun K3 hK3 => ?_
  refine TK.reg ?_
  refine TL.p (C := cx) (gc := true) (p_mv rfl) rfl rfl ?_
  refine TL.p (C := cx) (gc := true) (p_mv rfl) rfl rfl ?_
  refine TL.nil ?_
  refine hK3 _ _ ?_
  refine TK.seq_k fun K4 hK4 => ?_
  refine TK.seq_k fun K5 hK5 => ?_
  refine TK.reg ?_
  refine TL.p (C := cx) (gc := true) (p_mv rfl) rfl rfl ?_
  refine TL.p (C := cx) (gc := true) (p_lenL (xs := labels1) kd46 rfl) rfl rfl ?_
  refine TL.p (C := cx) (gc := true) (p_gtr rfl rfl) rfl rfl ?_
  refine TL.p (C := cx) (gc := true) (p_mv rfl) rfl rfl ?_
  refine TL.p (C := cx) (gc := (!((decide ((labels1.length : Int) > (30 : Int)))))) (p_mv rfl (hg := fun e => rfl)) (gcF1 rfl) rfl ?_
  refine TL.p (C := cx) (gc := (!((decide ((labels1.length : Int) > (30 : Int)))))) (p_lss rfl rfl (hg := fun e => ⟨e, rfl⟩)) (gcF1 rfl) rfl ?_
  refine TL.p (C := cx) (gc := true) (p_or rfl rfl (fun e => ⟨rfl, fun h => (not_t h)⟩)) rfl rfl ?_
  refine TL.p (C := cx) (gc := true) (p_mv rfl) rfl rfl ?_
  refine TL.p (C := cx) (gc := (!(((decide ((labels1.length : Int) > (30 : Int))) || (decide (drives2 < (1 : Int))))))) (p_mv rfl (hg := fun e => rfl)) (gcF1 rfl) rfl ?_
  refine TL.p (C := cx) (gc := (!(((decide ((labels1.length : Int) > (30 : Int))) || (decide (drives2 < (1 : Int))))))) (p_gtr rfl rfl (hg := fun e => ⟨e, rfl⟩)) (gcF1 rfl) rfl ?_
  refine TL.p (C := cx) (gc := true) (p_or rfl rfl (fun e => ⟨rfl, fun h => (not_t h)⟩)) rfl rfl ?_
  refine TL.nil ?_
  refine hK5 _ _ ?_
  refine TK.cond (b := (((decide ((labels1.length : Int) > (30 : Int))) || (decide (drives2 < (1 : Int)))) || (decide (drives2 > (4 : Int))))) rfl (fun hc => ?_) (fun hc => ?_)
  · have hX := ite_t hc hX
    refine TK.seq_k fun K6 hK6 => ?_
    refine TK.reg ?_
    refine TL.p (C := cx) (gc := true) (p_mv rfl) rfl rfl ?_
    refine TL.p (C := cx) (gc := true) (p_mv rfl) rfl rfl ?_
    refine TL.nil ?_
    refine hK6 _ _ ?_
    refine TK.ret ?_
    try dsimp only [thenQ]
    exact retX (v := .tup 2 (ofL [.nilp, Enc.v ((1 : Int) : Int)])) (resN (vs := [.nilp, Enc.v ((1 : Int) : Int)]) ⟨rfl, rfl, trivial⟩) (by obtain rfl := some_in hX; exact ⟨rfl, rfl⟩) nd (inH_tup (l := [.nilp, Enc.v ((1 : Int) : Int)]) ⟨trivial, inH_val (v_val _), trivial⟩) trivial
  · have hX := ite_f hc hX
    refine TK.skip ?_
    refine hK4 _ _ ?_
    refine TK.seq_k fun K7 hK7 => ?_
    refine TK.reg ?_
    refine TL.p (C := cx) (gc := true) (p_mv rfl) rfl rfl ?_
    obtain ⟨u8, hu8, hX⟩ := bind_some hX
    refine TL.mkO (C := cx) nd (0 : Int) kd46 ty3 rfl (fun j hj => by (have : j = 0 := by simpa [Enc.sz] using hj); subst this; rfl) rfl rfl (by decide) (need_t hu8) rfl fun b9 nd => ?_
    refine TL.p (C := cx) (gc := true) (p_bld (l := [.nils, .nils, OL (α := Int) b9 (List.replicate drives2.toNat (0 : Int))]) ty118 rfl all118 rfl (fun _ => ⟨⟨rfl, (refOK_of nd (j := 0) rfl rfl), rfl⟩, trivial⟩)) rfl rfl ?_
    refine TL.boxO (C := cx) (lu := [.nils, .nils, OL (α := Int) b9 (List.replicate drives2.toNat (0 : Int))]) nd rfl (Cells_agg rfl (allA.mem ⟨trivial, trivial, oneA_rs (refOK_of nd (j := 0) rfl rfl), trivial⟩)) rfl fun b10 nd => ?_
    refine TL.p (C := cx) (gc := true) (p_mv rfl) rfl rfl ?_
    refine TL.nil ?_
    refine hK7 _ _ ?_
    refine TK.ownC (α := Int) nd (j := 0) rfl 0 3 (.inl rfl) fun b11 nd => ?_
    refine TK.ownC (α := Int) nd (j := 1) rfl 1 3 (.inl rfl) fun b12 nd => ?_
    refine TK.seq_k fun K13 hK13 => ?_
    refine TK.seq_k fun K14 hK14 => ?_
    refine TK.reg ?_
    refine TL.p (C := cx) (gc := true) (p_mv rfl) rfl rfl ?_
    refine TL.nil ?_
    refine hK14 _ _ ?_
    refine TK.block ?_
    obtain ⟨o15, hO15, hA15⟩ := bind_some hX
    have E15 : ∀ (l25 : List Int) (l27 : List Int) (env : Env) (h : Hp), (∃ b24 b26 b28 b23, keepE [6] env = [(6, true, .ref b23 0 3)] ∧ Nd [(b24, RL (α := Int) 3 l25), (b26, RL (α := Int) 3 l27), (b28, RL (α := Int) 3 (List.replicate drives2.toNat (0 : Int))), (b23, RV 118 [OL (α := Int) b24 l25, OL (α := Int) b26 l27, OL (α := Int) b28 (List.replicate drives2.toNat (0 : Int))])] ∧ HSub [(b24, RL (α := Int) 3 l25), (b26, RL (α := Int) 3 l27), (b28, RL (α := Int) 3 (List.replicate drives2.toNat (0 : Int))), (b23, RV 118 [OL (α := Int) b24 l25, OL (α := Int) b26 l27, OL (α := Int) b28 (List.replicate drives2.toNat (0 : Int))])] h) → X.cartridgeref22_NewShelf_e15 drives2 l25 l27 = some r → K13 env h := by
      intro l25 l27 env h hE hX
      obtain ⟨b24, b26, b28, b23, henv, nd, hs⟩ := hE
      unfold X.cartridgeref22_NewShelf_e15 at hX
      refine hK13 _ _ (TK.keep [6] ?_)
      rw [henv]
      refine TK.subH hs ?_
      refine TK.seq_k fun K29 hK29 => ?_
      refine TK.reg ?_
      refine TL.p (C := cx) (gc := true) (p_mv rfl) rfl rfl ?_
      refine TL.p (C := cx) (gc := true) (p_mv rfl) rfl rfl ?_
      refine TL.p (C := cx) (gc := true) (p_mv rfl) rfl rfl ?_
      refine TL.nil ?_
      refine hK29 _ _ ?_
      refine TK.pick [3, 0, 1, 2] nd (by decide) fun nd => ?_
      refine TK.ret ?_
      try dsimp only [thenQ]
      exact retX (v := .tup 2 (ofL [.ref b23 0 3, Enc.v ((0 : Int) : Int)])) (resN (vs := [.ref b23 0 3, Enc.v ((0 : Int) : Int)]) ⟨rfl, rfl, trivial⟩) (by obtain rfl := some_in hX; exact ⟨b23, b24, b26, b28, rfl, rfl⟩) nd (inH_tup (l := [.ref b23 0 3, Enc.v ((0 : Int) : Int)]) ⟨inH_ref nd (j := 0) rfl, inH_val (v_val _), trivial⟩) ⟨rowIn_RV ⟨inH_rs nd (j := 1) rfl, inH_rs nd (j := 2) rfl, inH_rs nd (j := 3) rfl, trivial⟩, rowIn_RL, rowIn_RL, rowIn_RL, trivial⟩
    refine TK.iter [0, 6, 7] (fun s env h => match s with | (l18, l20, i22) => ∃ b17 b19 b21 b16, env = [(0, true, Enc.v (labels1 : (List Int))), (6, true, .ref b16 0 3), (7, true, Enc.v (i22 : Int))] ∧ Nd [(b17, RL (α := Int) 3 l18), (b19, RL (α := Int) 3 l20), (b21, RL (α := Int) 3 (List.replicate drives2.toNat (0 : Int))), (b16, RV 118 [OL (α := Int) b17 l18, OL (α := Int) b19 l20, OL (α := Int) b21 (List.replicate drives2.toNat (0 : Int))])] ∧ HSub [(b17, RL (α := Int) 3 l18), (b19, RL (α := Int) 3 l20), (b21, RL (α := Int) 3 (List.replicate drives2.toNat (0 : Int))), (b16, RV 118 [OL (α := Int) b17 l18, OL (α := Int) b19 l20, OL (α := Int) b21 (List.replicate drives2.toNat (0 : Int))])] h) hO15 ⟨b11, b12, b9, b10, rfl, (Nd.pick nd (is := [1, 0, 3, 2]) (by decide)), (HSub.pick nd (is := [1, 0, 3, 2]) (by decide))⟩ ?_
    rintro ⟨l18, l20, i22⟩ env h x15x ⟨b17, b19, b21, b16, rfl, nd, hs⟩ hX hR15
    refine TK.subH hs ?_
    unfold X.cartridgeref22_NewShelf_s15 at hX
    try dsimp only at hX
    refine TK.seq_k fun K30 hK30 => ?_
    refine TK.seq_k fun K31 hK31 => ?_
    refine TK.reg ?_
    refine TL.p (C := cx) (gc := true) (p_mv rfl) rfl rfl ?_
    refine TL.p (C := cx) (gc := true) (p_mv rfl) rfl rfl ?_
    refine TL.p (C := cx) (gc := true) (p_lenL (xs := labels1) kd46 rfl) rfl rfl ?_
    refine TL.p (C := cx) (gc := true) (p_lss rfl rfl) rfl rfl ?_
    refine TL.nil ?_
    refine hK31 _ _ ?_
    refine TK.cond (b := (decide (i22 < (labels1.length : Int)))) rfl (fun hc => ?_) (fun hc => ?_)
    · have hX := ite_t hc hX
      refine TK.skip ?_
      refine hK30 _ _ ?_
      refine TK.seq_k fun K32 hK32 => ?_
      refine TK.block ?_
      refine TK.seq_k fun K33 hK33 => ?_
      refine TK.seq_k fun K34 hK34 => ?_
      refine TK.reg ?_
      refine TL.p (C := cx) (gc := true) (p_mv rfl) rfl rfl ?_
      refine TL.p (C := cx) (gc := true) (p_mv rfl) rfl rfl ?_
      obtain ⟨e35, he35, hX⟩ := bind_some hX
      refine TL.p (C := cx) (gc := true) (p_iaL (xs := labels1) kd46 ty3 rfl rfl rfl (fun _ => he35)) rfl rfl ?_
      refine TL.p (C := cx) (gc := true) (p_ldE (xs := labels1) (a := e35) (e35 : Int) ty3 rfl rfl (fun _ => he35) rfl rfl rfl) rfl rfl ?_
      refine TL.p (C := cx) (gc := true) (p_lss rfl rfl) rfl rfl ?_
      refine TL.p (C := cx) (gc := true) (p_mv rfl) rfl rfl ?_
      refine TL.p (C := cx) (gc := (!((decide (e35 < (1 : Int)))))) (p_mv rfl (hg := fun e => rfl)) (gcF1 rfl) rfl ?_
      refine TL.p (C := cx) (gc := (!((decide (e35 < (1 : Int)))))) (p_mv rfl (hg := fun e => rfl)) (gcF1 rfl) rfl ?_
      refine TL.p (C := cx) (gc := (!((decide (e35 < (1 : Int)))))) (p_mv rfl (hg := fun e => rfl)) (gcF1 rfl) rfl ?_
      obtain ⟨e36, he36, hX⟩ := bind_some hX
      refine TL.p (C := cx) (gc := (!((decide (e35 < (1 : Int)))))) (p_iaL (xs := labels1) kd46 ty3 rfl rfl rfl (fun e => optG_t he36 e) (hg := fun e => ⟨e, e⟩)) (gcF1 rfl) rfl ?_
      refine TL.p (C := cx) (gc := (!((decide (e35 < (1 : Int)))))) (p_ldE (xs := labels1) (a := e36) (e36 : Int) ty3 rfl rfl (fun e => optG_t he36 e) rfl rfl rfl (hg := fun e => e)) (gcF1 rfl) rfl ?_
      obtain ⟨r37, hr37, hX⟩ := bind_some hX
      refine TL.lookX [.vref (ofL [Enc.v (l18 : (List Int)), Enc.v (l20 : (List Int)), Enc.v ((List.replicate drives2.toNat (0 : Int)) : (List Int))]) 3 0, Enc.v (e36 : Int)] (gcF1 rfl) rfl rfl (fun e => ⟨rfl, ⟨e, ⟨e, trivial⟩⟩⟩) ⟨look_ref (l := [OL (α := Int) b17 l18, OL (α := Int) b19 l20, OL (α := Int) b21 (List.replicate drives2.toNat (0 : Int))]) nd (j := 3) rfl ⟨look_OL nd (j := 0) rfl, look_OL nd (j := 1) rfl, look_OL nd (j := 2) rfl, trivial⟩, look_v (v := Enc.v (e36 : Int)) (v_val _), trivial⟩ (fun e => ok_cartridgeref22_Shelf_find l18 l20 (List.replicate drives2.toNat (0 : Int)) e36 _ (optG_t hr37 e)) (trivial) ?_
      refine TL.p (C := cx) (gc := (!((decide (e35 < (1 : Int)))))) (p_geq rfl rfl (hg := fun e => ⟨e, rfl⟩)) (gcF1 rfl) rfl ?_
      refine TL.p (C := cx) (gc := true) (p_or rfl rfl (fun e => ⟨rfl, fun h => (not_t h)⟩)) rfl rfl ?_
      refine TL.nil ?_
      refine hK34 _ _ ?_
      refine TK.cond (b := ((decide (e35 < (1 : Int))) || (decide (r37 ≥ (0 : Int))))) rfl (fun hc => ?_) (fun hc => ?_)
      · have hX := ite_t hc hX
        refine TK.seq_k fun K38 hK38 => ?_
        refine TK.reg ?_
        refine TL.p (C := cx) (gc := true) (p_mv rfl) rfl rfl ?_
        refine TL.p (C := cx) (gc := true) (p_mv rfl) rfl rfl ?_
        refine TL.nil ?_
        refine hK38 _ _ ?_
        refine TK.pick [] nd (by decide) fun nd => ?_
        refine TK.ret ?_
        obtain rfl := hR15 _ (some_in hX).symm
        replace hX := hA15
        try dsimp only [thenQ]
        exact retX (v := .tup 2 (ofL [.nilp, Enc.v ((1 : Int) : Int)])) (resN (vs := [.nilp, Enc.v ((1 : Int) : Int)]) ⟨rfl, rfl, trivial⟩) (by obtain rfl := some_in hX; exact ⟨rfl, rfl⟩) nd (inH_tup (l := [.nilp, Enc.v ((1 : Int) : Int)]) ⟨trivial, inH_val (v_val _), trivial⟩) trivial
      · have hX := ite_f hc hX
        refine TK.skip ?_
        refine hK33 _ _ ?_
        refine TK.seq_k fun K39 hK39 => ?_
        refine TK.pick [0, 3, 1, 2] nd (by decide) fun nd => ?_
        have ndS : Nd [(b19, RL (α := Int) 3 l20), (b21, RL (α := Int) 3 (List.replicate drives2.toNat (0 : Int)))] := Nd.pick nd (is := [2, 3]) (by decide)
        refine TK.drwX (h := [(b17, RL (α := Int) 3 l18), (b16, RV 118 [OL (α := Int) b17 l18, OL (α := Int) b19 l20, OL (α := Int) b21 (List.replicate drives2.toNat (0 : Int))])]) (hS := [(b19, RL (α := Int) 3 l20), (b21, RL (α := Int) 3 (List.replicate drives2.toNat (0 : Int)))]) [(0, 0), (0, 1), (1, 2), (1, 3), (1, 4), (0, 5), (0, 6), (0, 7), (0, 8), (0, 9), (2, 10), (1, 11), (1, 12), (2, 13)] mixed (by kernel_rfl) (HSub_app nd) ?_
        refine DR0 (gc := true) rfl (vok_p (C := cx) (p_mv rfl)) rfl rfl ?_
        refine DR0 (gc := true) rfl (vok_p (C := cx) (p_mv rfl)) rfl rfl ?_
        refine DR1 (gc := true) rfl (vok_p (C := cx) (p_ncR rfl (fun _ => refOK_of nd (j := 1) rfl rfl))) rfl rfl ?_
        refine DR1 (gc := true) rfl (vok_p (C := cx) (p_faV fs118_0 (by decide) rfl nd (j := 1) rfl rfl)) rfl rfl ?_
        refine DR1 (gc := true) rfl (vok_p (C := cx) (p_ldV (v := OL (α := Int) b17 l18) ty46 rfl rfl nd (j := 1) rfl rfl rfl rfl rfl)) rfl rfl ?_
        refine DR0 (gc := true) rfl (vok_p (C := cx) (p_mv rfl)) rfl rfl ?_
        refine DR0 (gc := true) rfl (vok_p (C := cx) (p_mv rfl)) rfl rfl ?_
        obtain ⟨e40, he40, hX⟩ := bind_some hX
        refine DR0 (gc := true) rfl (vok_p (C := cx) (p_iaL (xs := labels1) kd46 ty3 rfl rfl rfl (fun _ => he40))) rfl rfl ?_
        refine DR0 (gc := true) rfl (vok_p (C := cx) (p_ldE (xs := labels1) (a := e40) (e40 : Int) ty3 rfl rfl (fun _ => he40) rfl rfl rfl)) rfl rfl ?_
        refine DR0 (gc := true) rfl (vok_lit (C := cx) ([e40] : List Int) kd46 ty3 rfl ⟨⟨rfl, rfl⟩, trivial⟩ rfl rfl) rfl rfl ?_
        obtain ⟨u41, hu41, hX⟩ := bind_some hX
        refine DR2 rfl rfl ?_
        refine TL.appO (C := cx) nd kd46 bo46 ty3 rfl rfl (j := 0) rfl rfl (Src_L _) (by decide) (need_t hu41) rfl fun nd => ?_
        refine TL.nil ⟨_, [(b17, RL (α := Int) 3 (l18 ++ ([e40] : List Int))), (b16, RV 118 [OL (α := Int) b17 l18, OL (α := Int) b19 l20, OL (α := Int) b21 (List.replicate drives2.toNat (0 : Int))])], rfl, rfl, HSub_app nd, ?_⟩
        refine DR1 (gc := true) rfl (vok_p (C := cx) (p_ncR rfl (fun _ => refOK_of nd (j := 1) rfl rfl))) rfl rfl ?_
        refine DR1 (gc := true) rfl (vok_p (C := cx) (p_faV fs118_0 (by decide) rfl nd (j := 1) rfl rfl)) rfl rfl ?_
        refine DR2n rfl ?_
        refine TL.stV (C := cx) (lu := [OL (α := Int) b17 (l18 ++ ([e40] : List Int))]) nd ty46 rfl (j := 1) rfl rfl rfl (Cells_rs (refOK_of nd (j := 0) rfl rfl)) rfl rfl [OL (α := Int) b17 (l18 ++ ([e40] : List Int)), OL (α := Int) b19 l20, OL (α := Int) b21 (List.replicate drives2.toNat (0 : Int))] rfl fun nd => ?_
        refine TL.nil ⟨.nilp, [(b17, RL (α := Int) 3 (l18 ++ ([e40] : List Int))), (b16, RV 118 [OL (α := Int) b17 (l18 ++ ([e40] : List Int)), OL (α := Int) b19 l20, OL (α := Int) b21 (List.replicate drives2.toNat (0 : Int))])], rfl, rfl, HSub_app nd, ?_⟩
        refine DRend ?_
        refine hK39 _ _ ?_
        refine TK.reg ?_
        refine TL.p (C := cx) (gc := true) (p_mv rfl) rfl rfl ?_
        refine TL.p (C := cx) (gc := true) (p_mv rfl) rfl rfl ?_
        refine TL.p (C := cx) (gc := true) (p_ncR rfl (fun _ => refOK_of nd (j := 1) rfl rfl)) rfl rfl ?_
        refine TL.p (C := cx) (gc := true) (p_faV fs118_1 (by decide) rfl nd (j := 1) rfl rfl) rfl rfl ?_
        refine TL.p (C := cx) (gc := true) (p_ldV (v := OL (α := Int) b19 l20) ty46 rfl rfl nd (j := 1) rfl rfl rfl rfl rfl) rfl rfl ?_
        refine TL.lit (C := cx) ([((-1) : Int)] : List Int) kd46 ty3 rfl ⟨⟨rfl, rfl⟩, trivial⟩ rfl rfl rfl ?_
        obtain ⟨u42, hu42, hX⟩ := bind_some hX
        refine TL.appO (C := cx) nd kd46 bo46 ty3 rfl rfl (j := 2) rfl rfl (Src_L _) (by decide) (need_t hu42) rfl fun nd => ?_
        refine TL.p (C := cx) (gc := true) (p_ncR rfl (fun _ => refOK_of nd (j := 1) rfl rfl)) rfl rfl ?_
        refine TL.p (C := cx) (gc := true) (p_faV fs118_1 (by decide) rfl nd (j := 1) rfl rfl) rfl rfl ?_
        refine TL.stV (C := cx) (lu := [OL (α := Int) b19 (l20 ++ ([((-1) : Int)] : List Int))]) nd ty46 rfl (j := 1) rfl rfl rfl (Cells_rs (refOK_of nd (j := 2) rfl rfl)) rfl rfl [OL (α := Int) b17 (l18 ++ ([e40] : List Int)), OL (α := Int) b19 (l20 ++ ([((-1) : Int)] : List Int)), OL (α := Int) b21 (List.replicate drives2.toNat (0 : Int))] rfl fun nd => ?_
        refine TL.nil ?_
        refine hK32 _ _ ?_
        refine TK.reg ?_
        refine TL.p (C := cx) (gc := true) (p_mv rfl) rfl rfl ?_
        refine TL.p (C := cx) (gc := true) (p_add rfl rfl) rfl rfl ?_
        refine TL.p (C := cx) (gc := true) (p_mv rfl) rfl rfl ?_
        refine TL.nil ?_
        exact ⟨_, (some_in hX).symm, b17, b19, b21, b16, rfl, (Nd.pick nd (is := [0, 2, 3, 1]) (by decide)), (HSub.pick nd (is := [0, 2, 3, 1]) (by decide))⟩
    · have hX := ite_f hc hX
      refine TK.exit ?_
      obtain rfl := hR15 _ (some_in hX).symm
      exact E15 l18 l20 _ _ ⟨b17, b19, b21, b16, rfl, (Nd.pick nd (is := [0, 1, 2, 3]) (by decide)), (HSub.pick nd (is := [0, 1, 2, 3]) (by decide))⟩ hA15

end Go.Proofs.Ytgkbjnhpmlfgdaa
