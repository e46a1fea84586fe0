import Derived.Test.YtjkjoihlpnahdaaXFn
import Derived.Test.YtjkjoihlpnahdaaXS
import Derived.Test.YtjkjoihlpnahdaaAmK0
import Derived.Test.YtjkjoihlpnahdaaAmK1
/- That they do. -/
namespace Go.Proofs.Ytjkjoihlpnahdaa
open Go.AM Go.AX
set_option linter.unusedVariables false
set_option maxRecDepth 20000

/-- slices.Index[[]int,int] -/
theorem ok_slices_Index_Lint_int (s1 : (List Int)) (v2 : Int) (r : Int) (hX : X.slices_Index_Lint_int s1 v2 = some r) : Fun Try.prog 43 [Enc.v (s1 : (List Int)), Enc.v (v2 : Int)] (· = Enc.v (r : Int)) := by
  refine Fun.of b43 (Nat.le_of_ble_eq_true rfl) (allVal.mem ⟨(by exact (v_val _)), (by exact (v_val _)), trivial⟩) ?_
  unfold k43
  have nd : Nd [] := Nd_nil
  unfold X.slices_Index_Lint_int at hX
  refine TK.seq_k fun K3 hK3 => ?_
  refine TK.reg ?_
  refine TL.p (C := cx) (gc := true) (p_mv rfl) rfl rfl ?_
  refine TL.nil ?_
  refine hK3 _ _ ?_
  refine TK.seq_k fun K4 hK4 => ?_
  refine TK.seq_k fun K5 hK5 => ?_
  refine TK.reg ?_
  refine TL.p (C := cx) (gc := true) (p_mv rfl) rfl rfl ?_
  refine TL.p (C := cx) (gc := true) (p_lenL (xs := s1) kd22 rfl) rfl rfl ?_
  refine TL.p (C := cx) (gc := true) (p_mv rfl) rfl rfl ?_
  refine TL.nil ?_
  refine hK5 _ _ ?_
  refine TK.block ?_
  obtain ⟨o6, hO6, hA6⟩ := bind_some hX
  have E6 : ∀ (env : Env) (h : Hp), (∃ _u : Unit, keepE [] env = [] ∧ Nd [] ∧ HSub [] h) → X.slices_Index_Lint_int_e6 = some r → K4 env h := by
    intro  env h hE hX
    obtain ⟨_u, henv, nd, hs⟩ := hE
    unfold X.slices_Index_Lint_int_e6 at hX
    refine hK4 _ _ (TK.keep [] ?_)
    rw [henv]
    refine TK.subH hs ?_
    refine TK.seq_k fun K8 hK8 => ?_
    refine TK.reg ?_
    refine TL.p (C := cx) (gc := true) (p_mv rfl) rfl rfl ?_
    refine TL.nil ?_
    refine hK8 _ _ ?_
    refine TK.ret ?_
    try dsimp only [thenQ]
    exact ret1 (v := Enc.v (((-1) : Int) : Int)) rfl (by obtain rfl := some_in hX; rfl) (v_val _)
  refine TK.iter [0, 1, 7, 8] (fun s env h => match s with | x7 => ∃ _u : Unit, env = [(0, true, Enc.v (s1 : (List Int))), (1, true, Enc.v (v2 : Int)), (7, true, Enc.v ((s1.length : Int) : Int)), (8, true, Enc.v (x7 : Int))] ∧ Nd [] ∧ HSub [] h) hO6 ⟨(), rfl, Nd_nil, HSub.refl _⟩ ?_
  rintro x7 env h x6x ⟨_u, rfl, nd, hs⟩ hX hR6
  refine TK.subH hs ?_
  unfold X.slices_Index_Lint_int_s6 at hX
  try dsimp only at hX
  refine TK.seq_k fun K9 hK9 => ?_
  refine TK.reg ?_
  refine TL.p (C := cx) (gc := true) (p_lss rfl rfl) rfl rfl ?_
  refine TL.nil ?_
  refine hK9 _ _ ?_
  refine TK.seq_k fun K10 hK10 => ?_
  refine TK.cond (b := (decide (x7 < (s1.length : Int)))) rfl (fun hc => ?_) (fun hc => ?_)
  · have hX := ite_t hc hX
    refine TK.skip ?_
    refine hK10 _ _ ?_
    refine TK.seq_k fun K11 hK11 => ?_
    refine TK.block ?_
    refine TK.seq_k fun K12 hK12 => ?_
    refine TK.reg ?_
    refine TL.p (C := cx) (gc := true) (p_mv rfl) rfl rfl ?_
    refine TL.p (C := cx) (gc := true) (p_mv rfl) rfl rfl ?_
    refine TL.nil ?_
    refine hK12 _ _ ?_
    refine TK.seq_k fun K13 hK13 => ?_
    refine TK.reg ?_
    refine TL.p (C := cx) (gc := true) (p_mv rfl) rfl rfl ?_
    refine TL.p (C := cx) (gc := true) (p_mv rfl) rfl rfl ?_
    refine TL.p (C := cx) (gc := true) (p_mv rfl) rfl rfl ?_
    obtain ⟨e14, he14, hX⟩ := bind_some hX
    refine TL.p (C := cx) (gc := true) (p_iaL (xs := s1) kd22 ty3 rfl rfl rfl (fun _ => he14)) rfl rfl ?_
    refine TL.p (C := cx) (gc := true) (p_ldE (xs := s1) (a := e14) (e14 : Int) ty3 rfl rfl (fun _ => he14) rfl rfl rfl) rfl rfl ?_
    refine TL.p (C := cx) (gc := true) (p_eql rfl rfl) rfl rfl ?_
    refine TL.nil ?_
    refine hK13 _ _ ?_
    refine TK.cond (b := (v2 == e14)) rfl (fun hc => ?_) (fun hc => ?_)
    · have hX := ite_t hc hX
      refine TK.seq_k fun K15 hK15 => ?_
      refine TK.reg ?_
      refine TL.p (C := cx) (gc := true) (p_mv rfl) rfl rfl ?_
      refine TL.p (C := cx) (gc := true) (p_mv rfl) rfl rfl ?_
      refine TL.nil ?_
      refine hK15 _ _ ?_
      refine TK.ret ?_
      obtain rfl := hR6 _ (some_in hX).symm
      replace hX := hA6
      try dsimp only [thenQ]
      exact ret1 (v := Enc.v (x7 : Int)) rfl (by obtain rfl := some_in hX; rfl) (v_val _)
    · have hX := ite_f hc hX
      refine TK.skip ?_
      refine hK11 _ _ ?_
      refine TK.reg ?_
      refine TL.p (C := cx) (gc := true) (p_add rfl rfl) rfl rfl ?_
      refine TL.p (C := cx) (gc := true) (p_mv rfl) rfl rfl ?_
      refine TL.nil ?_
      exact ⟨_, (some_in hX).symm, (), rfl, Nd_nil, HSub.refl _⟩
  · have hX := ite_f hc hX
    refine TK.exit ?_
    obtain rfl := hR6 _ (some_in hX).symm
    exact E6 _ _ ⟨(), rfl, Nd_nil, HSub.refl _⟩ hA6

/-- slices.Contains[[]int,int] -/
theorem ok_slices_Contains_Lint_int (s1 : (List Int)) (v2 : Int) (r : Bool) (hX : X.slices_Contains_Lint_int s1 v2 = some r) : Fun Try.prog 38 [Enc.v (s1 : (List Int)), Enc.v (v2 : Int)] (· = Enc.v (r : Bool)) := by
  refine Fun.of b38 (Nat.le_of_ble_eq_true rfl) (allVal.mem ⟨(by exact (v_val _)), (by exact (v_val _)), trivial⟩) ?_
  unfold k38
  have nd : Nd [] := Nd_nil
  unfold X.slices_Contains_Lint_int at hX
  refine TK.seq_k fun K3 hK3 => ?_
  refine TK.reg ?_
  refine TL.p (C := cx) (gc := true) (p_mv rfl) rfl rfl ?_
  refine TL.nil ?_
  refine hK3 _ _ ?_
  refine TK.seq_k fun K4 hK4 => ?_
  refine TK.reg ?_
  refine TL.p (C := cx) (gc := true) (p_mv rfl) rfl rfl ?_
  refine TL.p (C := cx) (gc := true) (p_mv rfl) rfl rfl ?_
  obtain ⟨r5, hr5, hX⟩ := bind_some hX
  refine TL.cvX rfl rfl rfl (fun _ => ⟨rfl, ⟨rfl, ⟨rfl, trivial⟩⟩⟩) (fun e => ok_slices_Index_Lint_int s1 v2 _ hr5) ?_
  refine TL.p (C := cx) (gc := true) (p_geq rfl rfl) rfl rfl ?_
  refine TL.p (C := cx) (gc := true) (p_mv rfl) rfl rfl ?_
  refine TL.nil ?_
  refine hK4 _ _ ?_
  refine TK.ret ?_
  try dsimp only [thenQ]
  exact ret1 (v := Enc.v ((decide (r5 ≥ (0 : Int))) : Bool)) rfl (by obtain rfl := some_in hX; rfl) (v_val _)

/-- slices.Clone[[]int,int] -/
theorem ok_slices_Clone_Lint_int (s1 : (List Int)) (r : (List Int)) (hX : X.slices_Clone_Lint_int s1 = some r) : Fun Try.prog 39 [Enc.v (s1 : (List Int))] (· = Enc.v (r : (List Int))) := by
  refine Fun.of b39 (Nat.le_of_ble_eq_true rfl) (allVal.mem ⟨(by exact (v_val _)), trivial⟩) ?_
  unfold k39
  have nd : Nd [] := Nd_nil
  unfold X.slices_Clone_Lint_int at hX
  refine TK.seq_k fun K2 hK2 => ?_
  refine TK.reg ?_
  refine TL.p (C := cx) (gc := true) (p_mv rfl) rfl rfl ?_
  refine TL.nil ?_
  refine hK2 _ _ ?_
  refine TK.seq_k fun K3 hK3 => ?_
  refine TK.seq_k fun K4 hK4 => ?_
  refine TK.reg ?_
  refine TL.p (C := cx) (gc := true) (p_mv rfl) rfl rfl ?_
  refine TL.eqNilU (C := cx) (xs := s1) kd22 rfl rfl rfl fun z5 hbz5 => ?_
  replace hX := nilU_t hX hbz5
  refine TL.nil ?_
  refine hK4 _ _ ?_
  refine TK.cond (b := z5) rfl (fun hc => ?_) (fun hc => ?_)
  · have hX := ite_t hc hX
    refine TK.seq_k fun K6 hK6 => ?_
    refine TK.reg ?_
    refine TL.p (C := cx) (gc := true) (p_mv rfl) rfl rfl ?_
    refine TL.nil ?_
    refine hK6 _ _ ?_
    refine TK.wk 2 (L ([] : (List Int))) rfl Wk_nil ?_
    refine TK.ret ?_
    try dsimp only [thenQ]
    exact ret1 (v := Enc.v (([] : (List Int)) : (List Int))) rfl (by obtain rfl := some_in hX; rfl) (v_val _)
  · have hX := ite_f hc hX
    refine TK.skip ?_
    refine hK3 _ _ ?_
    refine TK.seq_k fun K7 hK7 => ?_
    refine TK.reg ?_
    refine TL.litZ (C := cx) kd22 ty3 rfl ?_
    refine TL.p (C := cx) (gc := true) (p_mv rfl) rfl rfl ?_
    obtain ⟨u8, hu8, hX⟩ := bind_some hX
    refine TL.appN (C := cx) nd kd22 bo22 ty3 rfl rfl (.inr rfl) rfl (Src_L _) (by decide) (need_t hu8) rfl fun b9 nd => ?_
    refine TL.p (C := cx) (gc := true) (p_mv rfl) rfl rfl ?_
    refine TL.nil ?_
    refine hK7 _ _ ?_
    refine TK.lay [(2, L s1)] nd (j := 0) rfl ⟨⟨_, rfl, fix_OL nd (j := 0) rfl, rfl⟩, trivial⟩ fun nd => ?_
    refine TK.ret ?_
    try dsimp only [thenQ]
    exact ret1 (v := Enc.v (s1 : (List Int))) rfl (by obtain rfl := some_in hX; rfl) (v_val _)

/-- cartridge/shelf.New -/
theorem ok_shelf_New (labels1 : (List Int)) (drives2 : Int) (nd : Nd []) (r : ((Option ((List Int) × (List Int))) × Int)) (hX : X.shelf_New labels1 drives2 = some r) : TCX Try.prog 22 [Enc.v (labels1 : (List Int)), Enc.v (drives2 : Int)] [] (fun rv h' => match r.1 with | none => (rv = .tup 2 (ofL [.nilp, Enc.v (r.2 : Int)]) ∧ h' = []) | some ov => (∃ b25 b26, rv = .tup 2 (ofL [.ref b25 0 2, Enc.v (r.2 : Int)]) ∧ h' = [(b25, RV 65 [Enc.v (ov.1 : (List Int)), OL (α := Int) b26 ov.2]), (b26, RL (α := Int) 3 ov.2)])) := by
  refine TCX.of b22 (Nat.le_of_ble_eq_true rfl) ?_
  unfold k22
  unfold X.shelf_New at hX
  refine TK.seq_k fun K3 hK3 => ?_
  refine TK.reg ?_
  refine TL.p (C := cx) (gc := true) (p_mv rfl) rfl rfl ?_
  refine TL.p (C := cx) (gc := true) (p_mv rfl) rfl rfl ?_
  refine TL.nil ?_
  refine hK3 _ _ ?_
  refine TK.seq_k fun K4 hK4 => ?_
  refine TK.seq_k fun K5 hK5 => ?_
  refine TK.reg ?_
  refine TL.p (C := cx) (gc := true) (p_mv rfl) rfl rfl ?_
  refine TL.p (C := cx) (gc := true) (p_lenL (xs := labels1) kd22 rfl) rfl rfl ?_
  refine TL.p (C := cx) (gc := true) (p_gtr rfl rfl) rfl rfl ?_
  refine TL.p (C := cx) (gc := true) (p_mv rfl) rfl rfl ?_
  refine TL.p (C := cx) (gc := (!((decide ((labels1.length : Int) > (30 : Int)))))) (p_mv rfl (hg := fun e => rfl)) (gcF1 rfl) rfl ?_
  refine TL.p (C := cx) (gc := (!((decide ((labels1.length : Int) > (30 : Int)))))) (p_lss rfl rfl (hg := fun e => ⟨e, rfl⟩)) (gcF1 rfl) rfl ?_
  refine TL.p (C := cx) (gc := true) (p_or rfl rfl (fun e => ⟨rfl, fun h => (not_t h)⟩)) rfl rfl ?_
  refine TL.p (C := cx) (gc := true) (p_mv rfl) rfl rfl ?_
  refine TL.p (C := cx) (gc := (!(((decide ((labels1.length : Int) > (30 : Int))) || (decide (drives2 < (1 : Int))))))) (p_mv rfl (hg := fun e => rfl)) (gcF1 rfl) rfl ?_
  refine TL.p (C := cx) (gc := (!(((decide ((labels1.length : Int) > (30 : Int))) || (decide (drives2 < (1 : Int))))))) (p_gtr rfl rfl (hg := fun e => ⟨e, rfl⟩)) (gcF1 rfl) rfl ?_
  refine TL.p (C := cx) (gc := true) (p_or rfl rfl (fun e => ⟨rfl, fun h => (not_t h)⟩)) rfl rfl ?_
  refine TL.nil ?_
  refine hK5 _ _ ?_
  refine TK.cond (b := (((decide ((labels1.length : Int) > (30 : Int))) || (decide (drives2 < (1 : Int)))) || (decide (drives2 > (4 : Int))))) rfl (fun hc => ?_) (fun hc => ?_)
  · have hX := ite_t hc hX
    refine TK.seq_k fun K6 hK6 => ?_
    refine TK.reg ?_
    refine TL.p (C := cx) (gc := true) (p_mv rfl) rfl rfl ?_
    refine TL.p (C := cx) (gc := true) (p_mv rfl) rfl rfl ?_
    refine TL.nil ?_
    refine hK6 _ _ ?_
    refine TK.ret ?_
    try dsimp only [thenQ]
    exact retX (v := .tup 2 (ofL [.nilp, Enc.v ((1 : Int) : Int)])) (resN (vs := [.nilp, Enc.v ((1 : Int) : Int)]) ⟨rfl, rfl, trivial⟩) (by obtain rfl := some_in hX; exact ⟨rfl, rfl⟩) nd (inH_tup (l := [.nilp, Enc.v ((1 : Int) : Int)]) ⟨trivial, inH_val (v_val _), trivial⟩) trivial
  · have hX := ite_f hc hX
    refine TK.skip ?_
    refine hK4 _ _ ?_
    refine TK.seq_k fun K7 hK7 => ?_
    refine TK.seq_k fun K8 hK8 => ?_
    refine TK.reg ?_
    refine TL.p (C := cx) (gc := true) (p_mv rfl) rfl rfl ?_
    refine TL.p (C := cx) (gc := true) (p_lenL (xs := labels1) kd22 rfl) rfl rfl ?_
    refine TL.p (C := cx) (gc := true) (p_mv rfl) rfl rfl ?_
    refine TL.nil ?_
    refine hK8 _ _ ?_
    refine TK.block ?_
    obtain ⟨o9, hO9, hA9⟩ := bind_some hX
    have E9 : ∀ (env : Env) (h : Hp), (∃ _u : Unit, keepE [0, 1] env = [(0, true, Enc.v (labels1 : (List Int))), (1, true, Enc.v (drives2 : Int))] ∧ Nd [] ∧ HSub [] h) → X.shelf_New_e9 labels1 drives2 = some r → K7 env h := by
      intro  env h hE hX
      obtain ⟨_u, henv, nd, hs⟩ := hE
      unfold X.shelf_New_e9 at hX
      refine hK7 _ _ (TK.keep [0, 1] ?_)
      rw [henv]
      refine TK.subH hs ?_
      refine TK.seq_k fun K11 hK11 => ?_
      have ndS : Nd [] := Nd.pick nd (is := []) (by decide)
      refine TK.drwX (h := []) (hS := []) [(0, 0), (0, 1), (0, 2), (2, 3), (1, 4), (2, 5), (0, 6), (0, 7)] mixed (by kernel_rfl) (HSub_app nd) ?_
      refine DR0 (gc := true) rfl (vok_p (C := cx) (p_mv rfl)) rfl rfl ?_
      obtain ⟨r12, hr12, hX⟩ := bind_some hX
      refine DR0 (gc := true) rfl (vok_c rfl (fun _ => ⟨rfl, ⟨rfl, trivial⟩⟩) (fun e => ok_slices_Clone_Lint_int labels1 _ hr12)) rfl rfl ?_
      refine DR0 (gc := true) rfl (vok_p (C := cx) (p_mv rfl)) rfl rfl ?_
      obtain ⟨u13, hu13, hX⟩ := bind_some hX
      refine DR2 rfl rfl ?_
      refine TL.mkO (C := cx) nd (0 : Int) kd22 ty3 rfl (fun j hj => by (have : j = 0 := by simpa [Enc.sz] using hj); subst this; rfl) rfl rfl (by decide) (need_t hu13) rfl fun b14 nd => ?_
      refine TL.nil ⟨_, [(b14, RL (α := Int) 3 (List.replicate drives2.toNat (0 : Int)))], rfl, rfl, HSub_app nd, ?_⟩
      refine DR1 (gc := true) rfl (vok_p (C := cx) (p_bld (l := [Enc.v (r12 : (List Int)), OL (α := Int) b14 (List.replicate drives2.toNat (0 : Int))]) ty65 rfl all65 rfl (fun _ => ⟨⟨rfl, trivial, rfl⟩, ⟨rfl, (refOK_of nd (j := 0) rfl rfl), rfl⟩, trivial⟩))) rfl rfl ?_
      refine DR2 rfl rfl ?_
      refine TL.boxO (C := cx) (lu := [Enc.v (r12 : (List Int)), OL (α := Int) b14 (List.replicate drives2.toNat (0 : Int))]) nd rfl (Cells_agg rfl (allA.mem ⟨trivial, oneA_rs (refOK_of nd (j := 0) rfl rfl), trivial⟩)) rfl fun b15 nd => ?_
      refine TL.nil ⟨_, [(b15, RV 65 [Enc.v (r12 : (List Int)), OL (α := Int) b14 (List.replicate drives2.toNat (0 : Int))]), (b14, RL (α := Int) 3 (List.replicate drives2.toNat (0 : Int)))], rfl, rfl, HSub_app nd, ?_⟩
      refine DR0 (gc := true) rfl (vok_p (C := cx) (p_mv rfl)) rfl rfl ?_
      refine DR0 (gc := true) rfl (vok_p (C := cx) (p_mv rfl)) rfl rfl ?_
      refine DRend ?_
      refine hK11 _ _ ?_
      refine TK.ret ?_
      try dsimp only [thenQ]
      exact retX (v := .tup 2 (ofL [.ref b15 0 2, Enc.v ((0 : Int) : Int)])) (resN (vs := [.ref b15 0 2, Enc.v ((0 : Int) : Int)]) ⟨rfl, rfl, trivial⟩) (by obtain rfl := some_in hX; exact ⟨b15, b14, rfl, rfl⟩) nd (inH_tup (l := [.ref b15 0 2, Enc.v ((0 : Int) : Int)]) ⟨inH_ref nd (j := 0) rfl, inH_val (v_val _), trivial⟩) ⟨rowIn_RV ⟨inH_val (v_val _), inH_rs nd (j := 1) rfl, trivial⟩, rowIn_RL, trivial⟩
    refine TK.iter [0, 1, 19, 20, 21] (fun s env h => match s with | x10 => ∃ _u : Unit, env = [(0, true, Enc.v (labels1 : (List Int))), (1, true, Enc.v (drives2 : Int)), (19, true, Enc.v (labels1 : (List Int))), (20, true, Enc.v ((labels1.length : Int) : Int)), (21, true, Enc.v (x10 : Int))] ∧ Nd [] ∧ HSub [] h) hO9 ⟨(), rfl, Nd_nil, HSub.refl _⟩ ?_
    rintro x10 env h x9x ⟨_u, rfl, nd, hs⟩ hX hR9
    refine TK.subH hs ?_
    unfold X.shelf_New_s9 at hX
    try dsimp only at hX
    refine TK.seq_k fun K16 hK16 => ?_
    refine TK.reg ?_
    refine TL.p (C := cx) (gc := true) (p_lss rfl rfl) rfl rfl ?_
    refine TL.nil ?_
    refine hK16 _ _ ?_
    refine TK.seq_k fun K17 hK17 => ?_
    refine TK.cond (b := (decide (x10 < (labels1.length : Int)))) rfl (fun hc => ?_) (fun hc => ?_)
    · have hX := ite_t hc hX
      refine TK.skip ?_
      refine hK17 _ _ ?_
      refine TK.seq_k fun K18 hK18 => ?_
      refine TK.block ?_
      refine TK.seq_k fun K19 hK19 => ?_
      refine TK.reg ?_
      refine TL.p (C := cx) (gc := true) (p_mv rfl) rfl rfl ?_
      obtain ⟨e20, he20, hX⟩ := bind_some hX
      refine TL.p (C := cx) (gc := true) (p_iaL (xs := labels1) kd22 ty3 rfl rfl rfl (fun _ => he20)) rfl rfl ?_
      refine TL.p (C := cx) (gc := true) (p_ldE (xs := labels1) (a := e20) (e20 : Int) ty3 rfl rfl (fun _ => he20) rfl rfl rfl) rfl rfl ?_
      refine TL.p (C := cx) (gc := true) (p_mv rfl) rfl rfl ?_
      refine TL.p (C := cx) (gc := true) (p_mv rfl) rfl rfl ?_
      refine TL.nil ?_
      refine hK19 _ _ ?_
      refine TK.seq_k fun K21 hK21 => ?_
      refine TK.reg ?_
      refine TL.p (C := cx) (gc := true) (p_mv rfl) rfl rfl ?_
      refine TL.p (C := cx) (gc := true) (p_lss rfl rfl) rfl rfl ?_
      refine TL.p (C := cx) (gc := true) (p_mv rfl) rfl rfl ?_
      refine TL.p (C := cx) (gc := (!((decide (e20 < (1 : Int)))))) (p_mv rfl (hg := fun e => rfl)) (gcF1 rfl) rfl ?_
      refine TL.p (C := cx) (gc := (!((decide (e20 < (1 : Int)))))) (p_mv rfl (hg := fun e => rfl)) (gcF1 rfl) rfl ?_
      obtain ⟨u22, hu22, hX⟩ := bind_some hX
      refine TL.p (C := cx) (gc := (!((decide (e20 < (1 : Int)))))) (p_sliL (xs := labels1) (l := (0 : Int)) (k := x10) kd22 ty3 rfl rfl rfl rfl (fun e => need_t (optG_t hu22 e)) (hg := fun e => ⟨e, rfl, e⟩)) (gcF1 rfl) rfl ?_
      refine TL.p (C := cx) (gc := (!((decide (e20 < (1 : Int)))))) (p_mv rfl (hg := fun e => rfl)) (gcF1 rfl) rfl ?_
      obtain ⟨r23, hr23, hX⟩ := bind_some hX
      refine TL.cvX (gcF1 rfl) rfl rfl (fun e => ⟨rfl, ⟨e, ⟨e, trivial⟩⟩⟩) (fun e => ok_slices_Contains_Lint_int (slc labels1 (0 : Int) x10) e20 _ (optG_t hr23 e)) ?_
      refine TL.p (C := cx) (gc := true) (p_or rfl rfl (fun e => ⟨rfl, fun h => (not_t h)⟩)) rfl rfl ?_
      refine TL.nil ?_
      refine hK21 _ _ ?_
      refine TK.cond (b := ((decide (e20 < (1 : Int))) || r23)) rfl (fun hc => ?_) (fun hc => ?_)
      · have hX := ite_t hc hX
        refine TK.seq_k fun K24 hK24 => ?_
        refine TK.reg ?_
        refine TL.p (C := cx) (gc := true) (p_mv rfl) rfl rfl ?_
        refine TL.p (C := cx) (gc := true) (p_mv rfl) rfl rfl ?_
        refine TL.nil ?_
        refine hK24 _ _ ?_
        refine TK.ret ?_
        obtain rfl := hR9 _ (some_in hX).symm
        replace hX := hA9
        try dsimp only [thenQ]
        exact retX (v := .tup 2 (ofL [.nilp, Enc.v ((1 : Int) : Int)])) (resN (vs := [.nilp, Enc.v ((1 : Int) : Int)]) ⟨rfl, rfl, trivial⟩) (by obtain rfl := some_in hX; exact ⟨rfl, rfl⟩) nd (inH_tup (l := [.nilp, Enc.v ((1 : Int) : Int)]) ⟨trivial, inH_val (v_val _), trivial⟩) trivial
      · have hX := ite_f hc hX
        refine TK.skip ?_
        refine hK18 _ _ ?_
        refine TK.reg ?_
        refine TL.p (C := cx) (gc := true) (p_add rfl rfl) rfl rfl ?_
        refine TL.p (C := cx) (gc := true) (p_mv rfl) rfl rfl ?_
        refine TL.nil ?_
        exact ⟨_, (some_in hX).symm, (), rfl, Nd_nil, HSub.refl _⟩
    · have hX := ite_f hc hX
      refine TK.exit ?_
      obtain rfl := hR9 _ (some_in hX).symm
      exact E9 _ _ ⟨(), rfl, Nd_nil, HSub.refl _⟩ hA9

/-- cartridge/cartridgelaw22.num -/
theorem ok_cartridgelaw22_num (e1 : Int) (r : Int) (hX : X.cartridgelaw22_num e1 = some r) : Fun Try.prog 24 [Enc.v (e1 : Int)] (· = Enc.v (r : Int)) := by
  refine Fun.of b24 (Nat.le_of_ble_eq_true rfl) (allVal.mem ⟨(by exact (v_val _)), trivial⟩) ?_
  unfold k24
  have nd : Nd [] := Nd_nil
  unfold X.cartridgelaw22_num at hX
  refine TK.seq_k fun K2 hK2 => ?_
  refine TK.reg ?_
  refine TL.p (C := cx) (gc := true) (p_mv rfl) rfl rfl ?_
  refine TL.nil ?_
  refine hK2 _ _ ?_
  refine TK.seq_k fun K3 hK3 => ?_
  refine TK.reg ?_
  refine TL.p (C := cx) (gc := true) (p_mv rfl) rfl rfl ?_
  refine TL.p (C := cx) (gc := true) (p_mv rfl) rfl rfl ?_
  refine TL.nil ?_
  refine hK3 _ _ ?_
  refine TK.ret ?_
  try dsimp only [thenQ]
  exact ret1 (v := Enc.v (e1 : Int)) rfl (by obtain rfl := some_in hX; rfl) (v_val _)

/-- (*cartridge/shelf.Shelf).is -/
theorem ok_shelf_Shelf_is (labels1 : (List Int)) (drives2 : (List Int)) (label3 : Int) (r : Bool) (hX : X.shelf_Shelf_is labels1 drives2 label3 = some r) : Fun Try.prog 41 [.vref (ofL [Enc.v (labels1 : (List Int)), Enc.v (drives2 : (List Int))]) 2 0, Enc.v (label3 : Int)] (· = Enc.v (r : Bool)) := by
  refine Fun.of b41 (Nat.le_of_ble_eq_true rfl) (allVal.mem ⟨(by exact (vref_val (l := [Enc.v (labels1 : (List Int)), Enc.v (drives2 : (List Int))]) rfl ⟨(v_val _), (v_val _), trivial⟩)), (by exact (v_val _)), trivial⟩) ?_
  unfold k41
  have nd : Nd [] := Nd_nil
  unfold X.shelf_Shelf_is at hX
  refine TK.seq_k fun K4 hK4 => ?_
  refine TK.reg ?_
  refine TL.p (C := cx) (gc := true) (p_mv rfl) rfl rfl ?_
  refine TL.nil ?_
  refine hK4 _ _ ?_
  refine TK.seq_k fun K5 hK5 => ?_
  refine TK.reg ?_
  refine TL.p (C := cx) (gc := true) (p_mv rfl) rfl rfl ?_
  refine TL.p (C := cx) (gc := true) (p_neV kd48 rfl rfl) rfl rfl ?_
  refine TL.p (C := cx) (gc := true) (p_mv rfl) rfl rfl ?_
  refine TL.guardT rfl ?_
  refine TL.p (C := cx) (gc := true) (p_mv rfl) rfl rfl ?_
  refine TL.guardT rfl ?_
  refine TL.p (C := cx) (gc := true) (p_ncV rfl) rfl rfl ?_
  refine TL.guardT rfl ?_
  refine TL.p (C := cx) (gc := true) (p_faR fs65_0 (by decide) rfl) rfl rfl ?_
  refine TL.guardT rfl ?_
  refine TL.p (C := cx) (gc := true) (p_ldR (v := Enc.v (labels1 : (List Int))) ty22 rfl rfl rfl rfl rfl rfl) rfl rfl ?_
  refine TL.guardT rfl ?_
  refine TL.p (C := cx) (gc := true) (p_mv rfl) rfl rfl ?_
  obtain ⟨r6, hr6, hX⟩ := bind_some hX
  refine TL.guardT rfl ?_
  refine TL.cvX rfl rfl rfl (fun _ => ⟨rfl, ⟨rfl, ⟨rfl, trivial⟩⟩⟩) (fun e => ok_slices_Contains_Lint_int labels1 label3 _ hr6) ?_
  refine TL.p (C := cx) (gc := true) (p_and rfl rfl (fun e => ⟨rfl, fun h => rfl⟩)) rfl rfl ?_
  refine TL.p (C := cx) (gc := true) (p_mv rfl) rfl rfl ?_
  refine TL.nil ?_
  refine hK5 _ _ ?_
  refine TK.ret ?_
  try dsimp only [thenQ]
  exact ret1 (v := Enc.v (r6 : Bool)) rfl (by obtain rfl := some_in hX; rfl) (v_val _)

/-- (*cartridge/shelf.Shelf).Drive -/
theorem ok_shelf_Shelf_Drive (labels1 : (List Int)) (drives2 : (List Int)) (label3 : Int) (r : Int) (hX : X.shelf_Shelf_Drive labels1 drives2 label3 = some r) : Fun Try.prog 31 [.vref (ofL [Enc.v (labels1 : (List Int)), Enc.v (drives2 : (List Int))]) 2 0, Enc.v (label3 : Int)] (· = Enc.v (r : Int)) := by
  refine Fun.of b31 (Nat.le_of_ble_eq_true rfl) (allVal.mem ⟨(by exact (vref_val (l := [Enc.v (labels1 : (List Int)), Enc.v (drives2 : (List Int))]) rfl ⟨(v_val _), (v_val _), trivial⟩)), (by exact (v_val _)), trivial⟩) ?_
  unfold k31
  have nd : Nd [] := Nd_nil
  unfold X.shelf_Shelf_Drive at hX
  refine TK.seq_k fun K4 hK4 => ?_
  refine TK.reg ?_
  refine TL.p (C := cx) (gc := true) (p_mv rfl) rfl rfl ?_
  refine TL.nil ?_
  refine hK4 _ _ ?_
  refine TK.seq_k fun K5 hK5 => ?_
  refine TK.seq_k fun K6 hK6 => ?_
  refine TK.reg ?_
  refine TL.p (C := cx) (gc := true) (p_mv rfl) rfl rfl ?_
  refine TL.p (C := cx) (gc := true) (p_mv rfl) rfl rfl ?_
  obtain ⟨r7, hr7, hX⟩ := bind_some hX
  refine TL.cvX rfl rfl rfl (fun _ => ⟨rfl, ⟨rfl, ⟨rfl, trivial⟩⟩⟩) (fun e => ok_shelf_Shelf_is labels1 drives2 label3 _ hr7) ?_
  refine TL.p (C := cx) (gc := true) (p_not rfl) rfl rfl ?_
  refine TL.nil ?_
  refine hK6 _ _ ?_
  refine TK.cond (b := (!r7)) rfl (fun hc => ?_) (fun hc => ?_)
  · have hX := ite_t hc hX
    refine TK.seq_k fun K8 hK8 => ?_
    refine TK.reg ?_
    refine TL.p (C := cx) (gc := true) (p_mv rfl) rfl rfl ?_
    refine TL.nil ?_
    refine hK8 _ _ ?_
    refine TK.ret ?_
    try dsimp only [thenQ]
    exact ret1 (v := Enc.v (((-1) : Int) : Int)) rfl (by obtain rfl := some_in hX; rfl) (v_val _)
  · have hX := ite_f hc hX
    refine TK.skip ?_
    refine hK5 _ _ ?_
    refine TK.seq_k fun K9 hK9 => ?_
    refine TK.reg ?_
    refine TL.p (C := cx) (gc := true) (p_mv rfl) rfl rfl ?_
    refine TL.p (C := cx) (gc := true) (p_ncV rfl) rfl rfl ?_
    refine TL.p (C := cx) (gc := true) (p_faR fs65_1 (by decide) rfl) rfl rfl ?_
    refine TL.p (C := cx) (gc := true) (p_ldR (v := Enc.v (drives2 : (List Int))) ty22 rfl rfl rfl rfl rfl rfl) rfl rfl ?_
    refine TL.p (C := cx) (gc := true) (p_mv rfl) rfl rfl ?_
    obtain ⟨r10, hr10, hX⟩ := bind_some hX
    refine TL.cvX rfl rfl rfl (fun _ => ⟨rfl, ⟨rfl, ⟨rfl, trivial⟩⟩⟩) (fun e => ok_slices_Index_Lint_int drives2 label3 _ hr10) ?_
    refine TL.p (C := cx) (gc := true) (p_mv rfl) rfl rfl ?_
    refine TL.nil ?_
    refine hK9 _ _ ?_
    refine TK.ret ?_
    try dsimp only [thenQ]
    exact ret1 (v := Enc.v (r10 : Int)) rfl (by obtain rfl := some_in hX; rfl) (v_val _)

/-- (*cartridge/shelf.Shelf).Slot -/
theorem ok_shelf_Shelf_Slot (labels1 : (List Int)) (drives2 : (List Int)) (label3 : Int) (r : Int) (hX : X.shelf_Shelf_Slot labels1 drives2 label3 = some r) : Fun Try.prog 29 [.vref (ofL [Enc.v (labels1 : (List Int)), Enc.v (drives2 : (List Int))]) 2 0, Enc.v (label3 : Int)] (· = Enc.v (r : Int)) := by
  refine Fun.of b29 (Nat.le_of_ble_eq_true rfl) (allVal.mem ⟨(by exact (vref_val (l := [Enc.v (labels1 : (List Int)), Enc.v (drives2 : (List Int))]) rfl ⟨(v_val _), (v_val _), trivial⟩)), (by exact (v_val _)), trivial⟩) ?_
  unfold k29
  have nd : Nd [] := Nd_nil
  unfold X.shelf_Shelf_Slot at hX
  refine TK.seq_k fun K4 hK4 => ?_
  refine TK.reg ?_
  refine TL.p (C := cx) (gc := true) (p_mv rfl) rfl rfl ?_
  refine TL.nil ?_
  refine hK4 _ _ ?_
  refine TK.seq_k fun K5 hK5 => ?_
  refine TK.seq_k fun K6 hK6 => ?_
  refine TK.reg ?_
  refine TL.p (C := cx) (gc := true) (p_mv rfl) rfl rfl ?_
  refine TL.p (C := cx) (gc := true) (p_mv rfl) rfl rfl ?_
  obtain ⟨r7, hr7, hX⟩ := bind_some hX
  refine TL.cvX rfl rfl rfl (fun _ => ⟨rfl, ⟨rfl, ⟨rfl, trivial⟩⟩⟩) (fun e => ok_shelf_Shelf_is labels1 drives2 label3 _ hr7) ?_
  refine TL.p (C := cx) (gc := true) (p_not rfl) rfl rfl ?_
  refine TL.p (C := cx) (gc := true) (p_mv rfl) rfl rfl ?_
  refine TL.p (C := cx) (gc := (!((!r7)))) (p_mv rfl (hg := fun e => rfl)) (gcF1 rfl) rfl ?_
  refine TL.p (C := cx) (gc := (!((!r7)))) (p_mv rfl (hg := fun e => rfl)) (gcF1 rfl) rfl ?_
  obtain ⟨r8, hr8, hX⟩ := bind_some hX
  refine TL.cvX (gcF1 rfl) rfl rfl (fun e => ⟨rfl, ⟨e, ⟨e, trivial⟩⟩⟩) (fun e => ok_shelf_Shelf_Drive labels1 drives2 label3 _ (optG_t hr8 e)) ?_
  refine TL.p (C := cx) (gc := (!((!r7)))) (p_neq rfl rfl (hg := fun e => ⟨e, rfl⟩)) (gcF1 rfl) rfl ?_
  refine TL.p (C := cx) (gc := true) (p_or rfl rfl (fun e => ⟨rfl, fun h => (not_t h)⟩)) rfl rfl ?_
  refine TL.nil ?_
  refine hK6 _ _ ?_
  refine TK.cond (b := ((!r7) || (r8 != ((-1) : Int)))) rfl (fun hc => ?_) (fun hc => ?_)
  · have hX := ite_t hc hX
    refine TK.seq_k fun K9 hK9 => ?_
    refine TK.reg ?_
    refine TL.p (C := cx) (gc := true) (p_mv rfl) rfl rfl ?_
    refine TL.nil ?_
    refine hK9 _ _ ?_
    refine TK.ret ?_
    try dsimp only [thenQ]
    exact ret1 (v := Enc.v (((-1) : Int) : Int)) rfl (by obtain rfl := some_in hX; rfl) (v_val _)
  · have hX := ite_f hc hX
    refine TK.skip ?_
    refine hK5 _ _ ?_
    refine TK.seq_k fun K10 hK10 => ?_
    refine TK.reg ?_
    refine TL.p (C := cx) (gc := true) (p_mv rfl) rfl rfl ?_
    refine TL.p (C := cx) (gc := true) (p_ncV rfl) rfl rfl ?_
    refine TL.p (C := cx) (gc := true) (p_faR fs65_0 (by decide) rfl) rfl rfl ?_
    refine TL.p (C := cx) (gc := true) (p_ldR (v := Enc.v (labels1 : (List Int))) ty22 rfl rfl rfl rfl rfl rfl) rfl rfl ?_
    refine TL.p (C := cx) (gc := true) (p_mv rfl) rfl rfl ?_
    obtain ⟨r11, hr11, hX⟩ := bind_some hX
    refine TL.cvX rfl rfl rfl (fun _ => ⟨rfl, ⟨rfl, ⟨rfl, trivial⟩⟩⟩) (fun e => ok_slices_Index_Lint_int labels1 label3 _ hr11) ?_
    refine TL.p (C := cx) (gc := true) (p_mv rfl) rfl rfl ?_
    refine TL.nil ?_
    refine hK10 _ _ ?_
    refine TK.ret ?_
    try dsimp only [thenQ]
    exact ret1 (v := Enc.v (r11 : Int)) rfl (by obtain rfl := some_in hX; rfl) (v_val _)

/-- (*cartridge/shelf.Shelf).drive -/
theorem ok_shelf_Shelf_drive (labels1 : (List Int)) (drives2 : (List Int)) (i3 : Int) (r : Bool) (hX : X.shelf_Shelf_drive labels1 drives2 i3 = some r) : Fun Try.prog 42 [.vref (ofL [Enc.v (labels1 : (List Int)), Enc.v (drives2 : (List Int))]) 2 0, Enc.v (i3 : Int)] (· = Enc.v (r : Bool)) := by
  refine Fun.of b42 (Nat.le_of_ble_eq_true rfl) (allVal.mem ⟨(by exact (vref_val (l := [Enc.v (labels1 : (List Int)), Enc.v (drives2 : (List Int))]) rfl ⟨(v_val _), (v_val _), trivial⟩)), (by exact (v_val _)), trivial⟩) ?_
  unfold k42
  have nd : Nd [] := Nd_nil
  unfold X.shelf_Shelf_drive at hX
  refine TK.seq_k fun K4 hK4 => ?_
  refine TK.reg ?_
  refine TL.p (C := cx) (gc := true) (p_mv rfl) rfl rfl ?_
  refine TL.nil ?_
  refine hK4 _ _ ?_
  refine TK.seq_k fun K5 hK5 => ?_
  refine TK.reg ?_
  refine TL.p (C := cx) (gc := true) (p_mv rfl) rfl rfl ?_
  refine TL.p (C := cx) (gc := true) (p_neV kd48 rfl rfl) rfl rfl ?_
  refine TL.p (C := cx) (gc := true) (p_mv rfl) rfl rfl ?_
  refine TL.guardT rfl ?_
  refine TL.p (C := cx) (gc := true) (p_mv rfl) rfl rfl ?_
  refine TL.guardT rfl ?_
  refine TL.p (C := cx) (gc := true) (p_geq rfl rfl) rfl rfl ?_
  refine TL.p (C := cx) (gc := true) (p_and rfl rfl (fun e => ⟨rfl, fun h => rfl⟩)) rfl rfl ?_
  refine TL.p (C := cx) (gc := true) (p_mv rfl) rfl rfl ?_
  refine TL.p (C := cx) (gc := ((decide (i3 ≥ (0 : Int))))) (p_mv rfl (hg := fun e => rfl)) (gcT1 rfl) rfl ?_
  refine TL.p (C := cx) (gc := ((decide (i3 ≥ (0 : Int))))) (p_mv rfl (hg := fun e => rfl)) (gcT1 rfl) rfl ?_
  refine TL.p (C := cx) (gc := ((decide (i3 ≥ (0 : Int))))) (p_ncV rfl (hg := fun e => e)) (gcT1 rfl) rfl ?_
  refine TL.p (C := cx) (gc := ((decide (i3 ≥ (0 : Int))))) (p_faR fs65_1 (by decide) rfl (hg := fun e => e)) (gcT1 rfl) rfl ?_
  refine TL.p (C := cx) (gc := ((decide (i3 ≥ (0 : Int))))) (p_ldR (v := Enc.v (drives2 : (List Int))) ty22 rfl rfl rfl rfl rfl rfl (hg := fun e => e)) (gcT1 rfl) rfl ?_
  refine TL.p (C := cx) (gc := ((decide (i3 ≥ (0 : Int))))) (p_lenL (xs := drives2) kd22 rfl (hg := fun e => e)) (gcT1 rfl) rfl ?_
  refine TL.p (C := cx) (gc := ((decide (i3 ≥ (0 : Int))))) (p_lss rfl rfl (hg := fun e => ⟨e, e⟩)) (gcT1 rfl) rfl ?_
  refine TL.p (C := cx) (gc := true) (p_and rfl rfl (fun e => ⟨rfl, fun h => h⟩)) rfl rfl ?_
  refine TL.p (C := cx) (gc := true) (p_mv rfl) rfl rfl ?_
  refine TL.nil ?_
  refine hK5 _ _ ?_
  refine TK.ret ?_
  try dsimp only [thenQ]
  exact ret1 (v := Enc.v (((decide (i3 ≥ (0 : Int))) && (decide (i3 < (drives2.length : Int)))) : Bool)) rfl (by obtain rfl := some_in hX; rfl) (v_val _)

/-- (*cartridge/shelf.Shelf).Move -/
theorem ok_shelf_Shelf_Move (label5 : Int) (drive6 : Int) (labels1 : (List Int)) (drives2 : (List Int)) (b3 : Nat) (b4 : Nat) (nd : Nd [(b3, RV 65 [Enc.v (labels1 : (List Int)), OL (α := Int) b4 drives2]), (b4, RL (α := Int) 3 drives2)]) (r : (Int × ((List Int) × (List Int)))) (hX : X.shelf_Shelf_Move label5 drive6 labels1 drives2 = some r) : TCX Try.prog 25 [.ref b3 0 2, Enc.v (label5 : Int), Enc.v (drive6 : Int)] [(b3, RV 65 [Enc.v (labels1 : (List Int)), OL (α := Int) b4 drives2]), (b4, RL (α := Int) 3 drives2)] (fun rv h' => ∃ b21, rv = Enc.v (r.1 : Int) ∧ h' = [(b3, RV 65 [Enc.v (r.2.1 : (List Int)), OL (α := Int) b21 r.2.2]), (b21, RL (α := Int) 3 r.2.2)]) := by
  refine TCX.of b25 (Nat.le_of_ble_eq_true rfl) ?_
  unfold k25
  unfold X.shelf_Shelf_Move at hX
  refine TK.seq_k fun K7 hK7 => ?_
  refine TK.reg ?_
  refine TL.p (C := cx) (gc := true) (p_mv rfl) rfl rfl ?_
  refine TL.nil ?_
  refine hK7 _ _ ?_
  refine TK.seq_k fun K8 hK8 => ?_
  refine TK.block ?_
  refine TK.seq_k fun K9 hK9 => ?_
  refine TK.reg ?_
  refine TL.p (C := cx) (gc := true) (p_mv rfl) rfl rfl ?_
  refine TL.p (C := cx) (gc := true) (p_mv rfl) rfl rfl ?_
  obtain ⟨r10, hr10, hX⟩ := bind_some hX
  refine TL.lookX [.vref (ofL [Enc.v (labels1 : (List Int)), Enc.v (drives2 : (List Int))]) 2 0, Enc.v (label5 : Int)] rfl rfl rfl (fun _ => ⟨rfl, ⟨rfl, ⟨rfl, trivial⟩⟩⟩) ⟨look_ref (l := [Enc.v (labels1 : (List Int)), OL (α := Int) b4 drives2]) nd (j := 0) rfl ⟨look_v (v := Enc.v (labels1 : (List Int))) (v_val _), look_OL nd (j := 1) rfl, trivial⟩, look_v (v := Enc.v (label5 : Int)) (v_val _), trivial⟩ (fun e => ok_shelf_Shelf_is labels1 drives2 label5 _ hr10) (trivial) ?_
  refine TL.p (C := cx) (gc := true) (p_not rfl) rfl rfl ?_
  refine TL.p (C := cx) (gc := true) (p_mv rfl) rfl rfl ?_
  refine TL.p (C := cx) (gc := (!((!r10)))) (p_mv rfl (hg := fun e => rfl)) (gcF1 rfl) rfl ?_
  refine TL.p (C := cx) (gc := (!((!r10)))) (p_mv rfl (hg := fun e => rfl)) (gcF1 rfl) rfl ?_
  obtain ⟨r11, hr11, hX⟩ := bind_some hX
  refine TL.lookX [.vref (ofL [Enc.v (labels1 : (List Int)), Enc.v (drives2 : (List Int))]) 2 0, Enc.v (drive6 : Int)] (gcF1 rfl) rfl rfl (fun e => ⟨rfl, ⟨e, ⟨e, trivial⟩⟩⟩) ⟨look_ref (l := [Enc.v (labels1 : (List Int)), OL (α := Int) b4 drives2]) nd (j := 0) rfl ⟨look_v (v := Enc.v (labels1 : (List Int))) (v_val _), look_OL nd (j := 1) rfl, trivial⟩, look_v (v := Enc.v (drive6 : Int)) (v_val _), trivial⟩ (fun e => ok_shelf_Shelf_drive labels1 drives2 drive6 _ (optG_t hr11 e)) (trivial) ?_
  refine TL.p (C := cx) (gc := (!((!r10)))) (p_not rfl (hg := fun e => e)) (gcF1 rfl) rfl ?_
  refine TL.p (C := cx) (gc := true) (p_or rfl rfl (fun e => ⟨rfl, fun h => (not_t h)⟩)) rfl rfl ?_
  refine TL.p (C := cx) (gc := true) (p_mv rfl) rfl rfl ?_
  refine TL.nil ?_
  refine hK9 _ _ ?_
  refine TK.cond (b := ((!r10) || (!r11))) rfl (fun hc => ?_) (fun hc => ?_)
  · have hX := ite_t hc hX
    refine TK.seq_k fun K12 hK12 => ?_
    refine TK.reg ?_
    refine TL.p (C := cx) (gc := true) (p_mv rfl) rfl rfl ?_
    refine TL.nil ?_
    refine hK12 _ _ ?_
    refine TK.ret ?_
    try dsimp only [thenQ]
    exact retX (v := Enc.v ((1 : Int) : Int)) (res1 rfl) (by obtain rfl := some_in hX; exact ⟨b4, rfl, rfl⟩) nd (inH_val (v_val _)) ⟨rowIn_RV ⟨inH_val (v_val _), inH_rs nd (j := 1) rfl, trivial⟩, rowIn_RL, trivial⟩
  · have hX := ite_f hc hX
    refine TK.seq_k fun K13 hK13 => ?_
    refine TK.reg ?_
    refine TL.p (C := cx) (gc := true) (p_mv rfl) rfl rfl ?_
    refine TL.p (C := cx) (gc := true) (p_mv rfl) rfl rfl ?_
    obtain ⟨r14, hr14, hX⟩ := bind_some hX
    refine TL.lookX [.vref (ofL [Enc.v (labels1 : (List Int)), Enc.v (drives2 : (List Int))]) 2 0, Enc.v (label5 : Int)] rfl rfl rfl (fun _ => ⟨rfl, ⟨rfl, ⟨rfl, trivial⟩⟩⟩) ⟨look_ref (l := [Enc.v (labels1 : (List Int)), OL (α := Int) b4 drives2]) nd (j := 0) rfl ⟨look_v (v := Enc.v (labels1 : (List Int))) (v_val _), look_OL nd (j := 1) rfl, trivial⟩, look_v (v := Enc.v (label5 : Int)) (v_val _), trivial⟩ (fun e => ok_shelf_Shelf_Drive labels1 drives2 label5 _ hr14) (trivial) ?_
    refine TL.p (C := cx) (gc := true) (p_neq rfl rfl) rfl rfl ?_
    refine TL.p (C := cx) (gc := true) (p_mv rfl) rfl rfl ?_
    refine TL.p (C := cx) (gc := (!((r14 != ((-1) : Int))))) (p_mv rfl (hg := fun e => rfl)) (gcF1 rfl) rfl ?_
    refine TL.p (C := cx) (gc := (!((r14 != ((-1) : Int))))) (p_ncR rfl (fun _ => refOK_of nd (j := 0) rfl rfl) (hg := fun e => e)) (gcF1 rfl) rfl ?_
    refine TL.p (C := cx) (gc := (!((r14 != ((-1) : Int))))) (p_faV fs65_1 (by decide) rfl nd (j := 0) rfl rfl (hg := fun e => e)) (gcF1 rfl) rfl ?_
    refine TL.p (C := cx) (gc := (!((r14 != ((-1) : Int))))) (p_ldV (v := OL (α := Int) b4 drives2) ty22 rfl rfl nd (j := 0) rfl rfl rfl rfl rfl (hg := fun e => e)) (gcF1 rfl) rfl ?_
    refine TL.p (C := cx) (gc := (!((r14 != ((-1) : Int))))) (p_mv rfl (hg := fun e => rfl)) (gcF1 rfl) rfl ?_
    obtain ⟨e15, he15, hX⟩ := bind_some hX
    refine TL.p (C := cx) (gc := (!((r14 != ((-1) : Int))))) (p_iaO (xs := drives2) kd22 ty3 rfl rfl rfl nd (j := 1) rfl (fun e => optG_t he15 e) (hg := fun e => ⟨e, e⟩)) (gcF1 rfl) rfl ?_
    refine TL.p (C := cx) (gc := (!((r14 != ((-1) : Int))))) (p_ldO (xs := drives2) (a := e15) (e15 : Int) ty3 rfl rfl nd (j := 1) rfl (fun e => optG_t he15 e) rfl rfl rfl (hg := fun e => e)) (gcF1 rfl) rfl ?_
    refine TL.p (C := cx) (gc := (!((r14 != ((-1) : Int))))) (p_neq rfl rfl (hg := fun e => ⟨e, rfl⟩)) (gcF1 rfl) rfl ?_
    refine TL.p (C := cx) (gc := true) (p_or rfl rfl (fun e => ⟨rfl, fun h => (not_t h)⟩)) rfl rfl ?_
    refine TL.p (C := cx) (gc := true) (p_mv rfl) rfl rfl ?_
    refine TL.nil ?_
    refine hK13 _ _ ?_
    refine TK.cond (b := ((r14 != ((-1) : Int)) || (e15 != (0 : Int)))) rfl (fun hc => ?_) (fun hc => ?_)
    · have hX := ite_t hc hX
      refine TK.seq_k fun K16 hK16 => ?_
      refine TK.reg ?_
      refine TL.p (C := cx) (gc := true) (p_mv rfl) rfl rfl ?_
      refine TL.nil ?_
      refine hK16 _ _ ?_
      refine TK.ret ?_
      try dsimp only [thenQ]
      exact retX (v := Enc.v ((11 : Int) : Int)) (res1 rfl) (by obtain rfl := some_in hX; exact ⟨b4, rfl, rfl⟩) nd (inH_val (v_val _)) ⟨rowIn_RV ⟨inH_val (v_val _), inH_rs nd (j := 1) rfl, trivial⟩, rowIn_RL, trivial⟩
    · have hX := ite_f hc hX
      refine TK.skip ?_
      refine hK8 _ _ ?_
      refine TK.seq_k fun K17 hK17 => ?_
      refine TK.reg ?_
      refine TL.p (C := cx) (gc := true) (p_mv rfl) rfl rfl ?_
      refine TL.p (C := cx) (gc := true) (p_ncR rfl (fun _ => refOK_of nd (j := 0) rfl rfl)) rfl rfl ?_
      refine TL.p (C := cx) (gc := true) (p_faV fs65_1 (by decide) rfl nd (j := 0) rfl rfl) rfl rfl ?_
      refine TL.p (C := cx) (gc := true) (p_ldV (v := OL (α := Int) b4 drives2) ty22 rfl rfl nd (j := 0) rfl rfl rfl rfl rfl) rfl rfl ?_
      refine TL.p (C := cx) (gc := true) (p_mv rfl) rfl rfl ?_
      refine TL.p (C := cx) (gc := true) (p_mv rfl) rfl rfl ?_
      obtain ⟨e18, he18, hX⟩ := bind_some hX
      refine TL.p (C := cx) (gc := true) (p_iaO (xs := drives2) kd22 ty3 rfl rfl rfl nd (j := 1) rfl (fun _ => he18)) rfl rfl ?_
      refine TL.stW (C := cx) (xs := drives2) (i := drive6) (lu := Enc.cl (label5 : Int)) (a' := label5) nd ty3 rfl (j := 1) rfl (by simp [Enc.sz]) (inb_of he18 (by simp)) rfl (Cells_v (label5 : Int)) rfl (WkL_refl _) fun nd => ?_
      refine TL.cvR nd (j := 0) rfl (l' := [Enc.v (labels1 : (List Int)), OL (α := Int) b4 (drives2.set drive6.toNat label5)]) ⟨Wk.refl _, Wk_eq (OL_len (by simp)), trivial⟩ fun nd => ?_
      refine TL.nil ?_
      refine hK17 _ _ ?_
      refine TK.seq_k fun K19 hK19 => ?_
      refine TK.reg ?_
      refine TL.p (C := cx) (gc := true) (p_mv rfl) rfl rfl ?_
      refine TL.nil ?_
      refine hK19 _ _ ?_
      refine TK.ret ?_
      try dsimp only [thenQ]
      exact retX (v := Enc.v ((0 : Int) : Int)) (res1 rfl) (by obtain rfl := some_in hX; exact ⟨b4, rfl, rfl⟩) nd (inH_val (v_val _)) ⟨rowIn_RV ⟨inH_val (v_val _), inH_rs nd (j := 1) rfl, trivial⟩, rowIn_RL, trivial⟩

/-- (*cartridge/shelf.Shelf).Mounted -/
theorem ok_shelf_Shelf_Mounted (labels1 : (List Int)) (drives2 : (List Int)) (drive3 : Int) (r : Int) (hX : X.shelf_Shelf_Mounted labels1 drives2 drive3 = some r) : Fun Try.prog 33 [.vref (ofL [Enc.v (labels1 : (List Int)), Enc.v (drives2 : (List Int))]) 2 0, Enc.v (drive3 : Int)] (· = Enc.v (r : Int)) := by
  refine Fun.of b33 (Nat.le_of_ble_eq_true rfl) (allVal.mem ⟨(by exact (vref_val (l := [Enc.v (labels1 : (List Int)), Enc.v (drives2 : (List Int))]) rfl ⟨(v_val _), (v_val _), trivial⟩)), (by exact (v_val _)), trivial⟩) ?_
  unfold k33
  have nd : Nd [] := Nd_nil
  unfold X.shelf_Shelf_Mounted at hX
  refine TK.seq_k fun K4 hK4 => ?_
  refine TK.reg ?_
  refine TL.p (C := cx) (gc := true) (p_mv rfl) rfl rfl ?_
  refine TL.nil ?_
  refine hK4 _ _ ?_
  refine TK.seq_k fun K5 hK5 => ?_
  refine TK.seq_k fun K6 hK6 => ?_
  refine TK.reg ?_
  refine TL.p (C := cx) (gc := true) (p_mv rfl) rfl rfl ?_
  refine TL.p (C := cx) (gc := true) (p_mv rfl) rfl rfl ?_
  obtain ⟨r7, hr7, hX⟩ := bind_some hX
  refine TL.cvX rfl rfl rfl (fun _ => ⟨rfl, ⟨rfl, ⟨rfl, trivial⟩⟩⟩) (fun e => ok_shelf_Shelf_drive labels1 drives2 drive3 _ hr7) ?_
  refine TL.p (C := cx) (gc := true) (p_not rfl) rfl rfl ?_
  refine TL.nil ?_
  refine hK6 _ _ ?_
  refine TK.cond (b := (!r7)) rfl (fun hc => ?_) (fun hc => ?_)
  · have hX := ite_t hc hX
    refine TK.seq_k fun K8 hK8 => ?_
    refine TK.reg ?_
    refine TL.p (C := cx) (gc := true) (p_mv rfl) rfl rfl ?_
    refine TL.nil ?_
    refine hK8 _ _ ?_
    refine TK.ret ?_
    try dsimp only [thenQ]
    exact ret1 (v := Enc.v ((0 : Int) : Int)) rfl (by obtain rfl := some_in hX; rfl) (v_val _)
  · have hX := ite_f hc hX
    refine TK.skip ?_
    refine hK5 _ _ ?_
    refine TK.seq_k fun K9 hK9 => ?_
    refine TK.reg ?_
    refine TL.p (C := cx) (gc := true) (p_mv rfl) rfl rfl ?_
    refine TL.p (C := cx) (gc := true) (p_ncV rfl) rfl rfl ?_
    refine TL.p (C := cx) (gc := true) (p_faR fs65_1 (by decide) rfl) rfl rfl ?_
    refine TL.p (C := cx) (gc := true) (p_ldR (v := Enc.v (drives2 : (List Int))) ty22 rfl rfl rfl rfl rfl rfl) rfl rfl ?_
    refine TL.p (C := cx) (gc := true) (p_mv rfl) rfl rfl ?_
    obtain ⟨e10, he10, hX⟩ := bind_some hX
    refine TL.p (C := cx) (gc := true) (p_iaL (xs := drives2) kd22 ty3 rfl rfl rfl (fun _ => he10)) rfl rfl ?_
    refine TL.p (C := cx) (gc := true) (p_ldE (xs := drives2) (a := e10) (e10 : Int) ty3 rfl rfl (fun _ => he10) rfl rfl rfl) rfl rfl ?_
    refine TL.p (C := cx) (gc := true) (p_mv rfl) rfl rfl ?_
    refine TL.nil ?_
    refine hK9 _ _ ?_
    refine TK.ret ?_
    try dsimp only [thenQ]
    exact ret1 (v := Enc.v (e10 : Int)) rfl (by obtain rfl := some_in hX; rfl) (v_val _)

/-- cartridge/cartridgelaw22.alive -/
theorem ok_cartridgelaw22_alive  (r : Bool) (hX : X.cartridgelaw22_alive = some r) : Fun Try.prog 21 [] (· = Enc.v (r : Bool)) := by
  refine Fun.of b21 (Nat.le_of_ble_eq_true rfl) (fun x hx => by cases hx) ?_
  unfold k21
  have nd : Nd [] := Nd_nil
  unfold X.cartridgelaw22_alive at hX
  refine TK.seq_k fun K1 hK1 => ?_
  refine TK.reg ?_
  refine TL.p (C := cx) (gc := true) (p_mv rfl) rfl rfl ?_
  refine TL.nil ?_
  refine hK1 _ _ ?_
  refine TK.seq_k fun K2 hK2 => ?_
  refine TK.reg ?_
  refine TL.lit (C := cx) ([(5 : Int)] : List Int) kd22 ty3 rfl ⟨⟨rfl, rfl⟩, trivial⟩ rfl rfl rfl ?_
  obtain ⟨r3, hr3, hX⟩ := bind_some hX
  refine TL.tcX [] [] rfl nd (dlt rfl) rfl ⟨rfl, ⟨rfl, ⟨rfl, trivial⟩⟩⟩ (ok_shelf_New ([(5 : Int)] : List Int) (1 : Int) (Nd.take nd 0 rfl) _ hr3) ?_
  rintro _ _ hQ nd
  cases hqr3 : r3.1 with
  | none =>
    simp only [hqr3] at hQ hX
    obtain ⟨rfl, rfl⟩ := hQ
    refine TL.p (C := cx) (gc := true) (p_mv rfl) rfl rfl ?_
    refine TL.p (C := cx) (gc := true) (p_ex rfl rfl (by decide)) rfl rfl ?_
    refine TL.p (C := cx) (gc := true) (p_ex rfl rfl (by decide)) rfl rfl ?_
    refine TL.p (C := cx) (gc := true) (p_mv rfl) rfl rfl ?_
    refine TL.p (C := cx) (gc := true) (p_mv rfl) rfl rfl ?_
    refine TL.nil ?_
    refine hK2 _ _ ?_
    refine TK.seq_k fun K4 hK4 => ?_
    refine TK.seq_k fun K5 hK5 => ?_
    refine TK.reg ?_
    refine TL.p (C := cx) (gc := true) (p_mv rfl) rfl rfl ?_
    obtain ⟨r6, hr6, hX⟩ := bind_some hX
    refine TL.cvX rfl rfl rfl (fun _ => ⟨rfl, ⟨rfl, trivial⟩⟩) (fun e => ok_cartridgelaw22_num r3.2 _ hr6) ?_
    refine TL.p (C := cx) (gc := true) (p_neq rfl rfl) rfl rfl ?_
    refine TL.p (C := cx) (gc := true) (p_mv rfl) rfl rfl ?_
    refine TL.p (C := cx) (gc := (!((r6 != (0 : Int))))) (p_mv rfl (hg := fun e => rfl)) (gcF1 rfl) rfl ?_
    refine TL.p (C := cx) (gc := (!((r6 != (0 : Int))))) (p_eqN kd48 rfl rfl (hg := fun e => ⟨e, rfl⟩)) (gcF1 rfl) rfl ?_
    refine TL.p (C := cx) (gc := true) (p_or rfl rfl (fun e => ⟨rfl, fun h => (not_t h)⟩)) rfl rfl ?_
    refine TL.nil ?_
    refine hK5 _ _ ?_
    refine TK.cond (b := ((r6 != (0 : Int)) || true)) rfl (fun _ => ?_) (fun hc => by simp at hc)
    refine TK.seq_k fun K7 hK7 => ?_
    refine TK.reg ?_
    refine TL.p (C := cx) (gc := true) (p_mv rfl) rfl rfl ?_
    refine TL.nil ?_
    refine hK7 _ _ ?_
    refine TK.ret ?_
    try dsimp only [thenQ]
    exact ret1 (v := Enc.v (false : Bool)) rfl (by obtain rfl := some_in hX; rfl) (v_val _)
  | some o8 =>
    simp only [hqr3] at hQ hX
    obtain ⟨b9, b10, rfl, rfl⟩ := hQ
    refine TL.p (C := cx) (gc := true) (p_mv rfl) rfl rfl ?_
    refine TL.p (C := cx) (gc := true) (p_ex rfl rfl (by decide)) rfl rfl ?_
    refine TL.p (C := cx) (gc := true) (p_ex rfl rfl (by decide)) rfl rfl ?_
    refine TL.p (C := cx) (gc := true) (p_mv rfl) rfl rfl ?_
    refine TL.p (C := cx) (gc := true) (p_mv rfl) rfl rfl ?_
    refine TL.nil ?_
    refine hK2 _ _ ?_
    refine TK.seq_k fun K11 hK11 => ?_
    refine TK.seq_k fun K12 hK12 => ?_
    refine TK.reg ?_
    refine TL.p (C := cx) (gc := true) (p_mv rfl) rfl rfl ?_
    obtain ⟨r13, hr13, hX⟩ := bind_some hX
    refine TL.cvX rfl rfl rfl (fun _ => ⟨rfl, ⟨rfl, trivial⟩⟩) (fun e => ok_cartridgelaw22_num r3.2 _ hr13) ?_
    refine TL.p (C := cx) (gc := true) (p_neq rfl rfl) rfl rfl ?_
    refine TL.p (C := cx) (gc := true) (p_mv rfl) rfl rfl ?_
    refine TL.p (C := cx) (gc := (!((r13 != (0 : Int))))) (p_mv rfl (hg := fun e => rfl)) (gcF1 rfl) rfl ?_
    refine TL.p (C := cx) (gc := (!((r13 != (0 : Int))))) (p_eqP kd48 rfl rfl (fun _ => refOK_of nd (j := 0) rfl rfl) (hg := fun e => ⟨e, rfl⟩)) (gcF1 rfl) rfl ?_
    refine TL.p (C := cx) (gc := true) (p_or rfl rfl (fun e => ⟨rfl, fun h => (not_t h)⟩)) rfl rfl ?_
    refine TL.nil ?_
    refine hK12 _ _ ?_
    refine TK.cond (b := ((r13 != (0 : Int)) || false)) rfl (fun hc => ?_) (fun hc => ?_)
    · have hX := ite_t hc hX
      refine TK.seq_k fun K14 hK14 => ?_
      refine TK.reg ?_
      refine TL.p (C := cx) (gc := true) (p_mv rfl) rfl rfl ?_
      refine TL.nil ?_
      refine hK14 _ _ ?_
      refine TK.ret ?_
      try dsimp only [thenQ]
      exact ret1 (v := Enc.v (false : Bool)) rfl (by obtain rfl := some_in hX; rfl) (v_val _)
    · have hX := ite_f hc hX
      refine TK.skip ?_
      refine hK11 _ _ ?_
      refine TK.seq_k fun K15 hK15 => ?_
      refine TK.reg ?_
      refine TL.p (C := cx) (gc := true) (p_mv rfl) rfl rfl ?_
      obtain ⟨r16, hr16, hX⟩ := bind_some hX
      refine TL.lookX [.vref (ofL [Enc.v (o8.1 : (List Int)), Enc.v (o8.2 : (List Int))]) 2 0, Enc.v ((5 : Int) : Int)] rfl rfl rfl (fun _ => ⟨rfl, ⟨rfl, ⟨rfl, trivial⟩⟩⟩) ⟨look_ref (l := [Enc.v (o8.1 : (List Int)), OL (α := Int) b10 o8.2]) nd (j := 0) rfl ⟨look_v (v := Enc.v (o8.1 : (List Int))) (v_val _), look_OL nd (j := 1) rfl, trivial⟩, look_v (v := Enc.v ((5 : Int) : Int)) (v_val _), trivial⟩ (fun e => ok_shelf_Shelf_Slot o8.1 o8.2 (5 : Int) _ hr16) (trivial) ?_
      refine TL.p (C := cx) (gc := true) (p_mv rfl) rfl rfl ?_
      refine TL.nil ?_
      refine hK15 _ _ ?_
      refine TK.seq_k fun K17 hK17 => ?_
      refine TK.reg ?_
      refine TL.p (C := cx) (gc := true) (p_mv rfl) rfl rfl ?_
      obtain ⟨r18, hr18, hX⟩ := bind_some hX
      refine TL.tcX [(b9, RV 65 [Enc.v (o8.1 : (List Int)), OL (α := Int) b10 o8.2]), (b10, RL (α := Int) 3 o8.2)] [] rfl nd (dlt rfl) rfl ⟨rfl, ⟨rfl, ⟨rfl, ⟨rfl, trivial⟩⟩⟩⟩ (ok_shelf_Shelf_Move (5 : Int) (0 : Int) o8.1 o8.2 b9 b10 (Nd.take nd 2 rfl) _ hr18) ?_
      rintro _ _ hQ nd
      obtain ⟨b20, rfl, rfl⟩ := hQ
      refine TL.p (C := cx) (gc := true) (p_mv rfl) rfl rfl ?_
      refine TL.nil ?_
      refine hK17 _ _ ?_
      refine TK.seq_k fun K21 hK21 => ?_
      refine TK.reg ?_
      refine TL.p (C := cx) (gc := true) (p_mv rfl) rfl rfl ?_
      refine TL.p (C := cx) (gc := true) (p_eql rfl rfl) rfl rfl ?_
      refine TL.p (C := cx) (gc := true) (p_mv rfl) rfl rfl ?_
      refine TL.p (C := cx) (gc := ((r16 == (0 : Int)))) (p_mv rfl (hg := fun e => rfl)) (gcT1 rfl) rfl ?_
      obtain ⟨r22, hr22, hX⟩ := bind_some hX
      refine TL.cvX (gcT1 rfl) rfl rfl (fun e => ⟨rfl, ⟨e, trivial⟩⟩) (fun e => ok_cartridgelaw22_num r18.1 _ (optG_t hr22 e)) ?_
      refine TL.p (C := cx) (gc := ((r16 == (0 : Int)))) (p_eql rfl rfl (hg := fun e => ⟨e, rfl⟩)) (gcT1 rfl) rfl ?_
      refine TL.p (C := cx) (gc := true) (p_and rfl rfl (fun e => ⟨rfl, fun h => h⟩)) rfl rfl ?_
      refine TL.p (C := cx) (gc := true) (p_mv rfl) rfl rfl ?_
      refine TL.p (C := cx) (gc := (((r16 == (0 : Int)) && (r22 == (0 : Int))))) (p_mv rfl (hg := fun e => rfl)) (gcT1 rfl) rfl ?_
      obtain ⟨r23, hr23, hX⟩ := bind_some hX
      refine TL.lookX [.vref (ofL [Enc.v (r18.2.1 : (List Int)), Enc.v (r18.2.2 : (List Int))]) 2 0, Enc.v ((0 : Int) : Int)] (gcT1 rfl) rfl rfl (fun e => ⟨rfl, ⟨e, ⟨rfl, trivial⟩⟩⟩) ⟨look_ref (l := [Enc.v (r18.2.1 : (List Int)), OL (α := Int) b20 r18.2.2]) nd (j := 0) rfl ⟨look_v (v := Enc.v (r18.2.1 : (List Int))) (v_val _), look_OL nd (j := 1) rfl, trivial⟩, look_v (v := Enc.v ((0 : Int) : Int)) (v_val _), trivial⟩ (fun e => ok_shelf_Shelf_Mounted r18.2.1 r18.2.2 (0 : Int) _ (optG_t hr23 e)) (trivial) ?_
      refine TL.p (C := cx) (gc := (((r16 == (0 : Int)) && (r22 == (0 : Int))))) (p_eql rfl rfl (hg := fun e => ⟨e, rfl⟩)) (gcT1 rfl) rfl ?_
      refine TL.p (C := cx) (gc := true) (p_and rfl rfl (fun e => ⟨rfl, fun h => h⟩)) rfl rfl ?_
      refine TL.p (C := cx) (gc := true) (p_mv rfl) rfl rfl ?_
      refine TL.p (C := cx) (gc := ((((r16 == (0 : Int)) && (r22 == (0 : Int))) && (r23 == (5 : Int))))) (p_mv rfl (hg := fun e => rfl)) (gcT1 rfl) rfl ?_
      obtain ⟨r24, hr24, hX⟩ := bind_some hX
      refine TL.lookX [.vref (ofL [Enc.v (r18.2.1 : (List Int)), Enc.v (r18.2.2 : (List Int))]) 2 0, Enc.v ((5 : Int) : Int)] (gcT1 rfl) rfl rfl (fun e => ⟨rfl, ⟨e, ⟨rfl, trivial⟩⟩⟩) ⟨look_ref (l := [Enc.v (r18.2.1 : (List Int)), OL (α := Int) b20 r18.2.2]) nd (j := 0) rfl ⟨look_v (v := Enc.v (r18.2.1 : (List Int))) (v_val _), look_OL nd (j := 1) rfl, trivial⟩, look_v (v := Enc.v ((5 : Int) : Int)) (v_val _), trivial⟩ (fun e => ok_shelf_Shelf_Slot r18.2.1 r18.2.2 (5 : Int) _ (optG_t hr24 e)) (trivial) ?_
      refine TL.p (C := cx) (gc := ((((r16 == (0 : Int)) && (r22 == (0 : Int))) && (r23 == (5 : Int))))) (p_eql rfl rfl (hg := fun e => ⟨e, rfl⟩)) (gcT1 rfl) rfl ?_
      refine TL.p (C := cx) (gc := true) (p_and rfl rfl (fun e => ⟨rfl, fun h => h⟩)) rfl rfl ?_
      refine TL.p (C := cx) (gc := true) (p_mv rfl) rfl rfl ?_
      refine TL.nil ?_
      refine hK21 _ _ ?_
      refine TK.ret ?_
      try dsimp only [thenQ]
      exact ret1 (v := Enc.v (((((r16 == (0 : Int)) && (r22 == (0 : Int))) && (r23 == (5 : Int))) && (r24 == ((-1) : Int))) : Bool)) rfl (by obtain rfl := some_in hX; rfl) (v_val _)

/-- cartridge/cartridgeref1.Cut -/
theorem ok_cartridgeref1_Cut (n1 : Int) (low2 : Int) (high3 : Int) (r : Int) (hX : X.cartridgeref1_Cut n1 low2 high3 = some r) : Fun Try.prog 35 [Enc.v (n1 : Int), Enc.v (low2 : Int), Enc.v (high3 : Int)] (· = Enc.v (r : Int)) := by
  refine Fun.of b35 (Nat.le_of_ble_eq_true rfl) (allVal.mem ⟨(by exact (v_val _)), (by exact (v_val _)), (by exact (v_val _)), trivial⟩) ?_
  unfold k35
  have nd : Nd [] := Nd_nil
  unfold X.cartridgeref1_Cut at hX
  refine TK.seq_k fun K4 hK4 => ?_
  refine TK.reg ?_
  refine TL.p (C := cx) (gc := true) (p_mv rfl) rfl rfl ?_
  refine TL.nil ?_
  refine hK4 _ _ ?_
  refine TK.seq_k fun K5 hK5 => ?_
  refine TK.block ?_
  refine TK.seq_k fun K6 hK6 => ?_
  refine TK.reg ?_
  refine TL.p (C := cx) (gc := true) (p_mv rfl) rfl rfl ?_
  refine TL.p (C := cx) (gc := true) (p_mv rfl) rfl rfl ?_
  refine TL.p (C := cx) (gc := true) (p_lss rfl rfl) rfl rfl ?_
  refine TL.p (C := cx) (gc := true) (p_mv rfl) rfl rfl ?_
  refine TL.nil ?_
  refine hK6 _ _ ?_
  refine TK.cond (b := (decide (n1 < low2))) rfl (fun hc => ?_) (fun hc => ?_)
  · have hX := ite_t hc hX
    refine TK.seq_k fun K7 hK7 => ?_
    refine TK.reg ?_
    refine TL.p (C := cx) (gc := true) (p_mv rfl) rfl rfl ?_
    refine TL.p (C := cx) (gc := true) (p_mv rfl) rfl rfl ?_
    refine TL.nil ?_
    refine hK7 _ _ ?_
    refine TK.ret ?_
    try dsimp only [thenQ]
    exact ret1 (v := Enc.v (low2 : Int)) rfl (by obtain rfl := some_in hX; rfl) (v_val _)
  · have hX := ite_f hc hX
    refine TK.seq_k fun K8 hK8 => ?_
    refine TK.reg ?_
    refine TL.p (C := cx) (gc := true) (p_mv rfl) rfl rfl ?_
    refine TL.p (C := cx) (gc := true) (p_mv rfl) rfl rfl ?_
    refine TL.p (C := cx) (gc := true) (p_gtr rfl rfl) rfl rfl ?_
    refine TL.p (C := cx) (gc := true) (p_mv rfl) rfl rfl ?_
    refine TL.nil ?_
    refine hK8 _ _ ?_
    refine TK.cond (b := (decide (n1 > high3))) rfl (fun hc => ?_) (fun hc => ?_)
    · have hX := ite_t hc hX
      refine TK.seq_k fun K9 hK9 => ?_
      refine TK.reg ?_
      refine TL.p (C := cx) (gc := true) (p_mv rfl) rfl rfl ?_
      refine TL.p (C := cx) (gc := true) (p_mv rfl) rfl rfl ?_
      refine TL.nil ?_
      refine hK9 _ _ ?_
      refine TK.ret ?_
      try dsimp only [thenQ]
      exact ret1 (v := Enc.v (high3 : Int)) rfl (by obtain rfl := some_in hX; rfl) (v_val _)
    · have hX := ite_f hc hX
      refine TK.skip ?_
      refine hK5 _ _ ?_
      refine TK.seq_k fun K10 hK10 => ?_
      refine TK.reg ?_
      refine TL.p (C := cx) (gc := true) (p_mv rfl) rfl rfl ?_
      refine TL.p (C := cx) (gc := true) (p_mv rfl) rfl rfl ?_
      refine TL.nil ?_
      refine hK10 _ _ ?_
      refine TK.ret ?_
      try dsimp only [thenQ]
      exact ret1 (v := Enc.v (n1 : Int)) rfl (by obtain rfl := some_in hX; rfl) (v_val _)

/-- (*cartridge/shelf.Shelf).Back -/
theorem ok_shelf_Shelf_Back (drive5 : Int) (labels1 : (List Int)) (drives2 : (List Int)) (b3 : Nat) (b4 : Nat) (nd : Nd [(b3, RV 65 [Enc.v (labels1 : (List Int)), OL (α := Int) b4 drives2]), (b4, RL (α := Int) 3 drives2)]) (r : (Int × ((List Int) × (List Int)))) (hX : X.shelf_Shelf_Back drive5 labels1 drives2 = some r) : TCX Try.prog 27 [.ref b3 0 2, Enc.v (drive5 : Int)] [(b3, RV 65 [Enc.v (labels1 : (List Int)), OL (α := Int) b4 drives2]), (b4, RL (α := Int) 3 drives2)] (fun rv h' => ∃ b18, rv = Enc.v (r.1 : Int) ∧ h' = [(b3, RV 65 [Enc.v (r.2.1 : (List Int)), OL (α := Int) b18 r.2.2]), (b18, RL (α := Int) 3 r.2.2)]) := by
  refine TCX.of b27 (Nat.le_of_ble_eq_true rfl) ?_
  unfold k27
  unfold X.shelf_Shelf_Back at hX
  refine TK.seq_k fun K6 hK6 => ?_
  refine TK.reg ?_
  refine TL.p (C := cx) (gc := true) (p_mv rfl) rfl rfl ?_
  refine TL.nil ?_
  refine hK6 _ _ ?_
  refine TK.seq_k fun K7 hK7 => ?_
  refine TK.block ?_
  refine TK.seq_k fun K8 hK8 => ?_
  refine TK.reg ?_
  refine TL.p (C := cx) (gc := true) (p_mv rfl) rfl rfl ?_
  refine TL.p (C := cx) (gc := true) (p_mv rfl) rfl rfl ?_
  obtain ⟨r9, hr9, hX⟩ := bind_some hX
  refine TL.lookX [.vref (ofL [Enc.v (labels1 : (List Int)), Enc.v (drives2 : (List Int))]) 2 0, Enc.v (drive5 : Int)] rfl rfl rfl (fun _ => ⟨rfl, ⟨rfl, ⟨rfl, trivial⟩⟩⟩) ⟨look_ref (l := [Enc.v (labels1 : (List Int)), OL (α := Int) b4 drives2]) nd (j := 0) rfl ⟨look_v (v := Enc.v (labels1 : (List Int))) (v_val _), look_OL nd (j := 1) rfl, trivial⟩, look_v (v := Enc.v (drive5 : Int)) (v_val _), trivial⟩ (fun e => ok_shelf_Shelf_drive labels1 drives2 drive5 _ hr9) (trivial) ?_
  refine TL.p (C := cx) (gc := true) (p_not rfl) rfl rfl ?_
  refine TL.p (C := cx) (gc := true) (p_mv rfl) rfl rfl ?_
  refine TL.nil ?_
  refine hK8 _ _ ?_
  refine TK.cond (b := (!r9)) rfl (fun hc => ?_) (fun hc => ?_)
  · have hX := ite_t hc hX
    refine TK.seq_k fun K10 hK10 => ?_
    refine TK.reg ?_
    refine TL.p (C := cx) (gc := true) (p_mv rfl) rfl rfl ?_
    refine TL.nil ?_
    refine hK10 _ _ ?_
    refine TK.ret ?_
    try dsimp only [thenQ]
    exact retX (v := Enc.v ((1 : Int) : Int)) (res1 rfl) (by obtain rfl := some_in hX; exact ⟨b4, rfl, rfl⟩) nd (inH_val (v_val _)) ⟨rowIn_RV ⟨inH_val (v_val _), inH_rs nd (j := 1) rfl, trivial⟩, rowIn_RL, trivial⟩
  · have hX := ite_f hc hX
    refine TK.seq_k fun K11 hK11 => ?_
    refine TK.reg ?_
    refine TL.p (C := cx) (gc := true) (p_mv rfl) rfl rfl ?_
    refine TL.p (C := cx) (gc := true) (p_ncR rfl (fun _ => refOK_of nd (j := 0) rfl rfl)) rfl rfl ?_
    refine TL.p (C := cx) (gc := true) (p_faV fs65_1 (by decide) rfl nd (j := 0) rfl rfl) rfl rfl ?_
    refine TL.p (C := cx) (gc := true) (p_ldV (v := OL (α := Int) b4 drives2) ty22 rfl rfl nd (j := 0) rfl rfl rfl rfl rfl) rfl rfl ?_
    refine TL.p (C := cx) (gc := true) (p_mv rfl) rfl rfl ?_
    obtain ⟨e12, he12, hX⟩ := bind_some hX
    refine TL.p (C := cx) (gc := true) (p_iaO (xs := drives2) kd22 ty3 rfl rfl rfl nd (j := 1) rfl (fun _ => he12)) rfl rfl ?_
    refine TL.p (C := cx) (gc := true) (p_ldO (xs := drives2) (a := e12) (e12 : Int) ty3 rfl rfl nd (j := 1) rfl (fun _ => he12) rfl rfl rfl) rfl rfl ?_
    refine TL.p (C := cx) (gc := true) (p_eql rfl rfl) rfl rfl ?_
    refine TL.p (C := cx) (gc := true) (p_mv rfl) rfl rfl ?_
    refine TL.nil ?_
    refine hK11 _ _ ?_
    refine TK.cond (b := (e12 == (0 : Int))) rfl (fun hc => ?_) (fun hc => ?_)
    · have hX := ite_t hc hX
      refine TK.seq_k fun K13 hK13 => ?_
      refine TK.reg ?_
      refine TL.p (C := cx) (gc := true) (p_mv rfl) rfl rfl ?_
      refine TL.nil ?_
      refine hK13 _ _ ?_
      refine TK.ret ?_
      try dsimp only [thenQ]
      exact retX (v := Enc.v ((11 : Int) : Int)) (res1 rfl) (by obtain rfl := some_in hX; exact ⟨b4, rfl, rfl⟩) nd (inH_val (v_val _)) ⟨rowIn_RV ⟨inH_val (v_val _), inH_rs nd (j := 1) rfl, trivial⟩, rowIn_RL, trivial⟩
    · have hX := ite_f hc hX
      refine TK.skip ?_
      refine hK7 _ _ ?_
      refine TK.seq_k fun K14 hK14 => ?_
      refine TK.reg ?_
      refine TL.p (C := cx) (gc := true) (p_mv rfl) rfl rfl ?_
      refine TL.p (C := cx) (gc := true) (p_ncR rfl (fun _ => refOK_of nd (j := 0) rfl rfl)) rfl rfl ?_
      refine TL.p (C := cx) (gc := true) (p_faV fs65_1 (by decide) rfl nd (j := 0) rfl rfl) rfl rfl ?_
      refine TL.p (C := cx) (gc := true) (p_ldV (v := OL (α := Int) b4 drives2) ty22 rfl rfl nd (j := 0) rfl rfl rfl rfl rfl) rfl rfl ?_
      refine TL.p (C := cx) (gc := true) (p_mv rfl) rfl rfl ?_
      obtain ⟨e15, he15, hX⟩ := bind_some hX
      refine TL.p (C := cx) (gc := true) (p_iaO (xs := drives2) kd22 ty3 rfl rfl rfl nd (j := 1) rfl (fun _ => he15)) rfl rfl ?_
      refine TL.stW (C := cx) (xs := drives2) (i := drive5) (lu := Enc.cl ((0 : Int) : Int)) (a' := (0 : Int)) nd ty3 rfl (j := 1) rfl (by simp [Enc.sz]) (inb_of he15 (by simp)) rfl (Cells_v ((0 : Int) : Int)) rfl (WkL_refl _) fun nd => ?_
      refine TL.cvR nd (j := 0) rfl (l' := [Enc.v (labels1 : (List Int)), OL (α := Int) b4 (drives2.set drive5.toNat (0 : Int))]) ⟨Wk.refl _, Wk_eq (OL_len (by simp)), trivial⟩ fun nd => ?_
      refine TL.nil ?_
      refine hK14 _ _ ?_
      refine TK.seq_k fun K16 hK16 => ?_
      refine TK.reg ?_
      refine TL.p (C := cx) (gc := true) (p_mv rfl) rfl rfl ?_
      refine TL.nil ?_
      refine hK16 _ _ ?_
      refine TK.ret ?_
      try dsimp only [thenQ]
      exact retX (v := Enc.v ((0 : Int) : Int)) (res1 rfl) (by obtain rfl := some_in hX; exact ⟨b4, rfl, rfl⟩) nd (inH_val (v_val _)) ⟨rowIn_RV ⟨inH_val (v_val _), inH_rs nd (j := 1) rfl, trivial⟩, rowIn_RL, trivial⟩

end Go.Proofs.Ytjkjoihlpnahdaa
