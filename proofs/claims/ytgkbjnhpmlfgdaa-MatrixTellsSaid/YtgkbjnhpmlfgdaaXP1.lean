import Derived.Test.YtgkbjnhpmlfgdaaXFn
import Derived.Test.YtgkbjnhpmlfgdaaXS
import Derived.Test.YtgkbjnhpmlfgdaaAmK0
import Derived.Test.YtgkbjnhpmlfgdaaXP0
/- That they do. -/
namespace Go.Proofs.Ytgkbjnhpmlfgdaa
open Go.AM Go.AX
set_option linter.unusedVariables false
set_option maxRecDepth 20000

/-- cartridge/cartridgeref1.RightMatrix -/
theorem ok_cartridgeref1_RightMatrix (m1 : (List (List UInt8))) (r : Bool) (hX : X.cartridgeref1_RightMatrix m1 = some r) : Fun Try.prog 16 [Enc.v (m1 : (List (List UInt8)))] (· = Enc.v (r : Bool)) := by
  refine Fun.of b16 (Nat.le_of_ble_eq_true rfl) (allVal.mem ⟨(by exact (v_val _)), trivial⟩) ?_
  unfold k16
  have nd : Nd [] := Nd_nil
  unfold X.cartridgeref1_RightMatrix at hX
  refine TK.seq_k fun K2 hK2 => ?_
  refine TK.reg ?_
  refine TL.p (C := cx) (gc := true) (p_mv rfl) rfl rfl ?_
  refine TL.nil ?_
  refine hK2 _ _ ?_
  refine TK.seq_k fun K3 hK3 => ?_
  refine TK.seq_k fun K4 hK4 => ?_
  refine TK.reg ?_
  refine TL.p (C := cx) (gc := true) (p_mv rfl) rfl rfl ?_
  refine TL.p (C := cx) (gc := true) (p_lenL (xs := m1) kd22 rfl) rfl rfl ?_
  refine TL.p (C := cx) (gc := true) (p_lss rfl rfl) rfl rfl ?_
  refine TL.p (C := cx) (gc := true) (p_mv rfl) rfl rfl ?_
  refine TL.p (C := cx) (gc := (!((decide ((m1.length : Int) < (1 : Int)))))) (p_mv rfl (hg := fun e => rfl)) (gcF1 rfl) rfl ?_
  refine TL.p (C := cx) (gc := (!((decide ((m1.length : Int) < (1 : Int)))))) (p_lenL (xs := m1) kd22 rfl (hg := fun e => e)) (gcF1 rfl) rfl ?_
  refine TL.p (C := cx) (gc := (!((decide ((m1.length : Int) < (1 : Int)))))) (p_gtr rfl rfl (hg := fun e => ⟨e, rfl⟩)) (gcF1 rfl) rfl ?_
  refine TL.p (C := cx) (gc := true) (p_or rfl rfl (fun e => ⟨rfl, fun h => (not_t h)⟩)) rfl rfl ?_
  refine TL.p (C := cx) (gc := true) (p_mv rfl) rfl rfl ?_
  refine TL.p (C := cx) (gc := (!(((decide ((m1.length : Int) < (1 : Int))) || (decide ((m1.length : Int) > (255 : Int))))))) (p_mv rfl (hg := fun e => rfl)) (gcF1 rfl) rfl ?_
  obtain ⟨e5, he5, hX⟩ := bind_some hX
  refine TL.p (C := cx) (gc := (!(((decide ((m1.length : Int) < (1 : Int))) || (decide ((m1.length : Int) > (255 : Int))))))) (p_iaL (xs := m1) kd22 ty23 rfl rfl rfl (fun e => optG_t he5 e) (hg := fun e => ⟨e, rfl⟩)) (gcF1 rfl) rfl ?_
  refine TL.p (C := cx) (gc := (!(((decide ((m1.length : Int) < (1 : Int))) || (decide ((m1.length : Int) > (255 : Int))))))) (p_ldE (xs := m1) (a := e5) (e5 : (List UInt8)) ty23 rfl rfl (fun e => optG_t he5 e) rfl rfl rfl (hg := fun e => e)) (gcF1 rfl) rfl ?_
  refine TL.p (C := cx) (gc := (!(((decide ((m1.length : Int) < (1 : Int))) || (decide ((m1.length : Int) > (255 : Int))))))) (p_lenL (xs := e5) kd23 rfl (hg := fun e => e)) (gcF1 rfl) rfl ?_
  refine TL.p (C := cx) (gc := (!(((decide ((m1.length : Int) < (1 : Int))) || (decide ((m1.length : Int) > (255 : Int))))))) (p_lss rfl rfl (hg := fun e => ⟨e, rfl⟩)) (gcF1 rfl) rfl ?_
  refine TL.p (C := cx) (gc := true) (p_or rfl rfl (fun e => ⟨rfl, fun h => (not_t h)⟩)) rfl rfl ?_
  refine TL.p (C := cx) (gc := true) (p_mv rfl) rfl rfl ?_
  refine TL.p (C := cx) (gc := (!((((decide ((m1.length : Int) < (1 : Int))) || (decide ((m1.length : Int) > (255 : Int)))) || (decide ((e5.length : Int) < (1 : Int))))))) (p_mv rfl (hg := fun e => rfl)) (gcF1 rfl) rfl ?_
  obtain ⟨e6, he6, hX⟩ := bind_some hX
  refine TL.p (C := cx) (gc := (!((((decide ((m1.length : Int) < (1 : Int))) || (decide ((m1.length : Int) > (255 : Int)))) || (decide ((e5.length : Int) < (1 : Int))))))) (p_iaL (xs := m1) kd22 ty23 rfl rfl rfl (fun e => optG_t he6 e) (hg := fun e => ⟨e, rfl⟩)) (gcF1 rfl) rfl ?_
  refine TL.p (C := cx) (gc := (!((((decide ((m1.length : Int) < (1 : Int))) || (decide ((m1.length : Int) > (255 : Int)))) || (decide ((e5.length : Int) < (1 : Int))))))) (p_ldE (xs := m1) (a := e6) (e6 : (List UInt8)) ty23 rfl rfl (fun e => optG_t he6 e) rfl rfl rfl (hg := fun e => e)) (gcF1 rfl) rfl ?_
  refine TL.p (C := cx) (gc := (!((((decide ((m1.length : Int) < (1 : Int))) || (decide ((m1.length : Int) > (255 : Int)))) || (decide ((e5.length : Int) < (1 : Int))))))) (p_lenL (xs := e6) kd23 rfl (hg := fun e => e)) (gcF1 rfl) rfl ?_
  refine TL.p (C := cx) (gc := (!((((decide ((m1.length : Int) < (1 : Int))) || (decide ((m1.length : Int) > (255 : Int)))) || (decide ((e5.length : Int) < (1 : Int))))))) (p_gtr rfl rfl (hg := fun e => ⟨e, rfl⟩)) (gcF1 rfl) rfl ?_
  refine TL.p (C := cx) (gc := true) (p_or rfl rfl (fun e => ⟨rfl, fun h => (not_t h)⟩)) rfl rfl ?_
  refine TL.nil ?_
  refine hK4 _ _ ?_
  refine TK.cond (b := ((((decide ((m1.length : Int) < (1 : Int))) || (decide ((m1.length : Int) > (255 : Int)))) || (decide ((e5.length : Int) < (1 : Int)))) || (decide ((e6.length : Int) > (255 : Int))))) rfl (fun hc => ?_) (fun hc => ?_)
  · have hX := ite_t hc hX
    refine TK.seq_k fun K7 hK7 => ?_
    refine TK.reg ?_
    refine TL.p (C := cx) (gc := true) (p_mv rfl) rfl rfl ?_
    refine TL.nil ?_
    refine hK7 _ _ ?_
    refine TK.ret ?_
    try dsimp only [thenQ]
    exact ret1 (v := Enc.v (false : Bool)) rfl (by obtain rfl := some_in hX; rfl) (v_val _)
  · have hX := ite_f hc hX
    refine TK.skip ?_
    refine hK3 _ _ ?_
    refine TK.seq_k fun K8 hK8 => ?_
    refine TK.seq_k fun K9 hK9 => ?_
    refine TK.reg ?_
    refine TL.p (C := cx) (gc := true) (p_mv rfl) rfl rfl ?_
    refine TL.nil ?_
    refine hK9 _ _ ?_
    refine TK.block ?_
    obtain ⟨o10, hO10, hA10⟩ := bind_some hX
    have E10 : ∀ (env : Env) (h : Hp), (∃ _u : Unit, keepE [] env = [] ∧ Nd [] ∧ HSub [] h) → X.cartridgeref1_RightMatrix_e10 = some r → K8 env h := by
      intro  env h hE hX
      obtain ⟨_u, henv, nd, hs⟩ := hE
      unfold X.cartridgeref1_RightMatrix_e10 at hX
      refine hK8 _ _ (TK.keep [] ?_)
      rw [henv]
      refine TK.subH hs ?_
      refine TK.seq_k fun K12 hK12 => ?_
      refine TK.reg ?_
      refine TL.p (C := cx) (gc := true) (p_mv rfl) rfl rfl ?_
      refine TL.nil ?_
      refine hK12 _ _ ?_
      refine TK.ret ?_
      try dsimp only [thenQ]
      exact ret1 (v := Enc.v (true : Bool)) rfl (by obtain rfl := some_in hX; rfl) (v_val _)
    refine TK.iter [0, 3] (fun s env h => match s with | i11 => ∃ _u : Unit, env = [(0, true, Enc.v (m1 : (List (List UInt8)))), (3, true, Enc.v (i11 : Int))] ∧ Nd [] ∧ HSub [] h) hO10 ⟨(), rfl, Nd_nil, HSub.refl _⟩ ?_
    rintro i11 env h x10x ⟨_u, rfl, nd, hs⟩ hX hR10
    refine TK.subH hs ?_
    unfold X.cartridgeref1_RightMatrix_s10 at hX
    try dsimp only at hX
    refine TK.seq_k fun K13 hK13 => ?_
    refine TK.seq_k fun K14 hK14 => ?_
    refine TK.reg ?_
    refine TL.p (C := cx) (gc := true) (p_mv rfl) rfl rfl ?_
    refine TL.p (C := cx) (gc := true) (p_mv rfl) rfl rfl ?_
    refine TL.p (C := cx) (gc := true) (p_lenL (xs := m1) kd22 rfl) rfl rfl ?_
    refine TL.p (C := cx) (gc := true) (p_lss rfl rfl) rfl rfl ?_
    refine TL.nil ?_
    refine hK14 _ _ ?_
    refine TK.cond (b := (decide (i11 < (m1.length : Int)))) rfl (fun hc => ?_) (fun hc => ?_)
    · have hX := ite_t hc hX
      refine TK.skip ?_
      refine hK13 _ _ ?_
      refine TK.seq_k fun K15 hK15 => ?_
      refine TK.block ?_
      refine TK.seq_k fun K16 hK16 => ?_
      have ndS : Nd [] := Nd.pick nd (is := []) (by decide)
      refine TK.drwX (h := []) (hS := []) [(0, 0), (0, 1), (0, 2), (0, 3), (0, 4), (0, 5), (0, 6), (0, 7), (0, 8), (0, 9)] mixed (by kernel_rfl) (HSub_app nd) ?_
      refine DR0 (gc := true) rfl (vok_p (C := cx) (p_mv rfl)) rfl rfl ?_
      refine DR0 (gc := true) rfl (vok_p (C := cx) (p_mv rfl)) rfl rfl ?_
      obtain ⟨e17, he17, hX⟩ := bind_some hX
      refine DR0 (gc := true) rfl (vok_p (C := cx) (p_iaL (xs := m1) kd22 ty23 rfl rfl rfl (fun _ => he17))) rfl rfl ?_
      refine DR0 (gc := true) rfl (vok_p (C := cx) (p_ldE (xs := m1) (a := e17) (e17 : (List UInt8)) ty23 rfl rfl (fun _ => he17) rfl rfl rfl)) rfl rfl ?_
      refine DR0 (gc := true) rfl (vok_p (C := cx) (p_lenL (xs := e17) kd23 rfl)) rfl rfl ?_
      refine DR0 (gc := true) rfl (vok_p (C := cx) (p_mv rfl)) rfl rfl ?_
      obtain ⟨e18, he18, hX⟩ := bind_some hX
      refine DR0 (gc := true) rfl (vok_p (C := cx) (p_iaL (xs := m1) kd22 ty23 rfl rfl rfl (fun _ => he18))) rfl rfl ?_
      refine DR0 (gc := true) rfl (vok_p (C := cx) (p_ldE (xs := m1) (a := e18) (e18 : (List UInt8)) ty23 rfl rfl (fun _ => he18) rfl rfl rfl)) rfl rfl ?_
      refine DR0 (gc := true) rfl (vok_p (C := cx) (p_lenL (xs := e18) kd23 rfl)) rfl rfl ?_
      refine DR0 (gc := true) rfl (vok_p (C := cx) (p_neq rfl rfl)) rfl rfl ?_
      refine DRend ?_
      refine hK16 _ _ ?_
      refine TK.cond (b := ((e17.length : Int) != (e18.length : Int))) rfl (fun hc => ?_) (fun hc => ?_)
      · have hX := ite_t hc hX
        refine TK.seq_k fun K19 hK19 => ?_
        refine TK.reg ?_
        refine TL.p (C := cx) (gc := true) (p_mv rfl) rfl rfl ?_
        refine TL.nil ?_
        refine hK19 _ _ ?_
        refine TK.ret ?_
        obtain rfl := hR10 _ (some_in hX).symm
        replace hX := hA10
        try dsimp only [thenQ]
        exact ret1 (v := Enc.v (false : Bool)) rfl (by obtain rfl := some_in hX; rfl) (v_val _)
      · have hX := ite_f hc hX
        refine TK.skip ?_
        refine hK15 _ _ ?_
        refine TK.reg ?_
        refine TL.p (C := cx) (gc := true) (p_mv rfl) rfl rfl ?_
        refine TL.p (C := cx) (gc := true) (p_add rfl rfl) rfl rfl ?_
        refine TL.p (C := cx) (gc := true) (p_mv rfl) rfl rfl ?_
        refine TL.nil ?_
        exact ⟨_, (some_in hX).symm, (), rfl, Nd_nil, HSub.refl _⟩
    · have hX := ite_f hc hX
      refine TK.exit ?_
      obtain rfl := hR10 _ (some_in hX).symm
      exact E10 _ _ ⟨(), rfl, Nd_nil, HSub.refl _⟩ hA10

/-- cartridge/cartridgeref1.Mul -/
theorem ok_cartridgeref1_Mul (a1 : UInt8) (b2 : UInt8) (r : UInt8) (hX : X.cartridgeref1_Mul a1 b2 = some r) : Fun Try.prog 20 [Enc.v (a1 : UInt8), Enc.v (b2 : UInt8)] (· = Enc.v (r : UInt8)) := by
  refine Fun.of b20 (Nat.le_of_ble_eq_true rfl) (allVal.mem ⟨(by exact (v_val _)), (by exact (v_val _)), trivial⟩) ?_
  unfold k20
  have nd : Nd [] := Nd_nil
  unfold X.cartridgeref1_Mul at hX
  refine TK.seq_k fun K3 hK3 => ?_
  refine TK.reg ?_
  refine TL.p (C := cx) (gc := true) (p_mv rfl) rfl rfl ?_
  refine TL.nil ?_
  refine hK3 _ _ ?_
  refine TK.seq_k fun K4 hK4 => ?_
  refine TK.reg ?_
  refine TL.p (C := cx) (gc := true) (p_mv rfl) rfl rfl ?_
  refine TL.nil ?_
  refine hK4 _ _ ?_
  refine TK.seq_k fun K5 hK5 => ?_
  refine TK.seq_k fun K6 hK6 => ?_
  refine TK.reg ?_
  refine TL.p (C := cx) (gc := true) (p_mv rfl) rfl rfl ?_
  refine TL.nil ?_
  refine hK6 _ _ ?_
  refine TK.block ?_
  obtain ⟨o7, hO7, hA7⟩ := bind_some hX
  have E7 : ∀ (x10 : Int) (env : Env) (h : Hp), (∃ _u : Unit, keepE [5] env = [(5, true, Enc.v (x10 : Int))] ∧ Nd [] ∧ HSub [] h) → X.cartridgeref1_Mul_e7 x10 = some r → K5 env h := by
    intro x10 env h hE hX
    obtain ⟨_u, henv, nd, hs⟩ := hE
    unfold X.cartridgeref1_Mul_e7 at hX
    refine hK5 _ _ (TK.keep [5] ?_)
    rw [henv]
    refine TK.subH hs ?_
    refine TK.seq_k fun K11 hK11 => ?_
    refine TK.seq_k fun K12 hK12 => ?_
    refine TK.reg ?_
    refine TL.p (C := cx) (gc := true) (p_mv rfl) rfl rfl ?_
    refine TL.nil ?_
    refine hK12 _ _ ?_
    refine TK.block ?_
    obtain ⟨o13, hO13, hA13⟩ := bind_some hX
    have E13 : ∀ (x16 : Int) (env : Env) (h : Hp), (∃ _u : Unit, keepE [5] env = [(5, true, Enc.v (x16 : Int))] ∧ Nd [] ∧ HSub [] h) → X.cartridgeref1_Mul_e13 x16 = some r → K11 env h := by
      intro x16 env h hE hX
      obtain ⟨_u, henv, nd, hs⟩ := hE
      unfold X.cartridgeref1_Mul_e13 at hX
      refine hK11 _ _ (TK.keep [5] ?_)
      rw [henv]
      refine TK.subH hs ?_
      refine TK.seq_k fun K17 hK17 => ?_
      refine TK.reg ?_
      refine TL.p (C := cx) (gc := true) (p_mv rfl) rfl rfl ?_
      refine TL.p (C := cx) (gc := true) (p_cvt src3 kd5 rfl (cv_u8 _)) rfl rfl ?_
      refine TL.p (C := cx) (gc := true) (p_mv rfl) rfl rfl ?_
      refine TL.nil ?_
      refine hK17 _ _ ?_
      refine TK.ret ?_
      try dsimp only [thenQ]
      exact ret1 (v := Enc.v ((u8 x16) : UInt8)) rfl (by obtain rfl := some_in hX; rfl) (v_val _)
    refine TK.iter [5, 7] (fun s env h => match s with | (x14, i15) => ∃ _u : Unit, env = [(5, true, Enc.v (x14 : Int)), (7, true, Enc.v (i15 : Int))] ∧ Nd [] ∧ HSub [] h) hO13 ⟨(), rfl, Nd_nil, HSub.refl _⟩ ?_
    rintro ⟨x14, i15⟩ env h x13x ⟨_u, rfl, nd, hs⟩ hX hR13
    refine TK.subH hs ?_
    unfold X.cartridgeref1_Mul_s13 at hX
    try dsimp only at hX
    refine TK.seq_k fun K18 hK18 => ?_
    refine TK.seq_k fun K19 hK19 => ?_
    refine TK.reg ?_
    refine TL.p (C := cx) (gc := true) (p_mv rfl) rfl rfl ?_
    refine TL.p (C := cx) (gc := true) (p_geq rfl rfl) rfl rfl ?_
    refine TL.nil ?_
    refine hK19 _ _ ?_
    refine TK.cond (b := (decide (i15 ≥ (8 : Int)))) rfl (fun hc => ?_) (fun hc => ?_)
    · have hX := ite_t hc hX
      refine TK.skip ?_
      refine hK18 _ _ ?_
      refine TK.seq_k fun K20 hK20 => ?_
      have J20 : ∀ (x21 : Int) (env : Env) (h : Hp), (∃ _u : Unit, keepE [5, 7] env = [(5, true, Enc.v (x21 : Int)), (7, true, Enc.v (i15 : Int))] ∧ Nd [] ∧ HSub [] h) → X.cartridgeref1_Mul_j20 i15 x21 = some x13x → K20 env h := by
        intro x21 env h hE hX
        obtain ⟨_u, henv, nd, hs⟩ := hE
        unfold X.cartridgeref1_Mul_j20 at hX
        refine hK20 _ _ (TK.keep [5, 7] ?_)
        rw [henv]
        refine TK.subH hs ?_
        refine TK.reg ?_
        refine TL.p (C := cx) (gc := true) (p_mv rfl) rfl rfl ?_
        refine TL.p (C := cx) (gc := true) (p_sub rfl rfl) rfl rfl ?_
        refine TL.p (C := cx) (gc := true) (p_mv rfl) rfl rfl ?_
        refine TL.nil ?_
        exact ⟨_, (some_in hX).symm, (), rfl, Nd_nil, HSub.refl _⟩
      refine TK.block ?_
      refine TK.seq_k fun K22 hK22 => ?_
      refine TK.reg ?_
      refine TL.p (C := cx) (gc := true) (p_mv rfl) rfl rfl ?_
      refine TL.p (C := cx) (gc := true) (p_mv rfl) rfl rfl ?_
      refine TL.p (C := cx) (gc := true) (p_cvt src3 kd97 rfl (cv_u64 _)) rfl rfl ?_
      refine TL.p (C := cx) (gc := true) (p_shr rfl rfl (fun _ => by omega)) rfl rfl ?_
      refine TL.p (C := cx) (gc := true) (p_and64 rfl rfl) rfl rfl ?_
      refine TL.p (C := cx) (gc := true) (p_eql rfl rfl) rfl rfl ?_
      refine TL.nil ?_
      refine hK22 _ _ ?_
      refine TK.cond (b := ((and64 (shr64 x14 ((u64 i15).toNat : Int)) (1 : Int)) == (1 : Int))) rfl (fun hc => ?_) (fun hc => ?_)
      · have hX := ite_t hc hX
        refine TK.reg ?_
        refine TL.p (C := cx) (gc := true) (p_mv rfl) rfl rfl ?_
        refine TL.p (C := cx) (gc := true) (p_mv rfl) rfl rfl ?_
        refine TL.p (C := cx) (gc := true) (p_sub rfl rfl) rfl rfl ?_
        refine TL.p (C := cx) (gc := true) (p_cvt src3 kd97 rfl (cv_u64 _)) rfl rfl ?_
        refine TL.p (C := cx) (gc := true) (p_shl rfl rfl (fun _ => by omega)) rfl rfl ?_
        refine TL.p (C := cx) (gc := true) (p_xor64 rfl rfl) rfl rfl ?_
        refine TL.p (C := cx) (gc := true) (p_mv rfl) rfl rfl ?_
        refine TL.nil ?_
        exact J20 (xor64 x14 (shl64 (285 : Int) ((u64 (wr (i15 - (8 : Int)))).toNat : Int))) _ _ ⟨(), rfl, Nd_nil, HSub.refl _⟩ hX
      · have hX := ite_f hc hX
        refine TK.skip ?_
        exact J20 x14 _ _ ⟨(), rfl, Nd_nil, HSub.refl _⟩ hX
    · have hX := ite_f hc hX
      refine TK.exit ?_
      obtain rfl := hR13 _ (some_in hX).symm
      exact E13 x14 _ _ ⟨(), rfl, Nd_nil, HSub.refl _⟩ hA13
  refine TK.iter [0, 1, 5, 6] (fun s env h => match s with | (x8, i9) => ∃ _u : Unit, env = [(0, true, Enc.v (a1 : UInt8)), (1, true, Enc.v (b2 : UInt8)), (5, true, Enc.v (x8 : Int)), (6, true, Enc.v (i9 : Int))] ∧ Nd [] ∧ HSub [] h) hO7 ⟨(), rfl, Nd_nil, HSub.refl _⟩ ?_
  rintro ⟨x8, i9⟩ env h x7x ⟨_u, rfl, nd, hs⟩ hX hR7
  refine TK.subH hs ?_
  unfold X.cartridgeref1_Mul_s7 at hX
  try dsimp only at hX
  refine TK.seq_k fun K23 hK23 => ?_
  refine TK.seq_k fun K24 hK24 => ?_
  refine TK.reg ?_
  refine TL.p (C := cx) (gc := true) (p_mv rfl) rfl rfl ?_
  refine TL.p (C := cx) (gc := true) (p_lss rfl rfl) rfl rfl ?_
  refine TL.nil ?_
  refine hK24 _ _ ?_
  refine TK.cond (b := (decide (i9 < (8 : Int)))) rfl (fun hc => ?_) (fun hc => ?_)
  · have hX := ite_t hc hX
    refine TK.skip ?_
    refine hK23 _ _ ?_
    refine TK.seq_k fun K25 hK25 => ?_
    have J25 : ∀ (x26 : Int) (env : Env) (h : Hp), (∃ _u : Unit, keepE [0, 1, 5, 6] env = [(0, true, Enc.v (a1 : UInt8)), (1, true, Enc.v (b2 : UInt8)), (5, true, Enc.v (x26 : Int)), (6, true, Enc.v (i9 : Int))] ∧ Nd [] ∧ HSub [] h) → X.cartridgeref1_Mul_j25 i9 x26 = some x7x → K25 env h := by
      intro x26 env h hE hX
      obtain ⟨_u, henv, nd, hs⟩ := hE
      unfold X.cartridgeref1_Mul_j25 at hX
      refine hK25 _ _ (TK.keep [0, 1, 5, 6] ?_)
      rw [henv]
      refine TK.subH hs ?_
      refine TK.reg ?_
      refine TL.p (C := cx) (gc := true) (p_mv rfl) rfl rfl ?_
      refine TL.p (C := cx) (gc := true) (p_add rfl rfl) rfl rfl ?_
      refine TL.p (C := cx) (gc := true) (p_mv rfl) rfl rfl ?_
      refine TL.nil ?_
      exact ⟨_, (some_in hX).symm, (), rfl, Nd_nil, HSub.refl _⟩
    refine TK.block ?_
    refine TK.seq_k fun K27 hK27 => ?_
    refine TK.reg ?_
    refine TL.p (C := cx) (gc := true) (p_mv rfl) rfl rfl ?_
    refine TL.p (C := cx) (gc := true) (p_mv rfl) rfl rfl ?_
    refine TL.p (C := cx) (gc := true) (p_cvt src3 kd97 rfl (cv_u64 _)) rfl rfl ?_
    refine TL.p (C := cx) (gc := true) (p8_shr (a := b2) (b := (u64 i9).toNat) rfl rfl) rfl rfl ?_
    refine TL.p (C := cx) (gc := true) (p8_and (a := (shr8 b2 (u64 i9).toNat)) (b := (1 : UInt8)) rfl rfl) rfl rfl ?_
    refine TL.p (C := cx) (gc := true) (p8_eql (a := ((shr8 b2 (u64 i9).toNat) &&& (1 : UInt8))) (b := (1 : UInt8)) rfl rfl) rfl rfl ?_
    refine TL.nil ?_
    refine hK27 _ _ ?_
    refine TK.cond (b := (((shr8 b2 (u64 i9).toNat) &&& (1 : UInt8)) == (1 : UInt8))) rfl (fun hc => ?_) (fun hc => ?_)
    · have hX := ite_t hc hX
      refine TK.reg ?_
      refine TL.p (C := cx) (gc := true) (p_mv rfl) rfl rfl ?_
      refine TL.p (C := cx) (gc := true) (p_mv rfl) rfl rfl ?_
      refine TL.p (C := cx) (gc := true) (p_cvt src5 kd3 rfl (cv_8 a1)) rfl rfl ?_
      refine TL.p (C := cx) (gc := true) (p_mv rfl) rfl rfl ?_
      refine TL.p (C := cx) (gc := true) (p_cvt src3 kd97 rfl (cv_u64 _)) rfl rfl ?_
      refine TL.p (C := cx) (gc := true) (p_shl rfl rfl (fun _ => by omega)) rfl rfl ?_
      refine TL.p (C := cx) (gc := true) (p_xor64 rfl rfl) rfl rfl ?_
      refine TL.p (C := cx) (gc := true) (p_mv rfl) rfl rfl ?_
      refine TL.nil ?_
      exact J25 (xor64 x8 (shl64 (a1.toNat : Int) ((u64 i9).toNat : Int))) _ _ ⟨(), rfl, Nd_nil, HSub.refl _⟩ hX
    · have hX := ite_f hc hX
      refine TK.skip ?_
      exact J25 x8 _ _ ⟨(), rfl, Nd_nil, HSub.refl _⟩ hX
  · have hX := ite_f hc hX
    refine TK.exit ?_
    obtain rfl := hR7 _ (some_in hX).symm
    exact E7 x8 _ _ ⟨(), rfl, Nd_nil, HSub.refl _⟩ hA7

/-- cartridge/cartridgeref1.MulMatrix -/
theorem ok_cartridgeref1_MulMatrix (a1 : (List (List UInt8))) (b2 : (List (List UInt8))) (r : ((List (List UInt8)) × Int)) (hX : X.cartridgeref1_MulMatrix a1 b2 = some r) : Fun Try.prog 33 [Enc.v (a1 : (List (List UInt8))), Enc.v (b2 : (List (List UInt8)))] (· = .tup 2 (ofL [Enc.v r.1, Enc.v r.2])) := by
  refine Fun.of b33 (Nat.le_of_ble_eq_true rfl) (allVal.mem ⟨(by exact (v_val _)), (by exact (v_val _)), trivial⟩) ?_
  unfold k33
  have nd : Nd [] := Nd_nil
  unfold X.cartridgeref1_MulMatrix at hX
  refine TK.seq_k fun K3 hK3 => ?_
  refine TK.reg ?_
  refine TL.p (C := cx) (gc := true) (p_mv rfl) rfl rfl ?_
  refine TL.p (C := cx) (gc := true) (p_mv rfl) rfl rfl ?_
  refine TL.nil ?_
  refine hK3 _ _ ?_
  refine TK.seq_k fun K4 hK4 => ?_
  refine TK.seq_k fun K5 hK5 => ?_
  refine TK.reg ?_
  refine TL.p (C := cx) (gc := true) (p_mv rfl) rfl rfl ?_
  obtain ⟨r6, hr6, hX⟩ := bind_some hX
  refine TL.cvX rfl rfl rfl (fun _ => ⟨rfl, ⟨rfl, trivial⟩⟩) (fun e => ok_cartridgeref1_RightMatrix a1 _ hr6) ?_
  refine TL.p (C := cx) (gc := true) (p_not rfl) rfl rfl ?_
  refine TL.p (C := cx) (gc := true) (p_mv rfl) rfl rfl ?_
  refine TL.p (C := cx) (gc := (!((!r6)))) (p_mv rfl (hg := fun e => rfl)) (gcF1 rfl) rfl ?_
  obtain ⟨r7, hr7, hX⟩ := bind_some hX
  refine TL.cvX (gcF1 rfl) rfl rfl (fun e => ⟨rfl, ⟨e, trivial⟩⟩) (fun e => ok_cartridgeref1_RightMatrix b2 _ (optG_t hr7 e)) ?_
  refine TL.p (C := cx) (gc := (!((!r6)))) (p_not rfl (hg := fun e => e)) (gcF1 rfl) rfl ?_
  refine TL.p (C := cx) (gc := true) (p_or rfl rfl (fun e => ⟨rfl, fun h => (not_t h)⟩)) rfl rfl ?_
  refine TL.p (C := cx) (gc := true) (p_mv rfl) rfl rfl ?_
  refine TL.p (C := cx) (gc := (!(((!r6) || (!r7))))) (p_mv rfl (hg := fun e => rfl)) (gcF1 rfl) rfl ?_
  obtain ⟨e8, he8, hX⟩ := bind_some hX
  refine TL.p (C := cx) (gc := (!(((!r6) || (!r7))))) (p_iaL (xs := a1) kd22 ty23 rfl rfl rfl (fun e => optG_t he8 e) (hg := fun e => ⟨e, rfl⟩)) (gcF1 rfl) rfl ?_
  refine TL.p (C := cx) (gc := (!(((!r6) || (!r7))))) (p_ldE (xs := a1) (a := e8) (e8 : (List UInt8)) ty23 rfl rfl (fun e => optG_t he8 e) rfl rfl rfl (hg := fun e => e)) (gcF1 rfl) rfl ?_
  refine TL.p (C := cx) (gc := (!(((!r6) || (!r7))))) (p_lenL (xs := e8) kd23 rfl (hg := fun e => e)) (gcF1 rfl) rfl ?_
  refine TL.p (C := cx) (gc := (!(((!r6) || (!r7))))) (p_mv rfl (hg := fun e => rfl)) (gcF1 rfl) rfl ?_
  refine TL.p (C := cx) (gc := (!(((!r6) || (!r7))))) (p_lenL (xs := b2) kd22 rfl (hg := fun e => e)) (gcF1 rfl) rfl ?_
  refine TL.p (C := cx) (gc := (!(((!r6) || (!r7))))) (p_neq rfl rfl (hg := fun e => ⟨e, e⟩)) (gcF1 rfl) rfl ?_
  refine TL.p (C := cx) (gc := true) (p_or rfl rfl (fun e => ⟨rfl, fun h => (not_t h)⟩)) rfl rfl ?_
  refine TL.nil ?_
  refine hK5 _ _ ?_
  refine TK.cond (b := (((!r6) || (!r7)) || ((e8.length : Int) != (b2.length : Int)))) rfl (fun hc => ?_) (fun hc => ?_)
  · have hX := ite_t hc hX
    refine TK.seq_k fun K9 hK9 => ?_
    refine TK.reg ?_
    refine TL.p (C := cx) (gc := true) (p_mv rfl) rfl rfl ?_
    refine TL.p (C := cx) (gc := true) (p_mv rfl) rfl rfl ?_
    refine TL.nil ?_
    refine hK9 _ _ ?_
    refine TK.wk 4 (L ([] : (List (List UInt8)))) rfl Wk_nil ?_
    refine TK.ret ?_
    try dsimp only [thenQ]
    exact retN (vs := [Enc.v (([] : (List (List UInt8))) : (List (List UInt8))), Enc.v ((1 : Int) : Int)]) ⟨rfl, rfl, trivial⟩ (by obtain rfl := some_in hX; rfl) (allVal.mem ⟨v_val _, v_val _, trivial⟩)
  · have hX := ite_f hc hX
    refine TK.skip ?_
    refine hK4 _ _ ?_
    refine TK.seq_k fun K10 hK10 => ?_
    refine TK.reg ?_
    refine TL.p (C := cx) (gc := true) (p_mv rfl) rfl rfl ?_
    refine TL.nil ?_
    refine hK10 _ _ ?_
    refine TK.ownL (α := (List UInt8)) 6 23 nd rfl (.inl rfl) fun b11 nd => ?_
    refine TK.seq_k fun K12 hK12 => ?_
    refine TK.seq_k fun K13 hK13 => ?_
    refine TK.reg ?_
    refine TL.p (C := cx) (gc := true) (p_mv rfl) rfl rfl ?_
    refine TL.nil ?_
    refine hK13 _ _ ?_
    refine TK.block ?_
    obtain ⟨o14, hO14, hA14⟩ := bind_some hX
    have E14 : ∀ (l19 : List (List UInt8)) (env : Env) (h : Hp), (∃ b18, keepE [6] env = [(6, true, OL (α := (List UInt8)) b18 l19)] ∧ Nd [(b18, RL (α := (List UInt8)) 23 l19)] ∧ HSub [(b18, RL (α := (List UInt8)) 23 l19)] h) → X.cartridgeref1_MulMatrix_e14 l19 = some r → K12 env h := by
      intro l19 env h hE hX
      obtain ⟨b18, henv, nd, hs⟩ := hE
      unfold X.cartridgeref1_MulMatrix_e14 at hX
      refine hK12 _ _ (TK.keep [6] ?_)
      rw [henv]
      refine TK.subH hs ?_
      refine TK.seq_k fun K20 hK20 => ?_
      refine TK.reg ?_
      refine TL.p (C := cx) (gc := true) (p_mv rfl) rfl rfl ?_
      refine TL.p (C := cx) (gc := true) (p_mv rfl) rfl rfl ?_
      refine TL.p (C := cx) (gc := true) (p_mv rfl) rfl rfl ?_
      refine TL.nil ?_
      refine hK20 _ _ ?_
      refine TK.lay [(4, L l19)] nd (j := 0) rfl ⟨⟨_, rfl, fix_OL nd (j := 0) rfl, rfl⟩, trivial⟩ fun nd => ?_
      refine TK.ret ?_
      try dsimp only [thenQ]
      exact retN (vs := [Enc.v (l19 : (List (List UInt8))), Enc.v ((0 : Int) : Int)]) ⟨rfl, rfl, trivial⟩ (by obtain rfl := some_in hX; rfl) (allVal.mem ⟨v_val _, v_val _, trivial⟩)
    refine TK.iter [0, 1, 6, 7] (fun s env h => match s with | (out16, i17) => ∃ b15, env = [(0, true, Enc.v (a1 : (List (List UInt8)))), (1, true, Enc.v (b2 : (List (List UInt8)))), (6, true, OL (α := (List UInt8)) b15 out16), (7, true, Enc.v (i17 : Int))] ∧ Nd [(b15, RL (α := (List UInt8)) 23 out16)] ∧ HSub [(b15, RL (α := (List UInt8)) 23 out16)] h) hO14 ⟨b11, rfl, (Nd.pick nd (is := [0]) (by decide)), (HSub.pick nd (is := [0]) (by decide))⟩ ?_
    rintro ⟨out16, i17⟩ env h x14x ⟨b15, rfl, nd, hs⟩ hX hR14
    refine TK.subH hs ?_
    unfold X.cartridgeref1_MulMatrix_s14 at hX
    try dsimp only at hX
    refine TK.seq_k fun K21 hK21 => ?_
    refine TK.seq_k fun K22 hK22 => ?_
    refine TK.reg ?_
    refine TL.p (C := cx) (gc := true) (p_mv rfl) rfl rfl ?_
    refine TL.p (C := cx) (gc := true) (p_mv rfl) rfl rfl ?_
    refine TL.p (C := cx) (gc := true) (p_lenL (xs := a1) kd22 rfl) rfl rfl ?_
    refine TL.p (C := cx) (gc := true) (p_lss rfl rfl) rfl rfl ?_
    refine TL.nil ?_
    refine hK22 _ _ ?_
    refine TK.cond (b := (decide (i17 < (a1.length : Int)))) rfl (fun hc => ?_) (fun hc => ?_)
    · have hX := ite_t hc hX
      refine TK.skip ?_
      refine hK21 _ _ ?_
      refine TK.seq_k fun K23 hK23 => ?_
      refine TK.block ?_
      refine TK.seq_k fun K24 hK24 => ?_
      refine TK.reg ?_
      refine TL.p (C := cx) (gc := true) (p_mv rfl) rfl rfl ?_
      obtain ⟨e25, he25, hX⟩ := bind_some hX
      refine TL.p (C := cx) (gc := true) (p_iaL (xs := b2) kd22 ty23 rfl rfl rfl (fun _ => he25)) rfl rfl ?_
      refine TL.p (C := cx) (gc := true) (p_ldE (xs := b2) (a := e25) (e25 : (List UInt8)) ty23 rfl rfl (fun _ => he25) rfl rfl rfl) rfl rfl ?_
      refine TL.p (C := cx) (gc := true) (p_lenL (xs := e25) kd23 rfl) rfl rfl ?_
      obtain ⟨u26, hu26, hX⟩ := bind_some hX
      refine TL.mkO (C := cx) nd (0 : UInt8) kd23 ty5 rfl (fun j hj => by (have : j = 0 := by simpa [Enc.sz] using hj); subst this; rfl) rfl rfl (by decide) (need_t hu26) rfl fun b27 nd => ?_
      refine TL.p (C := cx) (gc := true) (p_mv rfl) rfl rfl ?_
      refine TL.nil ?_
      refine hK24 _ _ ?_
      refine TK.seq_k fun K28 hK28 => ?_
      refine TK.seq_k fun K29 hK29 => ?_
      refine TK.reg ?_
      refine TL.p (C := cx) (gc := true) (p_mv rfl) rfl rfl ?_
      refine TL.nil ?_
      refine hK29 _ _ ?_
      refine TK.block ?_
      obtain ⟨o30, hO30, hA30⟩ := bind_some hX
      have E30 : ∀ (l37 : List UInt8) (env : Env) (h : Hp), (∃ b35 b36, keepE [0, 1, 6, 7, 8] env = [(0, true, Enc.v (a1 : (List (List UInt8)))), (1, true, Enc.v (b2 : (List (List UInt8)))), (6, true, OL (α := (List UInt8)) b35 out16), (7, true, Enc.v (i17 : Int)), (8, true, OL (α := UInt8) b36 l37)] ∧ Nd [(b35, RL (α := (List UInt8)) 23 out16), (b36, RL (α := UInt8) 5 l37)] ∧ HSub [(b35, RL (α := (List UInt8)) 23 out16), (b36, RL (α := UInt8) 5 l37)] h) → X.cartridgeref1_MulMatrix_e30 out16 i17 l37 = some x14x → K28 env h := by
        intro l37 env h hE hX
        obtain ⟨b35, b36, henv, nd, hs⟩ := hE
        unfold X.cartridgeref1_MulMatrix_e30 at hX
        refine hK28 _ _ (TK.keep [0, 1, 6, 7, 8] ?_)
        rw [henv]
        refine TK.subH hs ?_
        refine TK.reg ?_
        refine TL.p (C := cx) (gc := true) (p_mv rfl) rfl rfl ?_
        refine TL.p (C := cx) (gc := true) (p_mv rfl) rfl rfl ?_
        refine TL.lay [(75, L l37)] nd (j := 1) rfl ⟨⟨_, rfl, fix_OL nd (j := 1) rfl, rfl⟩, trivial⟩ fun nd => ?_
        refine TL.lit (C := cx) ([l37] : List (List UInt8)) kd22 ty23 rfl ⟨⟨rfl, rfl⟩, trivial⟩ rfl rfl rfl ?_
        obtain ⟨u38, hu38, hX⟩ := bind_some hX
        refine TL.appO (C := cx) nd kd22 bo22 ty23 rfl rfl (j := 0) rfl rfl (Src_L _) (by decide) (need_t hu38) rfl fun nd => ?_
        refine TL.p (C := cx) (gc := true) (p_mv rfl) rfl rfl ?_
        refine TL.nil ?_
        refine hK23 _ _ ?_
        refine TK.reg ?_
        refine TL.p (C := cx) (gc := true) (p_mv rfl) rfl rfl ?_
        refine TL.p (C := cx) (gc := true) (p_add rfl rfl) rfl rfl ?_
        refine TL.p (C := cx) (gc := true) (p_mv rfl) rfl rfl ?_
        refine TL.nil ?_
        exact ⟨_, (some_in hX).symm, b35, rfl, (Nd.pick nd (is := [0]) (by decide)), (HSub.pick nd (is := [0]) (by decide))⟩
      refine TK.iter [0, 1, 6, 7, 8, 9] (fun s env h => match s with | (row33, j34) => ∃ b31 b32, env = [(0, true, Enc.v (a1 : (List (List UInt8)))), (1, true, Enc.v (b2 : (List (List UInt8)))), (6, true, OL (α := (List UInt8)) b31 out16), (7, true, Enc.v (i17 : Int)), (8, true, OL (α := UInt8) b32 row33), (9, true, Enc.v (j34 : Int))] ∧ Nd [(b31, RL (α := (List UInt8)) 23 out16), (b32, RL (α := UInt8) 5 row33)] ∧ HSub [(b31, RL (α := (List UInt8)) 23 out16), (b32, RL (α := UInt8) 5 row33)] h) hO30 ⟨b15, b27, rfl, (Nd.pick nd (is := [1, 0]) (by decide)), (HSub.pick nd (is := [1, 0]) (by decide))⟩ ?_
      rintro ⟨row33, j34⟩ env h x30x ⟨b31, b32, rfl, nd, hs⟩ hX hR30
      refine TK.subH hs ?_
      unfold X.cartridgeref1_MulMatrix_s30 at hX
      try dsimp only at hX
      refine TK.seq_k fun K39 hK39 => ?_
      refine TK.seq_k fun K40 hK40 => ?_
      refine TK.reg ?_
      refine TL.p (C := cx) (gc := true) (p_mv rfl) rfl rfl ?_
      refine TL.p (C := cx) (gc := true) (p_mv rfl) rfl rfl ?_
      refine TL.p (C := cx) (gc := true) (p_lenR kd23 rfl (fun _ => refOK_of nd (j := 1) rfl rfl)) rfl rfl ?_
      refine TL.p (C := cx) (gc := true) (p_lss rfl rfl) rfl rfl ?_
      refine TL.nil ?_
      refine hK40 _ _ ?_
      refine TK.cond (b := (decide (j34 < (row33.length : Int)))) rfl (fun hc => ?_) (fun hc => ?_)
      · have hX := ite_t hc hX
        refine TK.skip ?_
        refine hK39 _ _ ?_
        refine TK.seq_k fun K41 hK41 => ?_
        refine TK.block ?_
        refine TK.seq_k fun K42 hK42 => ?_
        refine TK.reg ?_
        refine TL.p (C := cx) (gc := true) (p_mv rfl) rfl rfl ?_
        refine TL.nil ?_
        refine hK42 _ _ ?_
        refine TK.block ?_
        obtain ⟨o43, hO43, hA43⟩ := bind_some hX
        have E43 : ∀ (l50 : List UInt8) (env : Env) (h : Hp), (∃ b48 b49, keepE [0, 1, 6, 7, 8, 9] env = [(0, true, Enc.v (a1 : (List (List UInt8)))), (1, true, Enc.v (b2 : (List (List UInt8)))), (6, true, OL (α := (List UInt8)) b48 out16), (7, true, Enc.v (i17 : Int)), (8, true, OL (α := UInt8) b49 l50), (9, true, Enc.v (j34 : Int))] ∧ Nd [(b48, RL (α := (List UInt8)) 23 out16), (b49, RL (α := UInt8) 5 l50)] ∧ HSub [(b48, RL (α := (List UInt8)) 23 out16), (b49, RL (α := UInt8) 5 l50)] h) → X.cartridgeref1_MulMatrix_e43 j34 l50 = some x30x → K41 env h := by
          intro l50 env h hE hX
          obtain ⟨b48, b49, henv, nd, hs⟩ := hE
          unfold X.cartridgeref1_MulMatrix_e43 at hX
          refine hK41 _ _ (TK.keep [0, 1, 6, 7, 8, 9] ?_)
          rw [henv]
          refine TK.subH hs ?_
          refine TK.reg ?_
          refine TL.p (C := cx) (gc := true) (p_mv rfl) rfl rfl ?_
          refine TL.p (C := cx) (gc := true) (p_add rfl rfl) rfl rfl ?_
          refine TL.p (C := cx) (gc := true) (p_mv rfl) rfl rfl ?_
          refine TL.nil ?_
          exact ⟨_, (some_in hX).symm, b48, b49, rfl, (Nd.pick nd (is := [0, 1]) (by decide)), (HSub.pick nd (is := [0, 1]) (by decide))⟩
        refine TK.iter [0, 1, 6, 7, 8, 9, 10] (fun s env h => match s with | (row46, k47) => ∃ b44 b45, env = [(0, true, Enc.v (a1 : (List (List UInt8)))), (1, true, Enc.v (b2 : (List (List UInt8)))), (6, true, OL (α := (List UInt8)) b44 out16), (7, true, Enc.v (i17 : Int)), (8, true, OL (α := UInt8) b45 row46), (9, true, Enc.v (j34 : Int)), (10, true, Enc.v (k47 : Int))] ∧ Nd [(b44, RL (α := (List UInt8)) 23 out16), (b45, RL (α := UInt8) 5 row46)] ∧ HSub [(b44, RL (α := (List UInt8)) 23 out16), (b45, RL (α := UInt8) 5 row46)] h) hO43 ⟨b31, b32, rfl, (Nd.pick nd (is := [0, 1]) (by decide)), (HSub.pick nd (is := [0, 1]) (by decide))⟩ ?_
        rintro ⟨row46, k47⟩ env h x43x ⟨b44, b45, rfl, nd, hs⟩ hX hR43
        refine TK.subH hs ?_
        unfold X.cartridgeref1_MulMatrix_s43 at hX
        try dsimp only at hX
        refine TK.seq_k fun K51 hK51 => ?_
        refine TK.seq_k fun K52 hK52 => ?_
        refine TK.reg ?_
        refine TL.p (C := cx) (gc := true) (p_mv rfl) rfl rfl ?_
        refine TL.p (C := cx) (gc := true) (p_mv rfl) rfl rfl ?_
        refine TL.p (C := cx) (gc := true) (p_lenL (xs := b2) kd22 rfl) rfl rfl ?_
        refine TL.p (C := cx) (gc := true) (p_lss rfl rfl) rfl rfl ?_
        refine TL.nil ?_
        refine hK52 _ _ ?_
        refine TK.cond (b := (decide (k47 < (b2.length : Int)))) rfl (fun hc => ?_) (fun hc => ?_)
        · have hX := ite_t hc hX
          refine TK.skip ?_
          refine hK51 _ _ ?_
          refine TK.seq_k fun K53 hK53 => ?_
          refine TK.block ?_
          refine TK.pick [1, 0] nd (by decide) fun nd => ?_
          have ndS : Nd [(b44, RL (α := (List UInt8)) 23 out16)] := Nd.pick nd (is := [1]) (by decide)
          refine TK.endK fun KD hKD => ?_
          refine TK.drwX (h := [(b45, RL (α := UInt8) 5 row46)]) (hS := [(b44, RL (α := (List UInt8)) 23 out16)]) [(0, 0), (0, 1), (0, 2), (0, 3), (1, 4), (1, 5), (0, 6), (0, 7), (0, 8), (0, 9), (0, 10), (0, 11), (0, 12), (0, 13), (0, 14), (0, 15), (0, 16), (0, 17), (0, 18), (0, 19), (0, 20), (0, 21), (1, 22), (2, 23)] mixed (by kernel_rfl) (HSub_app nd) ?_
          refine DR0 (gc := true) rfl (vok_p (C := cx) (p_mv rfl)) rfl rfl ?_
          refine DR0 (gc := true) rfl (vok_p (C := cx) (p_mv rfl)) rfl rfl ?_
          refine DR0 (gc := true) rfl (vok_p (C := cx) (p_mv rfl)) rfl rfl ?_
          refine DR0 (gc := true) rfl (vok_p (C := cx) (p_mv rfl)) rfl rfl ?_
          obtain ⟨e54, he54, hX⟩ := bind_some hX
          refine DR1 (gc := true) rfl (vok_p (C := cx) (p_iaO (xs := row46) kd23 ty5 rfl rfl rfl nd (j := 0) rfl (fun _ => he54))) rfl rfl ?_
          refine DR1 (gc := true) rfl (vok_p (C := cx) (p_ldO (xs := row46) (a := e54) (e54 : UInt8) ty5 rfl rfl nd (j := 0) rfl (fun _ => he54) rfl rfl rfl)) rfl rfl ?_
          refine DR0 (gc := true) rfl (vok_p (C := cx) (p_mv rfl)) rfl rfl ?_
          refine DR0 (gc := true) rfl (vok_p (C := cx) (p_mv rfl)) rfl rfl ?_
          obtain ⟨e55, he55, hX⟩ := bind_some hX
          refine DR0 (gc := true) rfl (vok_p (C := cx) (p_iaL (xs := a1) kd22 ty23 rfl rfl rfl (fun _ => he55))) rfl rfl ?_
          refine DR0 (gc := true) rfl (vok_p (C := cx) (p_ldE (xs := a1) (a := e55) (e55 : (List UInt8)) ty23 rfl rfl (fun _ => he55) rfl rfl rfl)) rfl rfl ?_
          refine DR0 (gc := true) rfl (vok_p (C := cx) (p_mv rfl)) rfl rfl ?_
          obtain ⟨e56, he56, hX⟩ := bind_some hX
          refine DR0 (gc := true) rfl (vok_p (C := cx) (p_iaL (xs := e55) kd23 ty5 rfl rfl rfl (fun _ => he56))) rfl rfl ?_
          refine DR0 (gc := true) rfl (vok_p (C := cx) (p_ldE (xs := e55) (a := e56) (e56 : UInt8) ty5 rfl rfl (fun _ => he56) rfl rfl rfl)) rfl rfl ?_
          refine DR0 (gc := true) rfl (vok_p (C := cx) (p_mv rfl)) rfl rfl ?_
          refine DR0 (gc := true) rfl (vok_p (C := cx) (p_mv rfl)) rfl rfl ?_
          obtain ⟨e57, he57, hX⟩ := bind_some hX
          refine DR0 (gc := true) rfl (vok_p (C := cx) (p_iaL (xs := b2) kd22 ty23 rfl rfl rfl (fun _ => he57))) rfl rfl ?_
          refine DR0 (gc := true) rfl (vok_p (C := cx) (p_ldE (xs := b2) (a := e57) (e57 : (List UInt8)) ty23 rfl rfl (fun _ => he57) rfl rfl rfl)) rfl rfl ?_
          refine DR0 (gc := true) rfl (vok_p (C := cx) (p_mv rfl)) rfl rfl ?_
          obtain ⟨e58, he58, hX⟩ := bind_some hX
          refine DR0 (gc := true) rfl (vok_p (C := cx) (p_iaL (xs := e57) kd23 ty5 rfl rfl rfl (fun _ => he58))) rfl rfl ?_
          refine DR0 (gc := true) rfl (vok_p (C := cx) (p_ldE (xs := e57) (a := e58) (e58 : UInt8) ty5 rfl rfl (fun _ => he58) rfl rfl rfl)) rfl rfl ?_
          obtain ⟨r59, hr59, hX⟩ := bind_some hX
          refine DR0 (gc := true) rfl (vok_c rfl (fun _ => ⟨rfl, ⟨rfl, ⟨rfl, trivial⟩⟩⟩) (fun e => ok_cartridgeref1_Mul e56 e58 _ hr59)) rfl rfl ?_
          refine DR0 (gc := true) rfl (vok_p (C := cx) (p8_xor (a := e54) (b := r59) rfl rfl)) rfl rfl ?_
          obtain ⟨e60, he60, hX⟩ := bind_some hX
          refine DR1 (gc := true) rfl (vok_p (C := cx) (p_iaO (xs := row46) kd23 ty5 rfl rfl rfl nd (j := 0) rfl (fun _ => he60))) rfl rfl ?_
          refine DR2n rfl ?_
          refine TL.stW (C := cx) (xs := row46) (i := j34) (lu := Enc.cl ((e54 ^^^ r59) : UInt8)) (a' := (e54 ^^^ r59)) nd ty5 rfl (j := 0) rfl (by simp [Enc.sz]) (inb_of he60 (by simp)) rfl (Cells_v ((e54 ^^^ r59) : UInt8)) rfl (WkL_refl _) fun nd => ?_
          refine TL.nil ⟨.nilp, [(b45, RL (α := UInt8) 5 (row46.set j34.toNat (e54 ^^^ r59)))], rfl, rfl, HSub_app nd, ?_⟩
          refine DRend ?_
          refine hKD _ _ ?_
          refine TL.cv 8 (OL (α := UInt8) b45 (row46.set j34.toNat (e54 ^^^ r59))) rfl (Wk_eq (OL_len (by simp))) ?_
          refine TL.nil ?_
          refine hK53 _ _ ?_
          refine TK.reg ?_
          refine TL.p (C := cx) (gc := true) (p_mv rfl) rfl rfl ?_
          refine TL.p (C := cx) (gc := true) (p_add rfl rfl) rfl rfl ?_
          refine TL.p (C := cx) (gc := true) (p_mv rfl) rfl rfl ?_
          refine TL.nil ?_
          exact ⟨_, (some_in hX).symm, b44, b45, rfl, (Nd.pick nd (is := [1, 0]) (by decide)), (HSub.pick nd (is := [1, 0]) (by decide))⟩
        · have hX := ite_f hc hX
          refine TK.exit ?_
          obtain rfl := hR43 _ (some_in hX).symm
          exact E43 row46 _ _ ⟨b44, b45, rfl, (Nd.pick nd (is := [0, 1]) (by decide)), (HSub.pick nd (is := [0, 1]) (by decide))⟩ hA43
      · have hX := ite_f hc hX
        refine TK.exit ?_
        obtain rfl := hR30 _ (some_in hX).symm
        exact E30 row33 _ _ ⟨b31, b32, rfl, (Nd.pick nd (is := [0, 1]) (by decide)), (HSub.pick nd (is := [0, 1]) (by decide))⟩ hA30
    · have hX := ite_f hc hX
      refine TK.exit ?_
      obtain rfl := hR14 _ (some_in hX).symm
      exact E14 out16 _ _ ⟨b15, rfl, (Nd.pick nd (is := [0]) (by decide)), (HSub.pick nd (is := [0]) (by decide))⟩ hA14

/-- cartridge/cartridgeref1.Apply -/
theorem ok_cartridgeref1_Apply (m1 : (List (List UInt8))) (v2 : (List UInt8)) (r : ((List UInt8) × Int)) (hX : X.cartridgeref1_Apply m1 v2 = some r) : Fun Try.prog 34 [Enc.v (m1 : (List (List UInt8))), Enc.v (v2 : (List UInt8))] (· = .tup 2 (ofL [Enc.v r.1, Enc.v r.2])) := by
  refine Fun.of b34 (Nat.le_of_ble_eq_true rfl) (allVal.mem ⟨(by exact (v_val _)), (by exact (v_val _)), trivial⟩) ?_
  unfold k34
  have nd : Nd [] := Nd_nil
  unfold X.cartridgeref1_Apply at hX
  refine TK.seq_k fun K3 hK3 => ?_
  refine TK.reg ?_
  refine TL.p (C := cx) (gc := true) (p_mv rfl) rfl rfl ?_
  refine TL.p (C := cx) (gc := true) (p_mv rfl) rfl rfl ?_
  refine TL.nil ?_
  refine hK3 _ _ ?_
  refine TK.seq_k fun K4 hK4 => ?_
  refine TK.seq_k fun K5 hK5 => ?_
  refine TK.reg ?_
  refine TL.p (C := cx) (gc := true) (p_mv rfl) rfl rfl ?_
  obtain ⟨r6, hr6, hX⟩ := bind_some hX
  refine TL.cvX rfl rfl rfl (fun _ => ⟨rfl, ⟨rfl, trivial⟩⟩) (fun e => ok_cartridgeref1_RightMatrix m1 _ hr6) ?_
  refine TL.p (C := cx) (gc := true) (p_not rfl) rfl rfl ?_
  refine TL.p (C := cx) (gc := true) (p_mv rfl) rfl rfl ?_
  refine TL.p (C := cx) (gc := (!((!r6)))) (p_mv rfl (hg := fun e => rfl)) (gcF1 rfl) rfl ?_
  refine TL.p (C := cx) (gc := (!((!r6)))) (p_lenL (xs := v2) kd23 rfl (hg := fun e => e)) (gcF1 rfl) rfl ?_
  refine TL.p (C := cx) (gc := (!((!r6)))) (p_mv rfl (hg := fun e => rfl)) (gcF1 rfl) rfl ?_
  obtain ⟨e7, he7, hX⟩ := bind_some hX
  refine TL.p (C := cx) (gc := (!((!r6)))) (p_iaL (xs := m1) kd22 ty23 rfl rfl rfl (fun e => optG_t he7 e) (hg := fun e => ⟨e, rfl⟩)) (gcF1 rfl) rfl ?_
  refine TL.p (C := cx) (gc := (!((!r6)))) (p_ldE (xs := m1) (a := e7) (e7 : (List UInt8)) ty23 rfl rfl (fun e => optG_t he7 e) rfl rfl rfl (hg := fun e => e)) (gcF1 rfl) rfl ?_
  refine TL.p (C := cx) (gc := (!((!r6)))) (p_lenL (xs := e7) kd23 rfl (hg := fun e => e)) (gcF1 rfl) rfl ?_
  refine TL.p (C := cx) (gc := (!((!r6)))) (p_neq rfl rfl (hg := fun e => ⟨e, e⟩)) (gcF1 rfl) rfl ?_
  refine TL.p (C := cx) (gc := true) (p_or rfl rfl (fun e => ⟨rfl, fun h => (not_t h)⟩)) rfl rfl ?_
  refine TL.nil ?_
  refine hK5 _ _ ?_
  refine TK.cond (b := ((!r6) || ((v2.length : Int) != (e7.length : Int)))) rfl (fun hc => ?_) (fun hc => ?_)
  · have hX := ite_t hc hX
    refine TK.seq_k fun K8 hK8 => ?_
    refine TK.reg ?_
    refine TL.p (C := cx) (gc := true) (p_mv rfl) rfl rfl ?_
    refine TL.p (C := cx) (gc := true) (p_mv rfl) rfl rfl ?_
    refine TL.nil ?_
    refine hK8 _ _ ?_
    refine TK.wk 4 (L ([] : (List UInt8))) rfl Wk_nil ?_
    refine TK.ret ?_
    try dsimp only [thenQ]
    exact retN (vs := [Enc.v (([] : (List UInt8)) : (List UInt8)), Enc.v ((1 : Int) : Int)]) ⟨rfl, rfl, trivial⟩ (by obtain rfl := some_in hX; rfl) (allVal.mem ⟨v_val _, v_val _, trivial⟩)
  · have hX := ite_f hc hX
    refine TK.skip ?_
    refine hK4 _ _ ?_
    refine TK.seq_k fun K9 hK9 => ?_
    refine TK.reg ?_
    refine TL.p (C := cx) (gc := true) (p_mv rfl) rfl rfl ?_
    refine TL.p (C := cx) (gc := true) (p_lenL (xs := m1) kd22 rfl) rfl rfl ?_
    obtain ⟨u10, hu10, hX⟩ := bind_some hX
    refine TL.mkO (C := cx) nd (0 : UInt8) kd23 ty5 rfl (fun j hj => by (have : j = 0 := by simpa [Enc.sz] using hj); subst this; rfl) rfl rfl (by decide) (need_t hu10) rfl fun b11 nd => ?_
    refine TL.p (C := cx) (gc := true) (p_mv rfl) rfl rfl ?_
    refine TL.nil ?_
    refine hK9 _ _ ?_
    refine TK.seq_k fun K12 hK12 => ?_
    refine TK.seq_k fun K13 hK13 => ?_
    refine TK.reg ?_
    refine TL.p (C := cx) (gc := true) (p_mv rfl) rfl rfl ?_
    refine TL.nil ?_
    refine hK13 _ _ ?_
    refine TK.block ?_
    obtain ⟨o14, hO14, hA14⟩ := bind_some hX
    have E14 : ∀ (l19 : List UInt8) (env : Env) (h : Hp), (∃ b18, keepE [6] env = [(6, true, OL (α := UInt8) b18 l19)] ∧ Nd [(b18, RL (α := UInt8) 5 l19)] ∧ HSub [(b18, RL (α := UInt8) 5 l19)] h) → X.cartridgeref1_Apply_e14 l19 = some r → K12 env h := by
      intro l19 env h hE hX
      obtain ⟨b18, henv, nd, hs⟩ := hE
      unfold X.cartridgeref1_Apply_e14 at hX
      refine hK12 _ _ (TK.keep [6] ?_)
      rw [henv]
      refine TK.subH hs ?_
      refine TK.seq_k fun K20 hK20 => ?_
      refine TK.reg ?_
      refine TL.p (C := cx) (gc := true) (p_mv rfl) rfl rfl ?_
      refine TL.p (C := cx) (gc := true) (p_mv rfl) rfl rfl ?_
      refine TL.p (C := cx) (gc := true) (p_mv rfl) rfl rfl ?_
      refine TL.nil ?_
      refine hK20 _ _ ?_
      refine TK.lay [(4, L l19)] nd (j := 0) rfl ⟨⟨_, rfl, fix_OL nd (j := 0) rfl, rfl⟩, trivial⟩ fun nd => ?_
      refine TK.ret ?_
      try dsimp only [thenQ]
      exact retN (vs := [Enc.v (l19 : (List UInt8)), Enc.v ((0 : Int) : Int)]) ⟨rfl, rfl, trivial⟩ (by obtain rfl := some_in hX; rfl) (allVal.mem ⟨v_val _, v_val _, trivial⟩)
    refine TK.iter [0, 1, 6, 7] (fun s env h => match s with | (out16, i17) => ∃ b15, env = [(0, true, Enc.v (m1 : (List (List UInt8)))), (1, true, Enc.v (v2 : (List UInt8))), (6, true, OL (α := UInt8) b15 out16), (7, true, Enc.v (i17 : Int))] ∧ Nd [(b15, RL (α := UInt8) 5 out16)] ∧ HSub [(b15, RL (α := UInt8) 5 out16)] h) hO14 ⟨b11, rfl, (Nd.pick nd (is := [0]) (by decide)), (HSub.pick nd (is := [0]) (by decide))⟩ ?_
    rintro ⟨out16, i17⟩ env h x14x ⟨b15, rfl, nd, hs⟩ hX hR14
    refine TK.subH hs ?_
    unfold X.cartridgeref1_Apply_s14 at hX
    try dsimp only at hX
    refine TK.seq_k fun K21 hK21 => ?_
    refine TK.seq_k fun K22 hK22 => ?_
    refine TK.reg ?_
    refine TL.p (C := cx) (gc := true) (p_mv rfl) rfl rfl ?_
    refine TL.p (C := cx) (gc := true) (p_mv rfl) rfl rfl ?_
    refine TL.p (C := cx) (gc := true) (p_lenL (xs := m1) kd22 rfl) rfl rfl ?_
    refine TL.p (C := cx) (gc := true) (p_lss rfl rfl) rfl rfl ?_
    refine TL.nil ?_
    refine hK22 _ _ ?_
    refine TK.cond (b := (decide (i17 < (m1.length : Int)))) rfl (fun hc => ?_) (fun hc => ?_)
    · have hX := ite_t hc hX
      refine TK.skip ?_
      refine hK21 _ _ ?_
      refine TK.seq_k fun K23 hK23 => ?_
      refine TK.block ?_
      refine TK.seq_k fun K24 hK24 => ?_
      refine TK.reg ?_
      refine TL.p (C := cx) (gc := true) (p_mv rfl) rfl rfl ?_
      refine TL.nil ?_
      refine hK24 _ _ ?_
      refine TK.block ?_
      obtain ⟨o25, hO25, hA25⟩ := bind_some hX
      have E25 : ∀ (l30 : List UInt8) (env : Env) (h : Hp), (∃ b29, keepE [0, 1, 6, 7] env = [(0, true, Enc.v (m1 : (List (List UInt8)))), (1, true, Enc.v (v2 : (List UInt8))), (6, true, OL (α := UInt8) b29 l30), (7, true, Enc.v (i17 : Int))] ∧ Nd [(b29, RL (α := UInt8) 5 l30)] ∧ HSub [(b29, RL (α := UInt8) 5 l30)] h) → X.cartridgeref1_Apply_e25 i17 l30 = some x14x → K23 env h := by
        intro l30 env h hE hX
        obtain ⟨b29, henv, nd, hs⟩ := hE
        unfold X.cartridgeref1_Apply_e25 at hX
        refine hK23 _ _ (TK.keep [0, 1, 6, 7] ?_)
        rw [henv]
        refine TK.subH hs ?_
        refine TK.reg ?_
        refine TL.p (C := cx) (gc := true) (p_mv rfl) rfl rfl ?_
        refine TL.p (C := cx) (gc := true) (p_add rfl rfl) rfl rfl ?_
        refine TL.p (C := cx) (gc := true) (p_mv rfl) rfl rfl ?_
        refine TL.nil ?_
        exact ⟨_, (some_in hX).symm, b29, rfl, (Nd.pick nd (is := [0]) (by decide)), (HSub.pick nd (is := [0]) (by decide))⟩
      refine TK.iter [0, 1, 6, 7, 8] (fun s env h => match s with | (out27, k28) => ∃ b26, env = [(0, true, Enc.v (m1 : (List (List UInt8)))), (1, true, Enc.v (v2 : (List UInt8))), (6, true, OL (α := UInt8) b26 out27), (7, true, Enc.v (i17 : Int)), (8, true, Enc.v (k28 : Int))] ∧ Nd [(b26, RL (α := UInt8) 5 out27)] ∧ HSub [(b26, RL (α := UInt8) 5 out27)] h) hO25 ⟨b15, rfl, (Nd.pick nd (is := [0]) (by decide)), (HSub.pick nd (is := [0]) (by decide))⟩ ?_
      rintro ⟨out27, k28⟩ env h x25x ⟨b26, rfl, nd, hs⟩ hX hR25
      refine TK.subH hs ?_
      unfold X.cartridgeref1_Apply_s25 at hX
      try dsimp only at hX
      refine TK.seq_k fun K31 hK31 => ?_
      refine TK.seq_k fun K32 hK32 => ?_
      refine TK.reg ?_
      refine TL.p (C := cx) (gc := true) (p_mv rfl) rfl rfl ?_
      refine TL.p (C := cx) (gc := true) (p_mv rfl) rfl rfl ?_
      refine TL.p (C := cx) (gc := true) (p_lenL (xs := v2) kd23 rfl) rfl rfl ?_
      refine TL.p (C := cx) (gc := true) (p_lss rfl rfl) rfl rfl ?_
      refine TL.nil ?_
      refine hK32 _ _ ?_
      refine TK.cond (b := (decide (k28 < (v2.length : Int)))) rfl (fun hc => ?_) (fun hc => ?_)
      · have hX := ite_t hc hX
        refine TK.skip ?_
        refine hK31 _ _ ?_
        refine TK.seq_k fun K33 hK33 => ?_
        refine TK.block ?_
        have ndS : Nd [] := Nd.pick nd (is := []) (by decide)
        refine TK.endK fun KD hKD => ?_
        refine TK.drwX (h := [(b26, RL (α := UInt8) 5 out27)]) (hS := []) [(0, 0), (0, 1), (0, 2), (0, 3), (1, 4), (1, 5), (0, 6), (0, 7), (0, 8), (0, 9), (0, 10), (0, 11), (0, 12), (0, 13), (0, 14), (0, 15), (0, 16), (0, 17), (0, 18), (1, 19), (2, 20)] mixed (by kernel_rfl) (HSub_app nd) ?_
        refine DR0 (gc := true) rfl (vok_p (C := cx) (p_mv rfl)) rfl rfl ?_
        refine DR0 (gc := true) rfl (vok_p (C := cx) (p_mv rfl)) rfl rfl ?_
        refine DR0 (gc := true) rfl (vok_p (C := cx) (p_mv rfl)) rfl rfl ?_
        refine DR0 (gc := true) rfl (vok_p (C := cx) (p_mv rfl)) rfl rfl ?_
        obtain ⟨e34, he34, hX⟩ := bind_some hX
        refine DR1 (gc := true) rfl (vok_p (C := cx) (p_iaO (xs := out27) kd23 ty5 rfl rfl rfl nd (j := 0) rfl (fun _ => he34))) rfl rfl ?_
        refine DR1 (gc := true) rfl (vok_p (C := cx) (p_ldO (xs := out27) (a := e34) (e34 : UInt8) ty5 rfl rfl nd (j := 0) rfl (fun _ => he34) rfl rfl rfl)) rfl rfl ?_
        refine DR0 (gc := true) rfl (vok_p (C := cx) (p_mv rfl)) rfl rfl ?_
        refine DR0 (gc := true) rfl (vok_p (C := cx) (p_mv rfl)) rfl rfl ?_
        obtain ⟨e35, he35, hX⟩ := bind_some hX
        refine DR0 (gc := true) rfl (vok_p (C := cx) (p_iaL (xs := m1) kd22 ty23 rfl rfl rfl (fun _ => he35))) rfl rfl ?_
        refine DR0 (gc := true) rfl (vok_p (C := cx) (p_ldE (xs := m1) (a := e35) (e35 : (List UInt8)) ty23 rfl rfl (fun _ => he35) rfl rfl rfl)) rfl rfl ?_
        refine DR0 (gc := true) rfl (vok_p (C := cx) (p_mv rfl)) rfl rfl ?_
        obtain ⟨e36, he36, hX⟩ := bind_some hX
        refine DR0 (gc := true) rfl (vok_p (C := cx) (p_iaL (xs := e35) kd23 ty5 rfl rfl rfl (fun _ => he36))) rfl rfl ?_
        refine DR0 (gc := true) rfl (vok_p (C := cx) (p_ldE (xs := e35) (a := e36) (e36 : UInt8) ty5 rfl rfl (fun _ => he36) rfl rfl rfl)) rfl rfl ?_
        refine DR0 (gc := true) rfl (vok_p (C := cx) (p_mv rfl)) rfl rfl ?_
        refine DR0 (gc := true) rfl (vok_p (C := cx) (p_mv rfl)) rfl rfl ?_
        obtain ⟨e37, he37, hX⟩ := bind_some hX
        refine DR0 (gc := true) rfl (vok_p (C := cx) (p_iaL (xs := v2) kd23 ty5 rfl rfl rfl (fun _ => he37))) rfl rfl ?_
        refine DR0 (gc := true) rfl (vok_p (C := cx) (p_ldE (xs := v2) (a := e37) (e37 : UInt8) ty5 rfl rfl (fun _ => he37) rfl rfl rfl)) rfl rfl ?_
        obtain ⟨r38, hr38, hX⟩ := bind_some hX
        refine DR0 (gc := true) rfl (vok_c rfl (fun _ => ⟨rfl, ⟨rfl, ⟨rfl, trivial⟩⟩⟩) (fun e => ok_cartridgeref1_Mul e36 e37 _ hr38)) rfl rfl ?_
        refine DR0 (gc := true) rfl (vok_p (C := cx) (p8_xor (a := e34) (b := r38) rfl rfl)) rfl rfl ?_
        obtain ⟨e39, he39, hX⟩ := bind_some hX
        refine DR1 (gc := true) rfl (vok_p (C := cx) (p_iaO (xs := out27) kd23 ty5 rfl rfl rfl nd (j := 0) rfl (fun _ => he39))) rfl rfl ?_
        refine DR2n rfl ?_
        refine TL.stW (C := cx) (xs := out27) (i := i17) (lu := Enc.cl ((e34 ^^^ r38) : UInt8)) (a' := (e34 ^^^ r38)) nd ty5 rfl (j := 0) rfl (by simp [Enc.sz]) (inb_of he39 (by simp)) rfl (Cells_v ((e34 ^^^ r38) : UInt8)) rfl (WkL_refl _) fun nd => ?_
        refine TL.nil ⟨.nilp, [(b26, RL (α := UInt8) 5 (out27.set i17.toNat (e34 ^^^ r38)))], rfl, rfl, HSub_app nd, ?_⟩
        refine DRend ?_
        refine hKD _ _ ?_
        refine TL.cv 6 (OL (α := UInt8) b26 (out27.set i17.toNat (e34 ^^^ r38))) rfl (Wk_eq (OL_len (by simp))) ?_
        refine TL.nil ?_
        refine hK33 _ _ ?_
        refine TK.reg ?_
        refine TL.p (C := cx) (gc := true) (p_mv rfl) rfl rfl ?_
        refine TL.p (C := cx) (gc := true) (p_add rfl rfl) rfl rfl ?_
        refine TL.p (C := cx) (gc := true) (p_mv rfl) rfl rfl ?_
        refine TL.nil ?_
        exact ⟨_, (some_in hX).symm, b26, rfl, (Nd.pick nd (is := [0]) (by decide)), (HSub.pick nd (is := [0]) (by decide))⟩
      · have hX := ite_f hc hX
        refine TK.exit ?_
        obtain rfl := hR25 _ (some_in hX).symm
        exact E25 out27 _ _ ⟨b26, rfl, (Nd.pick nd (is := [0]) (by decide)), (HSub.pick nd (is := [0]) (by decide))⟩ hA25
    · have hX := ite_f hc hX
      refine TK.exit ?_
      obtain rfl := hR14 _ (some_in hX).symm
      exact E14 out16 _ _ ⟨b15, rfl, (Nd.pick nd (is := [0]) (by decide)), (HSub.pick nd (is := [0]) (by decide))⟩ hA14

/-- cartridge/cartridgeref1.Inv -/
theorem ok_cartridgeref1_Inv (a1 : UInt8) (r : UInt8) (hX : X.cartridgeref1_Inv a1 = some r) : Fun Try.prog 72 [Enc.v (a1 : UInt8)] (· = Enc.v (r : UInt8)) := by
  refine Fun.of b72 (Nat.le_of_ble_eq_true rfl) (allVal.mem ⟨(by exact (v_val _)), trivial⟩) ?_
  unfold k72
  have nd : Nd [] := Nd_nil
  unfold X.cartridgeref1_Inv at hX
  refine TK.seq_k fun K2 hK2 => ?_
  refine TK.reg ?_
  refine TL.p (C := cx) (gc := true) (p_mv rfl) rfl rfl ?_
  refine TL.nil ?_
  refine hK2 _ _ ?_
  refine TK.seq_k fun K3 hK3 => ?_
  refine TK.reg ?_
  refine TL.p (C := cx) (gc := true) (p_mv rfl) rfl rfl ?_
  refine TL.nil ?_
  refine hK3 _ _ ?_
  refine TK.seq_k fun K4 hK4 => ?_
  refine TK.seq_k fun K5 hK5 => ?_
  refine TK.reg ?_
  refine TL.p (C := cx) (gc := true) (p_mv rfl) rfl rfl ?_
  refine TL.nil ?_
  refine hK5 _ _ ?_
  refine TK.block ?_
  obtain ⟨o6, hO6, hA6⟩ := bind_some hX
  have E6 : ∀ (x9 : UInt8) (env : Env) (h : Hp), (∃ _u : Unit, keepE [3] env = [(3, true, Enc.v (x9 : UInt8))] ∧ Nd [] ∧ HSub [] h) → X.cartridgeref1_Inv_e6 x9 = some r → K4 env h := by
    intro x9 env h hE hX
    obtain ⟨_u, henv, nd, hs⟩ := hE
    unfold X.cartridgeref1_Inv_e6 at hX
    refine hK4 _ _ (TK.keep [3] ?_)
    rw [henv]
    refine TK.subH hs ?_
    refine TK.seq_k fun K10 hK10 => ?_
    refine TK.reg ?_
    refine TL.p (C := cx) (gc := true) (p_mv rfl) rfl rfl ?_
    refine TL.p (C := cx) (gc := true) (p_mv rfl) rfl rfl ?_
    refine TL.nil ?_
    refine hK10 _ _ ?_
    refine TK.ret ?_
    try dsimp only [thenQ]
    exact ret1 (v := Enc.v (x9 : UInt8)) rfl (by obtain rfl := some_in hX; rfl) (v_val _)
  refine TK.iter [0, 3, 4] (fun s env h => match s with | (x7, i8) => ∃ _u : Unit, env = [(0, true, Enc.v (a1 : UInt8)), (3, true, Enc.v (x7 : UInt8)), (4, true, Enc.v (i8 : Int))] ∧ Nd [] ∧ HSub [] h) hO6 ⟨(), rfl, Nd_nil, HSub.refl _⟩ ?_
  rintro ⟨x7, i8⟩ env h x6x ⟨_u, rfl, nd, hs⟩ hX hR6
  refine TK.subH hs ?_
  unfold X.cartridgeref1_Inv_s6 at hX
  try dsimp only at hX
  refine TK.seq_k fun K11 hK11 => ?_
  refine TK.seq_k fun K12 hK12 => ?_
  refine TK.reg ?_
  refine TL.p (C := cx) (gc := true) (p_mv rfl) rfl rfl ?_
  refine TL.p (C := cx) (gc := true) (p_lss rfl rfl) rfl rfl ?_
  refine TL.nil ?_
  refine hK12 _ _ ?_
  refine TK.cond (b := (decide (i8 < (254 : Int)))) rfl (fun hc => ?_) (fun hc => ?_)
  · have hX := ite_t hc hX
    refine TK.skip ?_
    refine hK11 _ _ ?_
    refine TK.seq_k fun K13 hK13 => ?_
    refine TK.block ?_
    refine TK.reg ?_
    refine TL.p (C := cx) (gc := true) (p_mv rfl) rfl rfl ?_
    refine TL.p (C := cx) (gc := true) (p_mv rfl) rfl rfl ?_
    obtain ⟨r14, hr14, hX⟩ := bind_some hX
    refine TL.cvX rfl rfl rfl (fun _ => ⟨rfl, ⟨rfl, ⟨rfl, trivial⟩⟩⟩) (fun e => ok_cartridgeref1_Mul x7 a1 _ hr14) ?_
    refine TL.p (C := cx) (gc := true) (p_mv rfl) rfl rfl ?_
    refine TL.nil ?_
    refine hK13 _ _ ?_
    refine TK.reg ?_
    refine TL.p (C := cx) (gc := true) (p_mv rfl) rfl rfl ?_
    refine TL.p (C := cx) (gc := true) (p_add rfl rfl) rfl rfl ?_
    refine TL.p (C := cx) (gc := true) (p_mv rfl) rfl rfl ?_
    refine TL.nil ?_
    exact ⟨_, (some_in hX).symm, (), rfl, Nd_nil, HSub.refl _⟩
  · have hX := ite_f hc hX
    refine TK.exit ?_
    obtain rfl := hR6 _ (some_in hX).symm
    exact E6 x7 _ _ ⟨(), rfl, Nd_nil, HSub.refl _⟩ hA6

/-- cartridge/cartridgeref1.Inverse -/
theorem ok_cartridgeref1_Inverse (m1 : (List (List UInt8))) (r : ((List (List UInt8)) × Int)) (hX : X.cartridgeref1_Inverse m1 = some r) : Fun Try.prog 35 [Enc.v (m1 : (List (List UInt8)))] (· = .tup 2 (ofL [Enc.v r.1, Enc.v r.2])) := by
  refine Fun.of b35 (Nat.le_of_ble_eq_true rfl) (allVal.mem ⟨(by exact (v_val _)), trivial⟩) ?_
  unfold k35
  have nd : Nd [] := Nd_nil
  unfold X.cartridgeref1_Inverse at hX
  refine TK.seq_k fun K2 hK2 => ?_
  refine TK.reg ?_
  refine TL.p (C := cx) (gc := true) (p_mv rfl) rfl rfl ?_
  refine TL.p (C := cx) (gc := true) (p_mv rfl) rfl rfl ?_
  refine TL.nil ?_
  refine hK2 _ _ ?_
  refine TK.seq_k fun K3 hK3 => ?_
  refine TK.seq_k fun K4 hK4 => ?_
  refine TK.reg ?_
  refine TL.p (C := cx) (gc := true) (p_mv rfl) rfl rfl ?_
  obtain ⟨r5, hr5, hX⟩ := bind_some hX
  refine TL.cvX rfl rfl rfl (fun _ => ⟨rfl, ⟨rfl, trivial⟩⟩) (fun e => ok_cartridgeref1_RightMatrix m1 _ hr5) ?_
  refine TL.p (C := cx) (gc := true) (p_not rfl) rfl rfl ?_
  refine TL.p (C := cx) (gc := true) (p_mv rfl) rfl rfl ?_
  refine TL.p (C := cx) (gc := (!((!r5)))) (p_mv rfl (hg := fun e => rfl)) (gcF1 rfl) rfl ?_
  refine TL.p (C := cx) (gc := (!((!r5)))) (p_lenL (xs := m1) kd22 rfl (hg := fun e => e)) (gcF1 rfl) rfl ?_
  refine TL.p (C := cx) (gc := (!((!r5)))) (p_mv rfl (hg := fun e => rfl)) (gcF1 rfl) rfl ?_
  obtain ⟨e6, he6, hX⟩ := bind_some hX
  refine TL.p (C := cx) (gc := (!((!r5)))) (p_iaL (xs := m1) kd22 ty23 rfl rfl rfl (fun e => optG_t he6 e) (hg := fun e => ⟨e, rfl⟩)) (gcF1 rfl) rfl ?_
  refine TL.p (C := cx) (gc := (!((!r5)))) (p_ldE (xs := m1) (a := e6) (e6 : (List UInt8)) ty23 rfl rfl (fun e => optG_t he6 e) rfl rfl rfl (hg := fun e => e)) (gcF1 rfl) rfl ?_
  refine TL.p (C := cx) (gc := (!((!r5)))) (p_lenL (xs := e6) kd23 rfl (hg := fun e => e)) (gcF1 rfl) rfl ?_
  refine TL.p (C := cx) (gc := (!((!r5)))) (p_neq rfl rfl (hg := fun e => ⟨e, e⟩)) (gcF1 rfl) rfl ?_
  refine TL.p (C := cx) (gc := true) (p_or rfl rfl (fun e => ⟨rfl, fun h => (not_t h)⟩)) rfl rfl ?_
  refine TL.nil ?_
  refine hK4 _ _ ?_
  refine TK.cond (b := ((!r5) || ((m1.length : Int) != (e6.length : Int)))) rfl (fun hc => ?_) (fun hc => ?_)
  · have hX := ite_t hc hX
    refine TK.seq_k fun K7 hK7 => ?_
    refine TK.reg ?_
    refine TL.p (C := cx) (gc := true) (p_mv rfl) rfl rfl ?_
    refine TL.p (C := cx) (gc := true) (p_mv rfl) rfl rfl ?_
    refine TL.nil ?_
    refine hK7 _ _ ?_
    refine TK.wk 2 (L ([] : (List (List UInt8)))) rfl Wk_nil ?_
    refine TK.ret ?_
    try dsimp only [thenQ]
    exact retN (vs := [Enc.v (([] : (List (List UInt8))) : (List (List UInt8))), Enc.v ((1 : Int) : Int)]) ⟨rfl, rfl, trivial⟩ (by obtain rfl := some_in hX; rfl) (allVal.mem ⟨v_val _, v_val _, trivial⟩)
  · have hX := ite_f hc hX
    refine TK.skip ?_
    refine hK3 _ _ ?_
    refine TK.seq_k fun K8 hK8 => ?_
    refine TK.reg ?_
    refine TL.p (C := cx) (gc := true) (p_mv rfl) rfl rfl ?_
    refine TL.p (C := cx) (gc := true) (p_lenL (xs := m1) kd22 rfl) rfl rfl ?_
    refine TL.p (C := cx) (gc := true) (p_mv rfl) rfl rfl ?_
    refine TL.nil ?_
    refine hK8 _ _ ?_
    refine TK.seq_k fun K9 hK9 => ?_
    refine TK.reg ?_
    refine TL.p (C := cx) (gc := true) (p_mv rfl) rfl rfl ?_
    refine TL.nil ?_
    refine hK9 _ _ ?_
    refine TK.ownP 5 23 nd rfl (.inl rfl) fun b10 nd => ?_
    refine TK.seq_k fun K11 hK11 => ?_
    refine TK.seq_k fun K12 hK12 => ?_
    refine TK.reg ?_
    refine TL.p (C := cx) (gc := true) (p_mv rfl) rfl rfl ?_
    refine TL.nil ?_
    refine hK12 _ _ ?_
    refine TK.block ?_
    obtain ⟨o13, hO13, hA13⟩ := bind_some hX
    have E13 : ∀ (ix19 : List Nat) (pl20 : List (List UInt8)) (env : Env) (h : Hp), (∃ b18 ns18, keepE [4, 5] env = [(4, true, Enc.v ((m1.length : Int) : Int)), (5, true, OX b18 ix19)] ∧ Nd ((b18, RV 23 (pcells (α := UInt8) ns18 ix19 pl20)) :: zp (α := UInt8) 5 ns18 pl20) ∧ HSub ((b18, RV 23 (pcells (α := UInt8) ns18 ix19 pl20)) :: zp (α := UInt8) 5 ns18 pl20) h ∧ GP ns18 ix19 pl20) → X.cartridgeref1_Inverse_e13 m1 ix19 pl20 = some r → K11 env h := by
      intro ix19 pl20 env h hE hX
      obtain ⟨b18, ns18, henv, nd, hs, hG18⟩ := hE
      unfold X.cartridgeref1_Inverse_e13 at hX
      refine hK11 _ _ (TK.keep [4, 5] ?_)
      rw [henv]
      refine TK.subH hs ?_
      refine TK.seq_k fun K21 hK21 => ?_
      refine TK.seq_k fun K22 hK22 => ?_
      refine TK.reg ?_
      refine TL.p (C := cx) (gc := true) (p_mv rfl) rfl rfl ?_
      refine TL.nil ?_
      refine hK22 _ _ ?_
      refine TK.block ?_
      obtain ⟨o23, hO23, hA23⟩ := bind_some hX
      have E23 : ∀ (ix29 : List Nat) (pl30 : List (List UInt8)) (env : Env) (h : Hp), (∃ b28 ns28, keepE [4, 5] env = [(4, true, Enc.v ((m1.length : Int) : Int)), (5, true, OX b28 ix29)] ∧ Nd ((b28, RV 23 (pcells (α := UInt8) ns28 ix29 pl30)) :: zp (α := UInt8) 5 ns28 pl30) ∧ HSub ((b28, RV 23 (pcells (α := UInt8) ns28 ix29 pl30)) :: zp (α := UInt8) 5 ns28 pl30) h ∧ GP ns28 ix29 pl30) → X.cartridgeref1_Inverse_e23 m1 ix29 pl30 = some r → K21 env h := by
        intro ix29 pl30 env h hE hX
        obtain ⟨b28, ns28, henv, nd, hs, hG28⟩ := hE
        unfold X.cartridgeref1_Inverse_e23 at hX
        refine hK21 _ _ (TK.keep [4, 5] ?_)
        rw [henv]
        refine TK.subH hs ?_
        refine TK.seq_k fun K31 hK31 => ?_
        refine TK.reg ?_
        refine TL.p (C := cx) (gc := true) (p_mv rfl) rfl rfl ?_
        refine TL.nil ?_
        refine hK31 _ _ ?_
        refine TK.ownL (α := (List UInt8)) 16 23 nd rfl (.inl rfl) fun b32 nd => ?_
        refine TK.seq_k fun K33 hK33 => ?_
        refine TK.seq_k fun K34 hK34 => ?_
        refine TK.reg ?_
        refine TL.p (C := cx) (gc := true) (p_mv rfl) rfl rfl ?_
        refine TL.nil ?_
        refine hK34 _ _ ?_
        refine TK.block ?_
        obtain ⟨o35, hO35, hA35⟩ := bind_some hX
        have E35 : ∀ (l41 : List (List UInt8)) (env : Env) (h : Hp), (∃ b40, keepE [16] env = [(16, true, OL (α := (List UInt8)) b40 l41)] ∧ Nd [(b40, RL (α := (List UInt8)) 23 l41)] ∧ HSub [(b40, RL (α := (List UInt8)) 23 l41)] h) → X.cartridgeref1_Inverse_e35 l41 = some r → K33 env h := by
          intro l41 env h hE hX
          obtain ⟨b40, henv, nd, hs⟩ := hE
          unfold X.cartridgeref1_Inverse_e35 at hX
          refine hK33 _ _ (TK.keep [16] ?_)
          rw [henv]
          refine TK.subH hs ?_
          refine TK.seq_k fun K42 hK42 => ?_
          refine TK.reg ?_
          refine TL.p (C := cx) (gc := true) (p_mv rfl) rfl rfl ?_
          refine TL.p (C := cx) (gc := true) (p_mv rfl) rfl rfl ?_
          refine TL.p (C := cx) (gc := true) (p_mv rfl) rfl rfl ?_
          refine TL.nil ?_
          refine hK42 _ _ ?_
          refine TK.lay [(2, L l41)] nd (j := 0) rfl ⟨⟨_, rfl, fix_OL nd (j := 0) rfl, rfl⟩, trivial⟩ fun nd => ?_
          refine TK.ret ?_
          try dsimp only [thenQ]
          exact retN (vs := [Enc.v (l41 : (List (List UInt8))), Enc.v ((0 : Int) : Int)]) ⟨rfl, rfl, trivial⟩ (by obtain rfl := some_in hX; rfl) (allVal.mem ⟨v_val _, v_val _, trivial⟩)
        refine TK.iter [4, 5, 16, 17] (fun s env h => match s with | (out38, i39) => ∃ b36 ns36 b37, env = [(4, true, Enc.v ((m1.length : Int) : Int)), (5, true, OX b36 ix29), (16, true, OL (α := (List UInt8)) b37 out38), (17, true, Enc.v (i39 : Int))] ∧ Nd ((b36, RV 23 (pcells (α := UInt8) ns36 ix29 pl30)) :: (b37, RL (α := (List UInt8)) 23 out38) :: zp (α := UInt8) 5 ns36 pl30) ∧ HSub ((b36, RV 23 (pcells (α := UInt8) ns36 ix29 pl30)) :: (b37, RL (α := (List UInt8)) 23 out38) :: zp (α := UInt8) 5 ns36 pl30) h ∧ GP ns36 ix29 pl30) hO35 ⟨b28, ns28, b32, rfl, (Nd.pickT nd 2 (is := [1, 0]) (by decide) (by decide) (len_geF [_, _] _)), (HSub.pickT nd 2 (is := [1, 0]) (by decide) (by decide) (len_geF [_, _] _)), hG28⟩ ?_
        rintro ⟨out38, i39⟩ env h x35x ⟨b36, ns36, b37, rfl, nd, hs, hG36⟩ hX hR35
        refine TK.subH hs ?_
        unfold X.cartridgeref1_Inverse_s35 at hX
        try dsimp only at hX
        refine TK.seq_k fun K43 hK43 => ?_
        refine TK.seq_k fun K44 hK44 => ?_
        refine TK.reg ?_
        refine TL.p (C := cx) (gc := true) (p_mv rfl) rfl rfl ?_
        refine TL.p (C := cx) (gc := true) (p_mv rfl) rfl rfl ?_
        refine TL.p (C := cx) (gc := true) (p_lss rfl rfl) rfl rfl ?_
        refine TL.nil ?_
        refine hK44 _ _ ?_
        refine TK.cond (b := (decide (i39 < (m1.length : Int)))) rfl (fun hc => ?_) (fun hc => ?_)
        · have hX := ite_t hc hX
          refine TK.skip ?_
          refine hK43 _ _ ?_
          refine TK.seq_k fun K45 hK45 => ?_
          refine TK.block ?_
          refine TK.reg ?_
          refine TL.p (C := cx) (gc := true) (p_mv rfl) rfl rfl ?_
          refine TL.p (C := cx) (gc := true) (p_mv rfl) rfl rfl ?_
          refine TL.p (C := cx) (gc := true) (p_mv rfl) rfl rfl ?_
          obtain ⟨q46, hq46, hX⟩ := bind_some hX
          refine TL.p (C := cx) (gc := true) (p_iaP kd22 ty23 rfl rfl rfl nd (j := 0) rfl (fun _ => hq46)) rfl rfl ?_
          refine TL.p (C := cx) (gc := true) (p_ldP ty23 rfl rfl nd (j := 0) rfl (fun _ => hq46) rfl rfl) rfl rfl ?_
          refine TL.p (C := cx) (gc := true) (p_mv rfl) rfl rfl ?_
          obtain ⟨u47, hu47, hX⟩ := bind_some hX
          refine TL.p (C := cx) (gc := true) (p_sliQ (F := [(b36, RV 23 (pcells (α := UInt8) ns36 ix29 pl30)), (b37, RL (α := (List UInt8)) 23 out38)]) (l := (m1.length : Int)) (k := ((pl30.getD q46 []).length : Int)) kd23 ty5 rfl rfl nd hG36 (fun _ => (GP.lt hG36 hq46)) rfl rfl (fun e => need_t hu47)) rfl rfl ?_
          obtain ⟨u48, hu48, hX⟩ := bind_some hX
          refine TL.appN (C := cx) nd kd23 bo23 ty5 rfl rfl (.inl rfl) rfl (Src_QS (F := [(b36, RV 23 (pcells (α := UInt8) ns36 ix29 pl30)), (b37, RL (α := (List UInt8)) 23 out38)]) nd hG36 (GP.lt hG36 hq46) (need_t hu47).1) (by decide) (need_t hu48) rfl fun b49 nd => ?_
          refine TL.lay [(171, L (slc (pl30.getD q46 []) (m1.length : Int) ((pl30.getD q46 []).length : Int)))] nd (j := 0) rfl ⟨⟨_, rfl, fix_OL nd (j := 0) rfl, rfl⟩, trivial⟩ fun nd => ?_
          refine TL.lit (C := cx) ([(slc (pl30.getD q46 []) (m1.length : Int) ((pl30.getD q46 []).length : Int))] : List (List UInt8)) kd22 ty23 rfl ⟨⟨rfl, rfl⟩, trivial⟩ rfl rfl rfl ?_
          obtain ⟨u50, hu50, hX⟩ := bind_some hX
          refine TL.appO (C := cx) nd kd22 bo22 ty23 rfl rfl (j := 1) rfl rfl (Src_L _) (by decide) (need_t hu50) rfl fun nd => ?_
          refine TL.p (C := cx) (gc := true) (p_mv rfl) rfl rfl ?_
          refine TL.nil ?_
          refine hK45 _ _ ?_
          refine TK.reg ?_
          refine TL.p (C := cx) (gc := true) (p_mv rfl) rfl rfl ?_
          refine TL.p (C := cx) (gc := true) (p_add rfl rfl) rfl rfl ?_
          refine TL.p (C := cx) (gc := true) (p_mv rfl) rfl rfl ?_
          refine TL.nil ?_
          exact ⟨_, (some_in hX).symm, b36, ns36, b37, rfl, (Nd.pickT nd 2 (is := [0, 1]) (by decide) (by decide) (len_geF [_, _] _)), (HSub.pickT nd 2 (is := [0, 1]) (by decide) (by decide) (len_geF [_, _] _)), hG36⟩
        · have hX := ite_f hc hX
          refine TK.exit ?_
          obtain rfl := hR35 _ (some_in hX).symm
          exact E35 out38 _ _ ⟨b37, rfl, (Nd.pick nd (is := [1]) (by decide)), (HSub.pick nd (is := [1]) (by decide))⟩ hA35
      refine TK.iter [4, 5, 8] (fun s env h => match s with | (ix25, a26, c27) => ∃ b24 ns24, env = [(4, true, Enc.v ((m1.length : Int) : Int)), (5, true, OX b24 ix25), (8, true, Enc.v (c27 : Int))] ∧ Nd ((b24, RV 23 (pcells (α := UInt8) ns24 ix25 a26)) :: zp (α := UInt8) 5 ns24 a26) ∧ HSub ((b24, RV 23 (pcells (α := UInt8) ns24 ix25 a26)) :: zp (α := UInt8) 5 ns24 a26) h ∧ GP ns24 ix25 a26) hO23 ⟨b18, ns18, rfl, (Nd.pickT nd 1 (is := [0]) (by decide) (by decide) (len_geF [_] _)), (HSub.pickT nd 1 (is := [0]) (by decide) (by decide) (len_geF [_] _)), hG18⟩ ?_
      rintro ⟨ix25, a26, c27⟩ env h x23x ⟨b24, ns24, rfl, nd, hs, hG24⟩ hX hR23
      refine TK.subH hs ?_
      unfold X.cartridgeref1_Inverse_s23 at hX
      try dsimp only at hX
      refine TK.seq_k fun K51 hK51 => ?_
      refine TK.seq_k fun K52 hK52 => ?_
      refine TK.reg ?_
      refine TL.p (C := cx) (gc := true) (p_mv rfl) rfl rfl ?_
      refine TL.p (C := cx) (gc := true) (p_mv rfl) rfl rfl ?_
      refine TL.p (C := cx) (gc := true) (p_lss rfl rfl) rfl rfl ?_
      refine TL.nil ?_
      refine hK52 _ _ ?_
      refine TK.cond (b := (decide (c27 < (m1.length : Int)))) rfl (fun hc => ?_) (fun hc => ?_)
      · have hX := ite_t hc hX
        refine TK.skip ?_
        refine hK51 _ _ ?_
        refine TK.seq_k fun K53 hK53 => ?_
        refine TK.block ?_
        refine TK.seq_k fun K54 hK54 => ?_
        refine TK.reg ?_
        refine TL.p (C := cx) (gc := true) (p_mv rfl) rfl rfl ?_
        refine TL.p (C := cx) (gc := true) (p_mv rfl) rfl rfl ?_
        refine TL.nil ?_
        refine hK54 _ _ ?_
        refine TK.seq_k fun K55 hK55 => ?_
        refine TK.block ?_
        obtain ⟨o56, hO56, hA56⟩ := bind_some hX
        have E56 : ∀ (p60 : Int) (env : Env) (h : Hp), (∃ b59 ns59, keepE [4, 5, 8, 9] env = [(4, true, Enc.v ((m1.length : Int) : Int)), (5, true, OX b59 ix25), (8, true, Enc.v (c27 : Int)), (9, true, Enc.v (p60 : Int))] ∧ Nd ((b59, RV 23 (pcells (α := UInt8) ns59 ix25 a26)) :: zp (α := UInt8) 5 ns59 a26) ∧ HSub ((b59, RV 23 (pcells (α := UInt8) ns59 ix25 a26)) :: zp (α := UInt8) 5 ns59 a26) h ∧ GP ns59 ix25 a26) → X.cartridgeref1_Inverse_e56 m1 ix25 c27 a26 p60 = some x23x → K55 env h := by
          intro p60 env h hE hX
          obtain ⟨b59, ns59, henv, nd, hs, hG59⟩ := hE
          unfold X.cartridgeref1_Inverse_e56 at hX
          refine hK55 _ _ (TK.keep [4, 5, 8, 9] ?_)
          rw [henv]
          refine TK.subH hs ?_
          refine TK.seq_k fun K61 hK61 => ?_
          refine TK.seq_k fun K62 hK62 => ?_
          refine TK.reg ?_
          refine TL.p (C := cx) (gc := true) (p_mv rfl) rfl rfl ?_
          refine TL.p (C := cx) (gc := true) (p_mv rfl) rfl rfl ?_
          refine TL.p (C := cx) (gc := true) (p_eql rfl rfl) rfl rfl ?_
          refine TL.nil ?_
          refine hK62 _ _ ?_
          refine TK.cond (b := (p60 == (m1.length : Int))) rfl (fun hc => ?_) (fun hc => ?_)
          · have hX := ite_t hc hX
            refine TK.seq_k fun K63 hK63 => ?_
            refine TK.reg ?_
            refine TL.p (C := cx) (gc := true) (p_mv rfl) rfl rfl ?_
            refine TL.p (C := cx) (gc := true) (p_mv rfl) rfl rfl ?_
            refine TL.nil ?_
            refine hK63 _ _ ?_
            refine TK.wk 2 (L ([] : (List (List UInt8)))) rfl Wk_nil ?_
            refine TK.ret ?_
            obtain rfl := hR23 _ (some_in hX).symm
            replace hX := hA23
            try dsimp only [thenQ]
            exact retN (vs := [Enc.v (([] : (List (List UInt8))) : (List (List UInt8))), Enc.v ((12 : Int) : Int)]) ⟨rfl, rfl, trivial⟩ (by obtain rfl := some_in hX; rfl) (allVal.mem ⟨v_val _, v_val _, trivial⟩)
          · have hX := ite_f hc hX
            refine TK.skip ?_
            refine hK61 _ _ ?_
            refine TK.seq_k fun K64 hK64 => ?_
            refine TK.reg ?_
            refine TL.p (C := cx) (gc := true) (p_mv rfl) rfl rfl ?_
            refine TL.p (C := cx) (gc := true) (p_mv rfl) rfl rfl ?_
            obtain ⟨q65, hq65, hX⟩ := bind_some hX
            refine TL.p (C := cx) (gc := true) (p_iaP kd22 ty23 rfl rfl rfl nd (j := 0) rfl (fun _ => hq65)) rfl rfl ?_
            refine TL.p (C := cx) (gc := true) (p_ldP ty23 rfl rfl nd (j := 0) rfl (fun _ => hq65) rfl rfl) rfl rfl ?_
            refine TL.p (C := cx) (gc := true) (p_mv rfl) rfl rfl ?_
            refine TL.nil ?_
            refine hK64 _ _ ?_
            refine TK.seq_k fun K66 hK66 => ?_
            refine TK.reg ?_
            refine TL.p (C := cx) (gc := true) (p_mv rfl) rfl rfl ?_
            refine TL.p (C := cx) (gc := true) (p_mv rfl) rfl rfl ?_
            refine TL.p (C := cx) (gc := true) (p_mv rfl) rfl rfl ?_
            refine TL.p (C := cx) (gc := true) (p_mv rfl) rfl rfl ?_
            obtain ⟨q67, hq67, hX⟩ := bind_some hX
            refine TL.p (C := cx) (gc := true) (p_iaP kd22 ty23 rfl rfl rfl nd (j := 0) rfl (fun _ => hq67)) rfl rfl ?_
            refine TL.p (C := cx) (gc := true) (p_ldP ty23 rfl rfl nd (j := 0) rfl (fun _ => hq67) rfl rfl) rfl rfl ?_
            obtain ⟨q68, hq68, hX⟩ := bind_some hX
            refine TL.p (C := cx) (gc := true) (p_iaP kd22 ty23 rfl rfl rfl nd (j := 0) rfl (fun _ => hq68)) rfl rfl ?_
            refine TL.stP (C := cx) (F := [(b59, RV 23 (pcells (α := UInt8) ns59 ix25 a26))]) (i := p60) (q := q67) nd hG59 (GP.lt hG59 hq67) (j := 0) rfl ty23 rfl hq68 rfl rfl fun nd => ?_
            refine TL.cv 5 (OX b59 (ix25.set p60.toNat q67)) rfl (Wk_eq (OX_len (by simp))) ?_
            refine TL.nil ?_
            refine hK66 _ _ ?_
            refine TK.seq_k fun K69 hK69 => ?_
            refine TK.reg ?_
            refine TL.p (C := cx) (gc := true) (p_mv rfl) rfl rfl ?_
            refine TL.p (C := cx) (gc := true) (p_mv rfl) rfl rfl ?_
            obtain ⟨e70, he70, hX⟩ := bind_some hX
            refine TL.p (C := cx) (gc := true) (p_iaQ (F := [(b59, RV 23 (pcells (α := UInt8) ns59 (ix25.set p60.toNat q67) a26))]) kd23 ty5 rfl rfl rfl nd (GP.put hG59 (p60 : Int).toNat (GP.lt hG59 hq67)) (fun _ => (GP.lt hG59 hq65)) (fun _ => he70)) rfl rfl ?_
            refine TL.p (C := cx) (gc := true) (p_ldQ (F := [(b59, RV 23 (pcells (α := UInt8) ns59 (ix25.set p60.toNat q67) a26))]) (a := e70) ty5 rfl rfl nd (GP.put hG59 (p60 : Int).toNat (GP.lt hG59 hq67)) (fun _ => (GP.lt hG59 hq65)) (fun _ => he70) rfl rfl) rfl rfl ?_
            obtain ⟨r71, hr71, hX⟩ := bind_some hX
            refine TL.cvX rfl rfl rfl (fun _ => ⟨rfl, ⟨rfl, trivial⟩⟩) (fun e => ok_cartridgeref1_Inv e70 _ hr71) ?_
            refine TL.p (C := cx) (gc := true) (p_mv rfl) rfl rfl ?_
            refine TL.nil ?_
            refine hK69 _ _ ?_
            refine TK.seq_k fun K72 hK72 => ?_
            refine TK.seq_k fun K73 hK73 => ?_
            refine TK.reg ?_
            refine TL.p (C := cx) (gc := true) (p_mv rfl) rfl rfl ?_
            refine TL.nil ?_
            refine hK73 _ _ ?_
            refine TK.block ?_
            obtain ⟨o74, hO74, hA74⟩ := bind_some hX
            have E74 : ∀ (pl80 : List (List UInt8)) (env : Env) (h : Hp), (∃ b79 ns79, keepE [4, 5, 8, 10] env = [(4, true, Enc.v ((m1.length : Int) : Int)), (5, true, OX b79 (ix25.set p60.toNat q67)), (8, true, Enc.v (c27 : Int)), (10, true, pcell (α := UInt8) ns79 pl80 q65)] ∧ Nd ((b79, RV 23 (pcells (α := UInt8) ns79 (ix25.set p60.toNat q67) pl80)) :: zp (α := UInt8) 5 ns79 pl80) ∧ HSub ((b79, RV 23 (pcells (α := UInt8) ns79 (ix25.set p60.toNat q67) pl80)) :: zp (α := UInt8) 5 ns79 pl80) h ∧ GP ns79 (ix25.set p60.toNat q67) pl80 ∧ q65 < (pl80).length) → X.cartridgeref1_Inverse_e74 ix25 p60 q67 c27 m1 q65 pl80 = some x23x → K72 env h := by
              intro pl80 env h hE hX
              obtain ⟨b79, ns79, henv, nd, hs, hG79, hq81⟩ := hE
              unfold X.cartridgeref1_Inverse_e74 at hX
              refine hK72 _ _ (TK.keep [4, 5, 8, 10] ?_)
              rw [henv]
              refine TK.subH hs ?_
              refine TK.seq_k fun K82 hK82 => ?_
              refine TK.reg ?_
              refine TL.p (C := cx) (gc := true) (p_mv rfl) rfl rfl ?_
              refine TL.p (C := cx) (gc := true) (p_mv rfl) rfl rfl ?_
              refine TL.p (C := cx) (gc := true) (p_mv rfl) rfl rfl ?_
              obtain ⟨q83, hq83, hX⟩ := bind_some hX
              refine TL.p (C := cx) (gc := true) (p_iaP kd22 ty23 rfl rfl rfl nd (j := 0) rfl (fun _ => hq83)) rfl rfl ?_
              refine TL.stP (C := cx) (F := [(b79, RV 23 (pcells (α := UInt8) ns79 (ix25.set p60.toNat q67) pl80))]) (i := c27) (q := q65) nd hG79 hq81 (j := 0) rfl ty23 rfl hq83 rfl rfl fun nd => ?_
              refine TL.cv 5 (OX b79 ((ix25.set p60.toNat q67).set c27.toNat q65)) rfl (Wk_eq (OX_len (by simp))) ?_
              refine TL.nil ?_
              refine hK82 _ _ ?_
              refine TK.seq_k fun K84 hK84 => ?_
              refine TK.reg ?_
              refine TL.p (C := cx) (gc := true) (p_mv rfl) rfl rfl ?_
              refine TL.nil ?_
              refine hK84 _ _ ?_
              refine TK.block ?_
              obtain ⟨o85, hO85, hA85⟩ := bind_some hX
              have E85 : ∀ (pl91 : List (List UInt8)) (env : Env) (h : Hp), (∃ b90 ns90, keepE [4, 5, 8] env = [(4, true, Enc.v ((m1.length : Int) : Int)), (5, true, OX b90 ((ix25.set p60.toNat q67).set c27.toNat q65)), (8, true, Enc.v (c27 : Int))] ∧ Nd ((b90, RV 23 (pcells (α := UInt8) ns90 ((ix25.set p60.toNat q67).set c27.toNat q65) pl91)) :: zp (α := UInt8) 5 ns90 pl91) ∧ HSub ((b90, RV 23 (pcells (α := UInt8) ns90 ((ix25.set p60.toNat q67).set c27.toNat q65) pl91)) :: zp (α := UInt8) 5 ns90 pl91) h ∧ GP ns90 ((ix25.set p60.toNat q67).set c27.toNat q65) pl91) → X.cartridgeref1_Inverse_e85 ix25 p60 q67 c27 q65 pl91 = some x23x → K53 env h := by
                intro pl91 env h hE hX
                obtain ⟨b90, ns90, henv, nd, hs, hG90⟩ := hE
                unfold X.cartridgeref1_Inverse_e85 at hX
                refine hK53 _ _ (TK.keep [4, 5, 8] ?_)
                rw [henv]
                refine TK.subH hs ?_
                refine TK.reg ?_
                refine TL.p (C := cx) (gc := true) (p_mv rfl) rfl rfl ?_
                refine TL.p (C := cx) (gc := true) (p_add rfl rfl) rfl rfl ?_
                refine TL.p (C := cx) (gc := true) (p_mv rfl) rfl rfl ?_
                refine TL.nil ?_
                exact ⟨_, (some_in hX).symm, b90, ns90, rfl, (Nd.pickT nd 1 (is := [0]) (by decide) (by decide) (len_geF [_] _)), (HSub.pickT nd 1 (is := [0]) (by decide) (by decide) (len_geF [_] _)), hG90⟩
              refine TK.iter [4, 5, 8, 10, 13] (fun s env h => match s with | (a87, i89) => ∃ b86 ns86, env = [(4, true, Enc.v ((m1.length : Int) : Int)), (5, true, OX b86 ((ix25.set p60.toNat q67).set c27.toNat q65)), (8, true, Enc.v (c27 : Int)), (10, true, pcell (α := UInt8) ns86 a87 q65), (13, true, Enc.v (i89 : Int))] ∧ Nd ((b86, RV 23 (pcells (α := UInt8) ns86 ((ix25.set p60.toNat q67).set c27.toNat q65) a87)) :: zp (α := UInt8) 5 ns86 a87) ∧ HSub ((b86, RV 23 (pcells (α := UInt8) ns86 ((ix25.set p60.toNat q67).set c27.toNat q65) a87)) :: zp (α := UInt8) 5 ns86 a87) h ∧ GP ns86 ((ix25.set p60.toNat q67).set c27.toNat q65) a87 ∧ q65 < (a87).length) hO85 ⟨b79, ns79, rfl, (Nd.pickT nd 1 (is := [0]) (by decide) (by decide) (len_geF [_] _)), (HSub.pickT nd 1 (is := [0]) (by decide) (by decide) (len_geF [_] _)), (GP.put hG79 (c27 : Int).toNat hq81), hq81⟩ ?_
              rintro ⟨a87, i89⟩ env h x85x ⟨b86, ns86, rfl, nd, hs, hG86, hq88⟩ hX hR85
              refine TK.subH hs ?_
              unfold X.cartridgeref1_Inverse_s85 at hX
              try dsimp only at hX
              refine TK.seq_k fun K92 hK92 => ?_
              refine TK.seq_k fun K93 hK93 => ?_
              refine TK.reg ?_
              refine TL.p (C := cx) (gc := true) (p_mv rfl) rfl rfl ?_
              refine TL.p (C := cx) (gc := true) (p_mv rfl) rfl rfl ?_
              refine TL.p (C := cx) (gc := true) (p_lss rfl rfl) rfl rfl ?_
              refine TL.nil ?_
              refine hK93 _ _ ?_
              refine TK.cond (b := (decide (i89 < (m1.length : Int)))) rfl (fun hc => ?_) (fun hc => ?_)
              · have hX := ite_t hc hX
                refine TK.skip ?_
                refine hK92 _ _ ?_
                refine TK.seq_k fun K94 hK94 => ?_
                refine TK.block ?_
                refine TK.seq_k fun K95 hK95 => ?_
                refine TK.reg ?_
                refine TL.p (C := cx) (gc := true) (p_mv rfl) rfl rfl ?_
                refine TL.p (C := cx) (gc := true) (p_mv rfl) rfl rfl ?_
                obtain ⟨q96, hq96, hX⟩ := bind_some hX
                refine TL.p (C := cx) (gc := true) (p_iaP kd22 ty23 rfl rfl rfl nd (j := 0) rfl (fun _ => hq96)) rfl rfl ?_
                refine TL.p (C := cx) (gc := true) (p_ldP ty23 rfl rfl nd (j := 0) rfl (fun _ => hq96) rfl rfl) rfl rfl ?_
                refine TL.p (C := cx) (gc := true) (p_mv rfl) rfl rfl ?_
                obtain ⟨e97, he97, hX⟩ := bind_some hX
                refine TL.p (C := cx) (gc := true) (p_iaQ (F := [(b86, RV 23 (pcells (α := UInt8) ns86 ((ix25.set p60.toNat q67).set c27.toNat q65) a87))]) kd23 ty5 rfl rfl rfl nd hG86 (fun _ => (GP.lt hG86 hq96)) (fun _ => he97)) rfl rfl ?_
                refine TL.p (C := cx) (gc := true) (p_ldQ (F := [(b86, RV 23 (pcells (α := UInt8) ns86 ((ix25.set p60.toNat q67).set c27.toNat q65) a87))]) (a := e97) ty5 rfl rfl nd hG86 (fun _ => (GP.lt hG86 hq96)) (fun _ => he97) rfl rfl) rfl rfl ?_
                refine TL.p (C := cx) (gc := true) (p_mv rfl) rfl rfl ?_
                refine TL.nil ?_
                refine hK95 _ _ ?_
                refine TK.seq_k fun K98 hK98 => ?_
                refine TK.reg ?_
                refine TL.p (C := cx) (gc := true) (p_mv rfl) rfl rfl ?_
                refine TL.nil ?_
                refine hK98 _ _ ?_
                refine TK.block ?_
                obtain ⟨o99, hO99, hA99⟩ := bind_some hX
                have E99 : ∀ (pl105 : List (List UInt8)) (env : Env) (h : Hp), (∃ b104 ns104, keepE [4, 5, 8, 10, 13] env = [(4, true, Enc.v ((m1.length : Int) : Int)), (5, true, OX b104 ((ix25.set p60.toNat q67).set c27.toNat q65)), (8, true, Enc.v (c27 : Int)), (10, true, pcell (α := UInt8) ns104 pl105 q65), (13, true, Enc.v (i89 : Int))] ∧ Nd ((b104, RV 23 (pcells (α := UInt8) ns104 ((ix25.set p60.toNat q67).set c27.toNat q65) pl105)) :: zp (α := UInt8) 5 ns104 pl105) ∧ HSub ((b104, RV 23 (pcells (α := UInt8) ns104 ((ix25.set p60.toNat q67).set c27.toNat q65) pl105)) :: zp (α := UInt8) 5 ns104 pl105) h ∧ GP ns104 ((ix25.set p60.toNat q67).set c27.toNat q65) pl105 ∧ q65 < (pl105).length) → X.cartridgeref1_Inverse_e99 i89 pl105 = some x85x → K94 env h := by
                  intro pl105 env h hE hX
                  obtain ⟨b104, ns104, henv, nd, hs, hG104, hq106⟩ := hE
                  unfold X.cartridgeref1_Inverse_e99 at hX
                  refine hK94 _ _ (TK.keep [4, 5, 8, 10, 13] ?_)
                  rw [henv]
                  refine TK.subH hs ?_
                  refine TK.reg ?_
                  refine TL.p (C := cx) (gc := true) (p_mv rfl) rfl rfl ?_
                  refine TL.p (C := cx) (gc := true) (p_add rfl rfl) rfl rfl ?_
                  refine TL.p (C := cx) (gc := true) (p_mv rfl) rfl rfl ?_
                  refine TL.nil ?_
                  exact ⟨_, (some_in hX).symm, b104, ns104, rfl, (Nd.pickT nd 1 (is := [0]) (by decide) (by decide) (len_geF [_] _)), (HSub.pickT nd 1 (is := [0]) (by decide) (by decide) (len_geF [_] _)), hG104, hq106⟩
                refine TK.iter [4, 5, 8, 10, 13, 14, 15] (fun s env h => match s with | (a101, k103) => ∃ b100 ns100, env = [(4, true, Enc.v ((m1.length : Int) : Int)), (5, true, OX b100 ((ix25.set p60.toNat q67).set c27.toNat q65)), (8, true, Enc.v (c27 : Int)), (10, true, pcell (α := UInt8) ns100 a101 q65), (13, true, Enc.v (i89 : Int)), (14, true, Enc.v (e97 : UInt8)), (15, true, Enc.v (k103 : Int))] ∧ Nd ((b100, RV 23 (pcells (α := UInt8) ns100 ((ix25.set p60.toNat q67).set c27.toNat q65) a101)) :: zp (α := UInt8) 5 ns100 a101) ∧ HSub ((b100, RV 23 (pcells (α := UInt8) ns100 ((ix25.set p60.toNat q67).set c27.toNat q65) a101)) :: zp (α := UInt8) 5 ns100 a101) h ∧ GP ns100 ((ix25.set p60.toNat q67).set c27.toNat q65) a101 ∧ q65 < (a101).length) hO99 ⟨b86, ns86, rfl, (Nd.pickT nd 1 (is := [0]) (by decide) (by decide) (len_geF [_] _)), (HSub.pickT nd 1 (is := [0]) (by decide) (by decide) (len_geF [_] _)), hG86, hq88⟩ ?_
                rintro ⟨a101, k103⟩ env h x99x ⟨b100, ns100, rfl, nd, hs, hG100, hq102⟩ hX hR99
                refine TK.subH hs ?_
                unfold X.cartridgeref1_Inverse_s99 at hX
                try dsimp only at hX
                refine TK.seq_k fun K107 hK107 => ?_
                refine TK.seq_k fun K108 hK108 => ?_
                refine TK.reg ?_
                refine TL.p (C := cx) (gc := true) (p_mv rfl) rfl rfl ?_
                refine TL.p (C := cx) (gc := true) (p_mv rfl) rfl rfl ?_
                refine TL.p (C := cx) (gc := true) (p_mul rfl rfl) rfl rfl ?_
                refine TL.p (C := cx) (gc := true) (p_lss rfl rfl) rfl rfl ?_
                refine TL.p (C := cx) (gc := true) (p_mv rfl) rfl rfl ?_
                refine TL.p (C := cx) (gc := ((decide (k103 < (wr ((2 : Int) * (m1.length : Int))))))) (p_mv rfl (hg := fun e => rfl)) (gcT1 rfl) rfl ?_
                refine TL.p (C := cx) (gc := ((decide (k103 < (wr ((2 : Int) * (m1.length : Int))))))) (p_mv rfl (hg := fun e => rfl)) (gcT1 rfl) rfl ?_
                refine TL.p (C := cx) (gc := ((decide (k103 < (wr ((2 : Int) * (m1.length : Int))))))) (p_neq rfl rfl (hg := fun e => ⟨e, e⟩)) (gcT1 rfl) rfl ?_
                refine TL.p (C := cx) (gc := true) (p_and rfl rfl (fun e => ⟨rfl, fun h => h⟩)) rfl rfl ?_
                refine TL.p (C := cx) (gc := true) (p_mv rfl) rfl rfl ?_
                refine TL.p (C := cx) (gc := (((decide (k103 < (wr ((2 : Int) * (m1.length : Int))))) && (i89 != c27)))) (p_mv rfl (hg := fun e => rfl)) (gcT1 rfl) rfl ?_
                refine TL.p (C := cx) (gc := (((decide (k103 < (wr ((2 : Int) * (m1.length : Int))))) && (i89 != c27)))) (p8_neq (a := e97) (b := (0 : UInt8)) rfl rfl (hg := fun e => ⟨e, rfl⟩)) (gcT1 rfl) rfl ?_
                refine TL.p (C := cx) (gc := true) (p_and rfl rfl (fun e => ⟨rfl, fun h => h⟩)) rfl rfl ?_
                refine TL.nil ?_
                refine hK108 _ _ ?_
                refine TK.cond (b := (((decide (k103 < (wr ((2 : Int) * (m1.length : Int))))) && (i89 != c27)) && (e97 != (0 : UInt8)))) rfl (fun hc => ?_) (fun hc => ?_)
                · have hX := ite_t hc hX
                  refine TK.skip ?_
                  refine hK107 _ _ ?_
                  refine TK.seq_k fun K109 hK109 => ?_
                  refine TK.block ?_
                  refine TK.endK fun KD hKD => ?_
                  refine TK.drwXe [(0, 0), (0, 1), (1, 2), (1, 3), (0, 4), (0, 5), (0, 6), (1, 7), (1, 8), (0, 9), (1, 10), (1, 11), (0, 12), (0, 13), (0, 14), (1, 15), (1, 16), (0, 17), (0, 18), (1, 19), (2, 20)] mixed (by kernel_rfl) ?_
                  refine DR0 (gc := true) rfl (vok_p (C := cx) (p_mv rfl)) rfl rfl ?_
                  refine DR0 (gc := true) rfl (vok_p (C := cx) (p_mv rfl)) rfl rfl ?_
                  obtain ⟨q110, hq110, hX⟩ := bind_some hX
                  refine DR1e (gc := true) rfl (vok_p (C := cx) (p_iaP kd22 ty23 rfl rfl rfl nd (j := 0) rfl (fun _ => hq110))) rfl rfl ?_
                  refine DR1e (gc := true) rfl (vok_p (C := cx) (p_ldP ty23 rfl rfl nd (j := 0) rfl (fun _ => hq110) rfl rfl)) rfl rfl ?_
                  refine DR0 (gc := true) rfl (vok_p (C := cx) (p_mv rfl)) rfl rfl ?_
                  refine DR0 (gc := true) rfl (vok_p (C := cx) (p_mv rfl)) rfl rfl ?_
                  refine DR0 (gc := true) rfl (vok_p (C := cx) (p_mv rfl)) rfl rfl ?_
                  obtain ⟨q111, hq111, hX⟩ := bind_some hX
                  refine DR1e (gc := true) rfl (vok_p (C := cx) (p_iaP kd22 ty23 rfl rfl rfl nd (j := 0) rfl (fun _ => hq111))) rfl rfl ?_
                  refine DR1e (gc := true) rfl (vok_p (C := cx) (p_ldP ty23 rfl rfl nd (j := 0) rfl (fun _ => hq111) rfl rfl)) rfl rfl ?_
                  refine DR0 (gc := true) rfl (vok_p (C := cx) (p_mv rfl)) rfl rfl ?_
                  obtain ⟨e112, he112, hX⟩ := bind_some hX
                  refine DR1e (gc := true) rfl (vok_p (C := cx) (p_iaQ (F := [(b100, RV 23 (pcells (α := UInt8) ns100 ((ix25.set p60.toNat q67).set c27.toNat q65) a101))]) kd23 ty5 rfl rfl rfl nd hG100 (fun _ => (GP.lt hG100 hq111)) (fun _ => he112))) rfl rfl ?_
                  refine DR1e (gc := true) rfl (vok_p (C := cx) (p_ldQ (F := [(b100, RV 23 (pcells (α := UInt8) ns100 ((ix25.set p60.toNat q67).set c27.toNat q65) a101))]) (a := e112) ty5 rfl rfl nd hG100 (fun _ => (GP.lt hG100 hq111)) (fun _ => he112) rfl rfl)) rfl rfl ?_
                  refine DR0 (gc := true) rfl (vok_p (C := cx) (p_mv rfl)) rfl rfl ?_
                  refine DR0 (gc := true) rfl (vok_p (C := cx) (p_mv rfl)) rfl rfl ?_
                  refine DR0 (gc := true) rfl (vok_p (C := cx) (p_mv rfl)) rfl rfl ?_
                  obtain ⟨e113, he113, hX⟩ := bind_some hX
                  refine DR1e (gc := true) rfl (vok_p (C := cx) (p_iaQ (F := [(b100, RV 23 (pcells (α := UInt8) ns100 ((ix25.set p60.toNat q67).set c27.toNat q65) a101))]) kd23 ty5 rfl rfl rfl nd hG100 (fun _ => hq102) (fun _ => he113))) rfl rfl ?_
                  refine DR1e (gc := true) rfl (vok_p (C := cx) (p_ldQ (F := [(b100, RV 23 (pcells (α := UInt8) ns100 ((ix25.set p60.toNat q67).set c27.toNat q65) a101))]) (a := e113) ty5 rfl rfl nd hG100 (fun _ => hq102) (fun _ => he113) rfl rfl)) rfl rfl ?_
                  obtain ⟨r114, hr114, hX⟩ := bind_some hX
                  refine DR0 (gc := true) rfl (vok_c rfl (fun _ => ⟨rfl, ⟨rfl, ⟨rfl, trivial⟩⟩⟩) (fun e => ok_cartridgeref1_Mul e97 e113 _ hr114)) rfl rfl ?_
                  refine DR0 (gc := true) rfl (vok_p (C := cx) (p8_xor (a := e112) (b := r114) rfl rfl)) rfl rfl ?_
                  obtain ⟨e115, he115, hX⟩ := bind_some hX
                  refine DR1e (gc := true) rfl (vok_p (C := cx) (p_iaQ (F := [(b100, RV 23 (pcells (α := UInt8) ns100 ((ix25.set p60.toNat q67).set c27.toNat q65) a101))]) kd23 ty5 rfl rfl rfl nd hG100 (fun _ => (GP.lt hG100 hq110)) (fun _ => he115))) rfl rfl ?_
                  refine DR2en rfl ?_
                  refine TL.stQ (C := cx) (F := [(b100, RV 23 (pcells (α := UInt8) ns100 ((ix25.set p60.toNat q67).set c27.toNat q65) a101))]) (lu := Enc.cl ((e112 ^^^ r114) : UInt8)) (a' := (e112 ^^^ r114)) nd hG100 (GP.lt hG100 hq110) (j := 0) rfl ty5 rfl he115 rfl (Cells_v ((e112 ^^^ r114) : UInt8)) rfl (WkL_refl _) fun nd => ?_
                  refine TL.nil ⟨rfl, ?_⟩
                  refine DRende ?_
                  refine hKD _ _ ?_
                  refine TL.cv 10 (pcell (α := UInt8) ns100 (a101.set q110 ((a101.getD q110 []).set k103.toNat (e112 ^^^ r114))) q65) rfl (Wk_eq (pcell_turn (by simp)).symm) ?_
                  refine TL.nil ?_
                  refine hK109 _ _ ?_
                  refine TK.reg ?_
                  refine TL.p (C := cx) (gc := true) (p_mv rfl) rfl rfl ?_
                  refine TL.p (C := cx) (gc := true) (p_add rfl rfl) rfl rfl ?_
                  refine TL.p (C := cx) (gc := true) (p_mv rfl) rfl rfl ?_
                  refine TL.nil ?_
                  exact ⟨_, (some_in hX).symm, b100, ns100, rfl, (Nd.pickT nd 1 (is := [0]) (by decide) (by decide) (len_geF [_] _)), (HSub.pickT nd 1 (is := [0]) (by decide) (by decide) (len_geF [_] _)), (GP.turn hG100), (lt_set hq102)⟩
                · have hX := ite_f hc hX
                  refine TK.exit ?_
                  obtain rfl := hR99 _ (some_in hX).symm
                  exact E99 a101 _ _ ⟨b100, ns100, rfl, (Nd.pickT nd 1 (is := [0]) (by decide) (by decide) (len_geF [_] _)), (HSub.pickT nd 1 (is := [0]) (by decide) (by decide) (len_geF [_] _)), hG100, hq102⟩ hA99
              · have hX := ite_f hc hX
                refine TK.exit ?_
                obtain rfl := hR85 _ (some_in hX).symm
                exact E85 a87 _ _ ⟨b86, ns86, rfl, (Nd.pickT nd 1 (is := [0]) (by decide) (by decide) (len_geF [_] _)), (HSub.pickT nd 1 (is := [0]) (by decide) (by decide) (len_geF [_] _)), hG86⟩ hA85
            refine TK.iter [4, 5, 8, 10, 11, 12] (fun s env h => match s with | (a76, k78) => ∃ b75 ns75, env = [(4, true, Enc.v ((m1.length : Int) : Int)), (5, true, OX b75 (ix25.set p60.toNat q67)), (8, true, Enc.v (c27 : Int)), (10, true, pcell (α := UInt8) ns75 a76 q65), (11, true, Enc.v (r71 : UInt8)), (12, true, Enc.v (k78 : Int))] ∧ Nd ((b75, RV 23 (pcells (α := UInt8) ns75 (ix25.set p60.toNat q67) a76)) :: zp (α := UInt8) 5 ns75 a76) ∧ HSub ((b75, RV 23 (pcells (α := UInt8) ns75 (ix25.set p60.toNat q67) a76)) :: zp (α := UInt8) 5 ns75 a76) h ∧ GP ns75 (ix25.set p60.toNat q67) a76 ∧ q65 < (a76).length) hO74 ⟨b59, ns59, rfl, (Nd.pickT nd 1 (is := [0]) (by decide) (by decide) (len_geF [_] _)), (HSub.pickT nd 1 (is := [0]) (by decide) (by decide) (len_geF [_] _)), (GP.put hG59 (p60 : Int).toNat (GP.lt hG59 hq67)), (GP.lt hG59 hq65)⟩ ?_
            rintro ⟨a76, k78⟩ env h x74x ⟨b75, ns75, rfl, nd, hs, hG75, hq77⟩ hX hR74
            refine TK.subH hs ?_
            unfold X.cartridgeref1_Inverse_s74 at hX
            try dsimp only at hX
            refine TK.seq_k fun K116 hK116 => ?_
            refine TK.seq_k fun K117 hK117 => ?_
            refine TK.reg ?_
            refine TL.p (C := cx) (gc := true) (p_mv rfl) rfl rfl ?_
            refine TL.p (C := cx) (gc := true) (p_mv rfl) rfl rfl ?_
            refine TL.p (C := cx) (gc := true) (p_mul rfl rfl) rfl rfl ?_
            refine TL.p (C := cx) (gc := true) (p_lss rfl rfl) rfl rfl ?_
            refine TL.nil ?_
            refine hK117 _ _ ?_
            refine TK.cond (b := (decide (k78 < (wr ((2 : Int) * (m1.length : Int)))))) rfl (fun hc => ?_) (fun hc => ?_)
            · have hX := ite_t hc hX
              refine TK.skip ?_
              refine hK116 _ _ ?_
              refine TK.seq_k fun K118 hK118 => ?_
              refine TK.block ?_
              refine TK.reg ?_
              refine TL.p (C := cx) (gc := true) (p_mv rfl) rfl rfl ?_
              refine TL.p (C := cx) (gc := true) (p_mv rfl) rfl rfl ?_
              refine TL.p (C := cx) (gc := true) (p_mv rfl) rfl rfl ?_
              refine TL.p (C := cx) (gc := true) (p_mv rfl) rfl rfl ?_
              obtain ⟨e119, he119, hX⟩ := bind_some hX
              refine TL.p (C := cx) (gc := true) (p_iaQ (F := [(b75, RV 23 (pcells (α := UInt8) ns75 (ix25.set p60.toNat q67) a76))]) kd23 ty5 rfl rfl rfl nd hG75 (fun _ => hq77) (fun _ => he119)) rfl rfl ?_
              refine TL.p (C := cx) (gc := true) (p_ldQ (F := [(b75, RV 23 (pcells (α := UInt8) ns75 (ix25.set p60.toNat q67) a76))]) (a := e119) ty5 rfl rfl nd hG75 (fun _ => hq77) (fun _ => he119) rfl rfl) rfl rfl ?_
              refine TL.p (C := cx) (gc := true) (p_mv rfl) rfl rfl ?_
              obtain ⟨r120, hr120, hX⟩ := bind_some hX
              refine TL.cvX rfl rfl rfl (fun _ => ⟨rfl, ⟨rfl, ⟨rfl, trivial⟩⟩⟩) (fun e => ok_cartridgeref1_Mul e119 r71 _ hr120) ?_
              obtain ⟨e121, he121, hX⟩ := bind_some hX
              refine TL.p (C := cx) (gc := true) (p_iaQ (F := [(b75, RV 23 (pcells (α := UInt8) ns75 (ix25.set p60.toNat q67) a76))]) kd23 ty5 rfl rfl rfl nd hG75 (fun _ => hq77) (fun _ => he121)) rfl rfl ?_
              refine TL.stQ (C := cx) (F := [(b75, RV 23 (pcells (α := UInt8) ns75 (ix25.set p60.toNat q67) a76))]) (lu := Enc.cl (r120 : UInt8)) (a' := r120) nd hG75 hq77 (j := 0) rfl ty5 rfl he121 rfl (Cells_v (r120 : UInt8)) rfl (WkL_refl _) fun nd => ?_
              refine TL.cv 10 (pcell (α := UInt8) ns75 (a76.set q65 ((a76.getD q65 []).set k78.toNat r120)) q65) rfl (Wk_eq (pcell_turn (by simp)).symm) ?_
              refine TL.nil ?_
              refine hK118 _ _ ?_
              refine TK.reg ?_
              refine TL.p (C := cx) (gc := true) (p_mv rfl) rfl rfl ?_
              refine TL.p (C := cx) (gc := true) (p_add rfl rfl) rfl rfl ?_
              refine TL.p (C := cx) (gc := true) (p_mv rfl) rfl rfl ?_
              refine TL.nil ?_
              exact ⟨_, (some_in hX).symm, b75, ns75, rfl, (Nd.pickT nd 1 (is := [0]) (by decide) (by decide) (len_geF [_] _)), (HSub.pickT nd 1 (is := [0]) (by decide) (by decide) (len_geF [_] _)), (GP.turn hG75), (lt_set hq77)⟩
            · have hX := ite_f hc hX
              refine TK.exit ?_
              obtain rfl := hR74 _ (some_in hX).symm
              exact E74 a76 _ _ ⟨b75, ns75, rfl, (Nd.pickT nd 1 (is := [0]) (by decide) (by decide) (len_geF [_] _)), (HSub.pickT nd 1 (is := [0]) (by decide) (by decide) (len_geF [_] _)), hG75, hq77⟩ hA74
        refine TK.iter [4, 5, 8, 9] (fun s env h => match s with | p58 => ∃ b57 ns57, env = [(4, true, Enc.v ((m1.length : Int) : Int)), (5, true, OX b57 ix25), (8, true, Enc.v (c27 : Int)), (9, true, Enc.v (p58 : Int))] ∧ Nd ((b57, RV 23 (pcells (α := UInt8) ns57 ix25 a26)) :: zp (α := UInt8) 5 ns57 a26) ∧ HSub ((b57, RV 23 (pcells (α := UInt8) ns57 ix25 a26)) :: zp (α := UInt8) 5 ns57 a26) h ∧ GP ns57 ix25 a26) hO56 ⟨b24, ns24, rfl, (Nd.pickT nd 1 (is := [0]) (by decide) (by decide) (len_geF [_] _)), (HSub.pickT nd 1 (is := [0]) (by decide) (by decide) (len_geF [_] _)), hG24⟩ ?_
        rintro p58 env h x56x ⟨b57, ns57, rfl, nd, hs, hG57⟩ hX hR56
        refine TK.subH hs ?_
        unfold X.cartridgeref1_Inverse_s56 at hX
        try dsimp only at hX
        refine TK.seq_k fun K122 hK122 => ?_
        refine TK.seq_k fun K123 hK123 => ?_
        refine TK.reg ?_
        refine TL.p (C := cx) (gc := true) (p_mv rfl) rfl rfl ?_
        refine TL.p (C := cx) (gc := true) (p_mv rfl) rfl rfl ?_
        refine TL.p (C := cx) (gc := true) (p_lss rfl rfl) rfl rfl ?_
        refine TL.p (C := cx) (gc := true) (p_mv rfl) rfl rfl ?_
        refine TL.p (C := cx) (gc := ((decide (p58 < (m1.length : Int))))) (p_mv rfl (hg := fun e => rfl)) (gcT1 rfl) rfl ?_
        refine TL.p (C := cx) (gc := ((decide (p58 < (m1.length : Int))))) (p_mv rfl (hg := fun e => rfl)) (gcT1 rfl) rfl ?_
        obtain ⟨q124, hq124, hX⟩ := bind_some hX
        refine TL.p (C := cx) (gc := ((decide (p58 < (m1.length : Int))))) (p_iaP kd22 ty23 rfl rfl rfl nd (j := 0) rfl (fun e => optG_t hq124 e) (hg := fun e => ⟨e, e⟩)) (gcT1 rfl) rfl ?_
        refine TL.p (C := cx) (gc := ((decide (p58 < (m1.length : Int))))) (p_ldP ty23 rfl rfl nd (j := 0) rfl (fun e => optG_t hq124 e) rfl rfl (hg := fun e => e)) (gcT1 rfl) rfl ?_
        refine TL.p (C := cx) (gc := ((decide (p58 < (m1.length : Int))))) (p_mv rfl (hg := fun e => rfl)) (gcT1 rfl) rfl ?_
        obtain ⟨e125, he125, hX⟩ := bind_some hX
        refine TL.p (C := cx) (gc := ((decide (p58 < (m1.length : Int))))) (p_iaQ (F := [(b57, RV 23 (pcells (α := UInt8) ns57 ix25 a26))]) kd23 ty5 rfl rfl rfl nd hG57 (fun e => GP.lt hG57 (optG_t hq124 e)) (fun e => optG_t he125 e) (hg := fun e => ⟨e, e⟩)) (gcT1 rfl) rfl ?_
        refine TL.p (C := cx) (gc := ((decide (p58 < (m1.length : Int))))) (p_ldQ (F := [(b57, RV 23 (pcells (α := UInt8) ns57 ix25 a26))]) (a := e125) ty5 rfl rfl nd hG57 (fun e => GP.lt hG57 (optG_t hq124 e)) (fun e => optG_t he125 e) rfl rfl (hg := fun e => e)) (gcT1 rfl) rfl ?_
        refine TL.p (C := cx) (gc := ((decide (p58 < (m1.length : Int))))) (p8_eql (a := e125) (b := (0 : UInt8)) rfl rfl (hg := fun e => ⟨e, rfl⟩)) (gcT1 rfl) rfl ?_
        refine TL.p (C := cx) (gc := true) (p_and rfl rfl (fun e => ⟨rfl, fun h => h⟩)) rfl rfl ?_
        refine TL.nil ?_
        refine hK123 _ _ ?_
        refine TK.cond (b := ((decide (p58 < (m1.length : Int))) && (e125 == (0 : UInt8)))) rfl (fun hc => ?_) (fun hc => ?_)
        · have hX := ite_t hc hX
          refine TK.skip ?_
          refine hK122 _ _ ?_
          refine TK.block ?_
          refine TK.reg ?_
          refine TL.p (C := cx) (gc := true) (p_mv rfl) rfl rfl ?_
          refine TL.p (C := cx) (gc := true) (p_add rfl rfl) rfl rfl ?_
          refine TL.p (C := cx) (gc := true) (p_mv rfl) rfl rfl ?_
          refine TL.nil ?_
          exact ⟨_, (some_in hX).symm, b57, ns57, rfl, (Nd.pickT nd 1 (is := [0]) (by decide) (by decide) (len_geF [_] _)), (HSub.pickT nd 1 (is := [0]) (by decide) (by decide) (len_geF [_] _)), hG57⟩
        · have hX := ite_f hc hX
          refine TK.exit ?_
          obtain rfl := hR56 _ (some_in hX).symm
          exact E56 p58 _ _ ⟨b57, ns57, rfl, (Nd.pickT nd 1 (is := [0]) (by decide) (by decide) (len_geF [_] _)), (HSub.pickT nd 1 (is := [0]) (by decide) (by decide) (len_geF [_] _)), hG57⟩ hA56
      · have hX := ite_f hc hX
        refine TK.exit ?_
        obtain rfl := hR23 _ (some_in hX).symm
        exact E23 ix25 a26 _ _ ⟨b24, ns24, rfl, (Nd.pickT nd 1 (is := [0]) (by decide) (by decide) (len_geF [_] _)), (HSub.pickT nd 1 (is := [0]) (by decide) (by decide) (len_geF [_] _)), hG24⟩ hA23
    refine TK.iter [0, 4, 5, 6] (fun s env h => match s with | (ix15, a16, i17) => ∃ b14 ns14, env = [(0, true, Enc.v (m1 : (List (List UInt8)))), (4, true, Enc.v ((m1.length : Int) : Int)), (5, true, OX b14 ix15), (6, true, Enc.v (i17 : Int))] ∧ Nd ((b14, RV 23 (pcells (α := UInt8) ns14 ix15 a16)) :: zp (α := UInt8) 5 ns14 a16) ∧ HSub ((b14, RV 23 (pcells (α := UInt8) ns14 ix15 a16)) :: zp (α := UInt8) 5 ns14 a16) h ∧ GP ns14 ix15 a16) hO13 ⟨b10, [], rfl, (Nd.pickT nd 1 (is := [0]) (by decide) (by decide) (len_geF [_] _)), (HSub.pickT nd 1 (is := [0]) (by decide) (by decide) (len_geF [_] _)), GP.nil⟩ ?_
    rintro ⟨ix15, a16, i17⟩ env h x13x ⟨b14, ns14, rfl, nd, hs, hG14⟩ hX hR13
    refine TK.subH hs ?_
    unfold X.cartridgeref1_Inverse_s13 at hX
    try dsimp only at hX
    refine TK.seq_k fun K126 hK126 => ?_
    refine TK.seq_k fun K127 hK127 => ?_
    refine TK.reg ?_
    refine TL.p (C := cx) (gc := true) (p_mv rfl) rfl rfl ?_
    refine TL.p (C := cx) (gc := true) (p_mv rfl) rfl rfl ?_
    refine TL.p (C := cx) (gc := true) (p_lss rfl rfl) rfl rfl ?_
    refine TL.nil ?_
    refine hK127 _ _ ?_
    refine TK.cond (b := (decide (i17 < (m1.length : Int)))) rfl (fun hc => ?_) (fun hc => ?_)
    · have hX := ite_t hc hX
      refine TK.skip ?_
      refine hK126 _ _ ?_
      refine TK.seq_k fun K128 hK128 => ?_
      refine TK.block ?_
      refine TK.seq_k fun K129 hK129 => ?_
      refine TK.reg ?_
      refine TL.p (C := cx) (gc := true) (p_mv rfl) rfl rfl ?_
      refine TL.p (C := cx) (gc := true) (p_mv rfl) rfl rfl ?_
      obtain ⟨e130, he130, hX⟩ := bind_some hX
      refine TL.p (C := cx) (gc := true) (p_iaL (xs := m1) kd22 ty23 rfl rfl rfl (fun _ => he130)) rfl rfl ?_
      refine TL.p (C := cx) (gc := true) (p_ldE (xs := m1) (a := e130) (e130 : (List UInt8)) ty23 rfl rfl (fun _ => he130) rfl rfl rfl) rfl rfl ?_
      obtain ⟨u131, hu131, hX⟩ := bind_some hX
      refine TL.appN (C := cx) nd kd23 bo23 ty5 rfl rfl (.inl rfl) rfl (Src_L _) (by decide) (need_t hu131) rfl fun b132 nd => ?_
      refine TL.p (C := cx) (gc := true) (p_mv rfl) rfl rfl ?_
      obtain ⟨u133, hu133, hX⟩ := bind_some hX
      refine TL.appOZ (C := cx) nd (0 : UInt8) kd23 kd3 ty5 rfl (fun j hj => by (have : j = 0 := by simpa [Enc.sz] using hj); subst this; rfl) rfl (j := 0) rfl rfl (need_t hu133).1 (by decide) (need_t hu133).2 rfl fun nd => ?_
      refine TL.p (C := cx) (gc := true) (p_mv rfl) rfl rfl ?_
      refine TL.nil ?_
      refine hK129 _ _ ?_
      refine TK.seq_k fun K134 hK134 => ?_
      refine TK.reg ?_
      refine TL.p (C := cx) (gc := true) (p_mv rfl) rfl rfl ?_
      refine TL.p (C := cx) (gc := true) (p_mv rfl) rfl rfl ?_
      refine TL.p (C := cx) (gc := true) (p_mv rfl) rfl rfl ?_
      refine TL.p (C := cx) (gc := true) (p_add rfl rfl) rfl rfl ?_
      obtain ⟨e135, he135, hX⟩ := bind_some hX
      refine TL.p (C := cx) (gc := true) (p_iaO (xs := (e130 ++ (List.replicate (m1.length : Int).toNat (0 : UInt8)))) kd23 ty5 rfl rfl rfl nd (j := 0) rfl (fun _ => he135)) rfl rfl ?_
      refine TL.stW (C := cx) (xs := (e130 ++ (List.replicate (m1.length : Int).toNat (0 : UInt8)))) (i := (wr ((m1.length : Int) + i17))) (lu := Enc.cl ((1 : UInt8) : UInt8)) (a' := (1 : UInt8)) nd ty5 rfl (j := 0) rfl (by simp [Enc.sz]) (inb_of he135 (by simp)) rfl (Cells_v ((1 : UInt8) : UInt8)) rfl (WkL_refl _) fun nd => ?_
      refine TL.cv 7 (OL b132 ((e130 ++ (List.replicate (m1.length : Int).toNat (0 : UInt8))).set (wr ((m1.length : Int) + i17)).toNat (1 : UInt8))) rfl (Wk_eq (OL_len (by simp))) ?_
      refine TL.nil ?_
      refine hK134 _ _ ?_
      refine TK.reg ?_
      refine TL.p (C := cx) (gc := true) (p_mv rfl) rfl rfl ?_
      refine TL.p (C := cx) (gc := true) (p_mv rfl) rfl rfl ?_
      refine TL.litP (C := cx) nd kd22 ty23 rfl rfl (j := 0) rfl rfl ?_
      obtain ⟨u136, hu136, hX⟩ := bind_some hX
      refine TL.appP (C := cx) (F := [(b132, RL (α := UInt8) 5 ((e130 ++ (List.replicate (m1.length : Int).toNat (0 : UInt8))).set (wr ((m1.length : Int) + i17)).toNat (1 : UInt8))), (b14, RV 23 (pcells (α := UInt8) ns14 ix15 a16))]) nd kd22 bo22 ty23 rfl rfl (j := 1) rfl (j2 := 0) rfl rfl hG14 rfl (by decide) (need_t hu136) rfl fun nd => ?_
      refine TL.p (C := cx) (gc := true) (p_mv rfl) rfl rfl ?_
      refine TL.nil ?_
      refine hK128 _ _ ?_
      refine TK.reg ?_
      refine TL.p (C := cx) (gc := true) (p_mv rfl) rfl rfl ?_
      refine TL.p (C := cx) (gc := true) (p_add rfl rfl) rfl rfl ?_
      refine TL.p (C := cx) (gc := true) (p_mv rfl) rfl rfl ?_
      refine TL.nil ?_
      exact ⟨_, (some_in hX).symm, b14, (ns14 ++ [b132]), rfl, (Nd.pickT nd 1 (is := [0]) (by decide) (by decide) (len_geF [_] _)), (HSub.pickT nd 1 (is := [0]) (by decide) (by decide) (len_geF [_] _)), (GP.push hG14)⟩
    · have hX := ite_f hc hX
      refine TK.exit ?_
      obtain rfl := hR13 _ (some_in hX).symm
      exact E13 ix15 a16 _ _ ⟨b14, ns14, rfl, (Nd.pickT nd 1 (is := [0]) (by decide) (by decide) (len_geF [_] _)), (HSub.pickT nd 1 (is := [0]) (by decide) (by decide) (len_geF [_] _)), hG14⟩ hA13

/-- cartridge/cartridgeref1.SameRows -/
theorem ok_cartridgeref1_SameRows (a1 : (List (List UInt8))) (b2 : (List (List UInt8))) (r : Bool) (hX : X.cartridgeref1_SameRows a1 b2 = some r) : Fun Try.prog 28 [Enc.v (a1 : (List (List UInt8))), Enc.v (b2 : (List (List UInt8)))] (· = Enc.v (r : Bool)) := by
  refine Fun.of b28 (Nat.le_of_ble_eq_true rfl) (allVal.mem ⟨(by exact (v_val _)), (by exact (v_val _)), trivial⟩) ?_
  unfold k28
  have nd : Nd [] := Nd_nil
  unfold X.cartridgeref1_SameRows at hX
  refine TK.seq_k fun K3 hK3 => ?_
  refine TK.reg ?_
  refine TL.p (C := cx) (gc := true) (p_mv rfl) rfl rfl ?_
  refine TL.nil ?_
  refine hK3 _ _ ?_
  refine TK.seq_k fun K4 hK4 => ?_
  refine TK.seq_k fun K5 hK5 => ?_
  refine TK.reg ?_
  refine TL.p (C := cx) (gc := true) (p_mv rfl) rfl rfl ?_
  refine TL.p (C := cx) (gc := true) (p_lenL (xs := a1) kd22 rfl) rfl rfl ?_
  refine TL.p (C := cx) (gc := true) (p_mv rfl) rfl rfl ?_
  refine TL.p (C := cx) (gc := true) (p_lenL (xs := b2) kd22 rfl) rfl rfl ?_
  refine TL.p (C := cx) (gc := true) (p_neq rfl rfl) rfl rfl ?_
  refine TL.nil ?_
  refine hK5 _ _ ?_
  refine TK.cond (b := ((a1.length : Int) != (b2.length : Int))) rfl (fun hc => ?_) (fun hc => ?_)
  · have hX := ite_t hc hX
    refine TK.seq_k fun K6 hK6 => ?_
    refine TK.reg ?_
    refine TL.p (C := cx) (gc := true) (p_mv rfl) rfl rfl ?_
    refine TL.nil ?_
    refine hK6 _ _ ?_
    refine TK.ret ?_
    try dsimp only [thenQ]
    exact ret1 (v := Enc.v (false : Bool)) rfl (by obtain rfl := some_in hX; rfl) (v_val _)
  · have hX := ite_f hc hX
    refine TK.skip ?_
    refine hK4 _ _ ?_
    refine TK.seq_k fun K7 hK7 => ?_
    refine TK.seq_k fun K8 hK8 => ?_
    refine TK.reg ?_
    refine TL.p (C := cx) (gc := true) (p_mv rfl) rfl rfl ?_
    refine TL.nil ?_
    refine hK8 _ _ ?_
    refine TK.block ?_
    obtain ⟨o9, hO9, hA9⟩ := bind_some hX
    have E9 : ∀ (env : Env) (h : Hp), (∃ _u : Unit, keepE [] env = [] ∧ Nd [] ∧ HSub [] h) → X.cartridgeref1_SameRows_e9 = some r → K7 env h := by
      intro  env h hE hX
      obtain ⟨_u, henv, nd, hs⟩ := hE
      unfold X.cartridgeref1_SameRows_e9 at hX
      refine hK7 _ _ (TK.keep [] ?_)
      rw [henv]
      refine TK.subH hs ?_
      refine TK.seq_k fun K11 hK11 => ?_
      refine TK.reg ?_
      refine TL.p (C := cx) (gc := true) (p_mv rfl) rfl rfl ?_
      refine TL.nil ?_
      refine hK11 _ _ ?_
      refine TK.ret ?_
      try dsimp only [thenQ]
      exact ret1 (v := Enc.v (true : Bool)) rfl (by obtain rfl := some_in hX; rfl) (v_val _)
    refine TK.iter [0, 1, 5] (fun s env h => match s with | i10 => ∃ _u : Unit, env = [(0, true, Enc.v (a1 : (List (List UInt8)))), (1, true, Enc.v (b2 : (List (List UInt8)))), (5, true, Enc.v (i10 : Int))] ∧ Nd [] ∧ HSub [] h) hO9 ⟨(), rfl, Nd_nil, HSub.refl _⟩ ?_
    rintro i10 env h x9x ⟨_u, rfl, nd, hs⟩ hX hR9
    refine TK.subH hs ?_
    unfold X.cartridgeref1_SameRows_s9 at hX
    try dsimp only at hX
    refine TK.seq_k fun K12 hK12 => ?_
    refine TK.seq_k fun K13 hK13 => ?_
    refine TK.reg ?_
    refine TL.p (C := cx) (gc := true) (p_mv rfl) rfl rfl ?_
    refine TL.p (C := cx) (gc := true) (p_mv rfl) rfl rfl ?_
    refine TL.p (C := cx) (gc := true) (p_lenL (xs := a1) kd22 rfl) rfl rfl ?_
    refine TL.p (C := cx) (gc := true) (p_lss rfl rfl) rfl rfl ?_
    refine TL.nil ?_
    refine hK13 _ _ ?_
    refine TK.cond (b := (decide (i10 < (a1.length : Int)))) rfl (fun hc => ?_) (fun hc => ?_)
    · have hX := ite_t hc hX
      refine TK.skip ?_
      refine hK12 _ _ ?_
      refine TK.seq_k fun K14 hK14 => ?_
      refine TK.block ?_
      refine TK.seq_k fun K15 hK15 => ?_
      have ndS : Nd [] := Nd.pick nd (is := []) (by decide)
      refine TK.drwX (h := []) (hS := []) [(0, 0), (0, 1), (0, 2), (0, 3), (0, 4), (0, 5), (0, 6), (0, 7), (0, 8), (0, 9), (0, 10)] mixed (by kernel_rfl) (HSub_app nd) ?_
      refine DR0 (gc := true) rfl (vok_p (C := cx) (p_mv rfl)) rfl rfl ?_
      refine DR0 (gc := true) rfl (vok_p (C := cx) (p_mv rfl)) rfl rfl ?_
      obtain ⟨e16, he16, hX⟩ := bind_some hX
      refine DR0 (gc := true) rfl (vok_p (C := cx) (p_iaL (xs := a1) kd22 ty23 rfl rfl rfl (fun _ => he16))) rfl rfl ?_
      refine DR0 (gc := true) rfl (vok_p (C := cx) (p_ldE (xs := a1) (a := e16) (e16 : (List UInt8)) ty23 rfl rfl (fun _ => he16) rfl rfl rfl)) rfl rfl ?_
      refine DR0 (gc := true) rfl (vok_cvtBS (C := cx) (gc := true) (xs := e16) kd23 kd5 kd9 rfl (look_v (v := Enc.v (e16 : (List UInt8))) (v_val _))) rfl rfl ?_
      refine DR0 (gc := true) rfl (vok_p (C := cx) (p_mv rfl)) rfl rfl ?_
      refine DR0 (gc := true) rfl (vok_p (C := cx) (p_mv rfl)) rfl rfl ?_
      obtain ⟨e17, he17, hX⟩ := bind_some hX
      refine DR0 (gc := true) rfl (vok_p (C := cx) (p_iaL (xs := b2) kd22 ty23 rfl rfl rfl (fun _ => he17))) rfl rfl ?_
      refine DR0 (gc := true) rfl (vok_p (C := cx) (p_ldE (xs := b2) (a := e17) (e17 : (List UInt8)) ty23 rfl rfl (fun _ => he17) rfl rfl rfl)) rfl rfl ?_
      refine DR0 (gc := true) rfl (vok_cvtBS (C := cx) (gc := true) (xs := e17) kd23 kd5 kd9 rfl (look_v (v := Enc.v (e17 : (List UInt8))) (v_val _))) rfl rfl ?_
      refine DR0 (gc := true) rfl (vok_p (C := cx) (ps_neq (s := (Str.mk e16)) (r := (Str.mk e17)) rfl rfl)) rfl rfl ?_
      refine DRend ?_
      refine hK15 _ _ ?_
      refine TK.cond (b := (!((Str.mk e16).l == (Str.mk e17).l))) rfl (fun hc => ?_) (fun hc => ?_)
      · have hX := ite_t hc hX
        refine TK.seq_k fun K18 hK18 => ?_
        refine TK.reg ?_
        refine TL.p (C := cx) (gc := true) (p_mv rfl) rfl rfl ?_
        refine TL.nil ?_
        refine hK18 _ _ ?_
        refine TK.ret ?_
        obtain rfl := hR9 _ (some_in hX).symm
        replace hX := hA9
        try dsimp only [thenQ]
        exact ret1 (v := Enc.v (false : Bool)) rfl (by obtain rfl := some_in hX; rfl) (v_val _)
      · have hX := ite_f hc hX
        refine TK.skip ?_
        refine hK14 _ _ ?_
        refine TK.reg ?_
        refine TL.p (C := cx) (gc := true) (p_mv rfl) rfl rfl ?_
        refine TL.p (C := cx) (gc := true) (p_add rfl rfl) rfl rfl ?_
        refine TL.p (C := cx) (gc := true) (p_mv rfl) rfl rfl ?_
        refine TL.nil ?_
        exact ⟨_, (some_in hX).symm, (), rfl, Nd_nil, HSub.refl _⟩
    · have hX := ite_f hc hX
      refine TK.exit ?_
      obtain rfl := hR9 _ (some_in hX).symm
      exact E9 _ _ ⟨(), rfl, Nd_nil, HSub.refl _⟩ hA9

/-- cartridge/cartridgelaw2.MatrixTells -/
theorem ok_cartridgelaw2_MatrixTells (a1 : (List (List UInt8))) (b2 : (List (List UInt8))) (v3 : (List UInt8)) (r : Bool) (hX : X.cartridgelaw2_MatrixTells a1 b2 v3 = some r) : Fun Try.prog 7 [Enc.v (a1 : (List (List UInt8))), Enc.v (b2 : (List (List UInt8))), Enc.v (v3 : (List UInt8))] (· = Enc.v (r : Bool)) := by
  refine Fun.of b7 (Nat.le_of_ble_eq_true rfl) (allVal.mem ⟨(by exact (v_val _)), (by exact (v_val _)), (by exact (v_val _)), trivial⟩) ?_
  unfold k7
  have nd : Nd [] := Nd_nil
  unfold X.cartridgelaw2_MatrixTells at hX
  refine TK.seq_k fun K4 hK4 => ?_
  refine TK.reg ?_
  refine TL.p (C := cx) (gc := true) (p_mv rfl) rfl rfl ?_
  refine TL.nil ?_
  refine hK4 _ _ ?_
  refine TK.seq_k fun K5 hK5 => ?_
  refine TK.reg ?_
  obtain ⟨r6, hr6, hX⟩ := bind_some hX
  refine TL.cvX rfl rfl rfl (fun _ => ⟨rfl, trivial⟩) (fun e => ok_cartridgelaw2_alive  _ hr6) ?_
  refine TL.p (C := cx) (gc := true) (p_mv rfl) rfl rfl ?_
  refine TL.nil ?_
  refine hK5 _ _ ?_
  refine TK.seq_k fun K7 hK7 => ?_
  refine TK.seq_k fun K8 hK8 => ?_
  refine TK.reg ?_
  refine TL.p (C := cx) (gc := true) (p_mv rfl) rfl rfl ?_
  refine TL.p (C := cx) (gc := true) (p_not rfl) rfl rfl ?_
  refine TL.p (C := cx) (gc := true) (p_mv rfl) rfl rfl ?_
  refine TL.p (C := cx) (gc := (!((!r6)))) (p_mv rfl (hg := fun e => rfl)) (gcF1 rfl) rfl ?_
  obtain ⟨r9, hr9, hX⟩ := bind_some hX
  refine TL.cvX (gcF1 rfl) rfl rfl (fun e => ⟨rfl, ⟨e, trivial⟩⟩) (fun e => ok_cartridgelaw2_Few a1 _ (optG_t hr9 e)) ?_
  refine TL.p (C := cx) (gc := (!((!r6)))) (p_not rfl (hg := fun e => e)) (gcF1 rfl) rfl ?_
  refine TL.p (C := cx) (gc := true) (p_or rfl rfl (fun e => ⟨rfl, fun h => (not_t h)⟩)) rfl rfl ?_
  refine TL.p (C := cx) (gc := true) (p_mv rfl) rfl rfl ?_
  refine TL.p (C := cx) (gc := (!(((!r6) || (!r9))))) (p_mv rfl (hg := fun e => rfl)) (gcF1 rfl) rfl ?_
  obtain ⟨r10, hr10, hX⟩ := bind_some hX
  refine TL.cvX (gcF1 rfl) rfl rfl (fun e => ⟨rfl, ⟨e, trivial⟩⟩) (fun e => ok_cartridgelaw2_Few b2 _ (optG_t hr10 e)) ?_
  refine TL.p (C := cx) (gc := (!(((!r6) || (!r9))))) (p_not rfl (hg := fun e => e)) (gcF1 rfl) rfl ?_
  refine TL.p (C := cx) (gc := true) (p_or rfl rfl (fun e => ⟨rfl, fun h => (not_t h)⟩)) rfl rfl ?_
  refine TL.p (C := cx) (gc := true) (p_mv rfl) rfl rfl ?_
  refine TL.p (C := cx) (gc := (!((((!r6) || (!r9)) || (!r10))))) (p_mv rfl (hg := fun e => rfl)) (gcF1 rfl) rfl ?_
  refine TL.p (C := cx) (gc := (!((((!r6) || (!r9)) || (!r10))))) (p_lenL (xs := v3) kd23 rfl (hg := fun e => e)) (gcF1 rfl) rfl ?_
  refine TL.p (C := cx) (gc := (!((((!r6) || (!r9)) || (!r10))))) (p_gtr rfl rfl (hg := fun e => ⟨e, rfl⟩)) (gcF1 rfl) rfl ?_
  refine TL.p (C := cx) (gc := true) (p_or rfl rfl (fun e => ⟨rfl, fun h => (not_t h)⟩)) rfl rfl ?_
  refine TL.nil ?_
  refine hK8 _ _ ?_
  refine TK.cond (b := ((((!r6) || (!r9)) || (!r10)) || (decide ((v3.length : Int) > (400 : Int))))) rfl (fun hc => ?_) (fun hc => ?_)
  · have hX := ite_t hc hX
    refine TK.seq_k fun K11 hK11 => ?_
    refine TK.reg ?_
    refine TL.p (C := cx) (gc := true) (p_mv rfl) rfl rfl ?_
    refine TL.p (C := cx) (gc := true) (p_mv rfl) rfl rfl ?_
    refine TL.nil ?_
    refine hK11 _ _ ?_
    refine TK.ret ?_
    try dsimp only [thenQ]
    exact ret1 (v := Enc.v (r6 : Bool)) rfl (by obtain rfl := some_in hX; rfl) (v_val _)
  · have hX := ite_f hc hX
    refine TK.skip ?_
    refine hK7 _ _ ?_
    refine TK.seq_k fun K12 hK12 => ?_
    refine TK.reg ?_
    refine TL.p (C := cx) (gc := true) (p_mv rfl) rfl rfl ?_
    refine TL.p (C := cx) (gc := true) (p_mv rfl) rfl rfl ?_
    obtain ⟨r13, hr13, hX⟩ := bind_some hX
    refine TL.cvX rfl rfl rfl (fun _ => ⟨rfl, ⟨rfl, ⟨rfl, trivial⟩⟩⟩) (fun e => ok_matrix_Mul a1 b2 _ hr13) ?_
    refine TL.p (C := cx) (gc := true) (p_mv rfl) rfl rfl ?_
    refine TL.p (C := cx) (gc := true) (p_ex rfl rfl (by decide)) rfl rfl ?_
    refine TL.p (C := cx) (gc := true) (p_ex rfl rfl (by decide)) rfl rfl ?_
    refine TL.p (C := cx) (gc := true) (p_mv rfl) rfl rfl ?_
    refine TL.p (C := cx) (gc := true) (p_mv rfl) rfl rfl ?_
    refine TL.nil ?_
    refine hK12 _ _ ?_
    refine TK.seq_k fun K14 hK14 => ?_
    refine TK.reg ?_
    refine TL.p (C := cx) (gc := true) (p_mv rfl) rfl rfl ?_
    refine TL.p (C := cx) (gc := true) (p_mv rfl) rfl rfl ?_
    obtain ⟨r15, hr15, hX⟩ := bind_some hX
    refine TL.cvX rfl rfl rfl (fun _ => ⟨rfl, ⟨rfl, ⟨rfl, trivial⟩⟩⟩) (fun e => ok_cartridgeref1_MulMatrix a1 b2 _ hr15) ?_
    refine TL.p (C := cx) (gc := true) (p_mv rfl) rfl rfl ?_
    refine TL.p (C := cx) (gc := true) (p_ex rfl rfl (by decide)) rfl rfl ?_
    refine TL.p (C := cx) (gc := true) (p_ex rfl rfl (by decide)) rfl rfl ?_
    refine TL.p (C := cx) (gc := true) (p_mv rfl) rfl rfl ?_
    refine TL.p (C := cx) (gc := true) (p_mv rfl) rfl rfl ?_
    refine TL.nil ?_
    refine hK14 _ _ ?_
    refine TK.seq_k fun K16 hK16 => ?_
    refine TK.reg ?_
    refine TL.p (C := cx) (gc := true) (p_mv rfl) rfl rfl ?_
    refine TL.p (C := cx) (gc := true) (p_mv rfl) rfl rfl ?_
    obtain ⟨r17, hr17, hX⟩ := bind_some hX
    refine TL.cvX rfl rfl rfl (fun _ => ⟨rfl, ⟨rfl, ⟨rfl, trivial⟩⟩⟩) (fun e => ok_matrix_Apply a1 v3 _ hr17) ?_
    refine TL.p (C := cx) (gc := true) (p_mv rfl) rfl rfl ?_
    refine TL.p (C := cx) (gc := true) (p_ex rfl rfl (by decide)) rfl rfl ?_
    refine TL.p (C := cx) (gc := true) (p_ex rfl rfl (by decide)) rfl rfl ?_
    refine TL.p (C := cx) (gc := true) (p_mv rfl) rfl rfl ?_
    refine TL.p (C := cx) (gc := true) (p_mv rfl) rfl rfl ?_
    refine TL.nil ?_
    refine hK16 _ _ ?_
    refine TK.seq_k fun K18 hK18 => ?_
    refine TK.reg ?_
    refine TL.p (C := cx) (gc := true) (p_mv rfl) rfl rfl ?_
    refine TL.p (C := cx) (gc := true) (p_mv rfl) rfl rfl ?_
    obtain ⟨r19, hr19, hX⟩ := bind_some hX
    refine TL.cvX rfl rfl rfl (fun _ => ⟨rfl, ⟨rfl, ⟨rfl, trivial⟩⟩⟩) (fun e => ok_cartridgeref1_Apply a1 v3 _ hr19) ?_
    refine TL.p (C := cx) (gc := true) (p_mv rfl) rfl rfl ?_
    refine TL.p (C := cx) (gc := true) (p_ex rfl rfl (by decide)) rfl rfl ?_
    refine TL.p (C := cx) (gc := true) (p_ex rfl rfl (by decide)) rfl rfl ?_
    refine TL.p (C := cx) (gc := true) (p_mv rfl) rfl rfl ?_
    refine TL.p (C := cx) (gc := true) (p_mv rfl) rfl rfl ?_
    refine TL.nil ?_
    refine hK18 _ _ ?_
    refine TK.seq_k fun K20 hK20 => ?_
    refine TK.reg ?_
    refine TL.p (C := cx) (gc := true) (p_mv rfl) rfl rfl ?_
    obtain ⟨r21, hr21, hX⟩ := bind_some hX
    refine TL.cvX rfl rfl rfl (fun _ => ⟨rfl, ⟨rfl, trivial⟩⟩) (fun e => ok_matrix_Inverse a1 _ hr21) ?_
    refine TL.p (C := cx) (gc := true) (p_mv rfl) rfl rfl ?_
    refine TL.p (C := cx) (gc := true) (p_ex rfl rfl (by decide)) rfl rfl ?_
    refine TL.p (C := cx) (gc := true) (p_ex rfl rfl (by decide)) rfl rfl ?_
    refine TL.p (C := cx) (gc := true) (p_mv rfl) rfl rfl ?_
    refine TL.p (C := cx) (gc := true) (p_mv rfl) rfl rfl ?_
    refine TL.nil ?_
    refine hK20 _ _ ?_
    refine TK.seq_k fun K22 hK22 => ?_
    refine TK.reg ?_
    refine TL.p (C := cx) (gc := true) (p_mv rfl) rfl rfl ?_
    obtain ⟨r23, hr23, hX⟩ := bind_some hX
    refine TL.cvX rfl rfl rfl (fun _ => ⟨rfl, ⟨rfl, trivial⟩⟩) (fun e => ok_cartridgeref1_Inverse a1 _ hr23) ?_
    refine TL.p (C := cx) (gc := true) (p_mv rfl) rfl rfl ?_
    refine TL.p (C := cx) (gc := true) (p_ex rfl rfl (by decide)) rfl rfl ?_
    refine TL.p (C := cx) (gc := true) (p_ex rfl rfl (by decide)) rfl rfl ?_
    refine TL.p (C := cx) (gc := true) (p_mv rfl) rfl rfl ?_
    refine TL.p (C := cx) (gc := true) (p_mv rfl) rfl rfl ?_
    refine TL.nil ?_
    refine hK22 _ _ ?_
    refine TK.seq_k fun K24 hK24 => ?_
    refine TK.reg ?_
    refine TL.p (C := cx) (gc := true) (p_mv rfl) rfl rfl ?_
    obtain ⟨r25, hr25, hX⟩ := bind_some hX
    refine TL.cvX rfl rfl rfl (fun _ => ⟨rfl, ⟨rfl, trivial⟩⟩) (fun e => ok_matrix_Right a1 _ hr25) ?_
    refine TL.p (C := cx) (gc := true) (p_mv rfl) rfl rfl ?_
    obtain ⟨r26, hr26, hX⟩ := bind_some hX
    refine TL.cvX rfl rfl rfl (fun _ => ⟨rfl, ⟨rfl, trivial⟩⟩) (fun e => ok_cartridgeref1_RightMatrix a1 _ hr26) ?_
    refine TL.p (C := cx) (gc := true) (p_eqB kd4 rfl rfl) rfl rfl ?_
    refine TL.p (C := cx) (gc := true) (p_mv rfl) rfl rfl ?_
    refine TL.p (C := cx) (gc := ((r25 == r26))) (p_mv rfl (hg := fun e => rfl)) (gcT1 rfl) rfl ?_
    refine TL.p (C := cx) (gc := ((r25 == r26))) (p_mv rfl (hg := fun e => rfl)) (gcT1 rfl) rfl ?_
    obtain ⟨r27, hr27, hX⟩ := bind_some hX
    refine TL.cvX (gcT1 rfl) rfl rfl (fun e => ⟨rfl, ⟨e, ⟨e, trivial⟩⟩⟩) (fun e => ok_cartridgeref1_SameRows r13.1 r15.1 _ (optG_t hr27 e)) ?_
    refine TL.p (C := cx) (gc := true) (p_and rfl rfl (fun e => ⟨rfl, fun h => h⟩)) rfl rfl ?_
    refine TL.p (C := cx) (gc := true) (p_mv rfl) rfl rfl ?_
    refine TL.p (C := cx) (gc := (((r25 == r26) && r27))) (p_mv rfl (hg := fun e => rfl)) (gcT1 rfl) rfl ?_
    obtain ⟨r28, hr28, hX⟩ := bind_some hX
    refine TL.cvX (gcT1 rfl) rfl rfl (fun e => ⟨rfl, ⟨e, trivial⟩⟩) (fun e => ok_cartridgelaw2_num r13.2 _ (optG_t hr28 e)) ?_
    refine TL.p (C := cx) (gc := (((r25 == r26) && r27))) (p_mv rfl (hg := fun e => rfl)) (gcT1 rfl) rfl ?_
    refine TL.p (C := cx) (gc := (((r25 == r26) && r27))) (p_eql rfl rfl (hg := fun e => ⟨e, e⟩)) (gcT1 rfl) rfl ?_
    refine TL.p (C := cx) (gc := true) (p_and rfl rfl (fun e => ⟨rfl, fun h => h⟩)) rfl rfl ?_
    refine TL.p (C := cx) (gc := true) (p_mv rfl) rfl rfl ?_
    refine TL.p (C := cx) (gc := ((((r25 == r26) && r27) && (r28 == r15.2)))) (p_mv rfl (hg := fun e => rfl)) (gcT1 rfl) rfl ?_
    refine TL.ofV (gc := ((((r25 == r26) && r27) && (r28 == r15.2)))) (vok_cvtBS (C := cx) (gc := ((((r25 == r26) && r27) && (r28 == r15.2)))) (xs := r17.1) kd23 kd5 kd9 rfl (look_v (v := Enc.v (r17.1 : (List UInt8))) (v_val _)) (hg := fun e => e)) (gcT1 rfl) rfl ?_
    refine TL.p (C := cx) (gc := ((((r25 == r26) && r27) && (r28 == r15.2)))) (p_mv rfl (hg := fun e => rfl)) (gcT1 rfl) rfl ?_
    refine TL.ofV (gc := ((((r25 == r26) && r27) && (r28 == r15.2)))) (vok_cvtBS (C := cx) (gc := ((((r25 == r26) && r27) && (r28 == r15.2)))) (xs := r19.1) kd23 kd5 kd9 rfl (look_v (v := Enc.v (r19.1 : (List UInt8))) (v_val _)) (hg := fun e => e)) (gcT1 rfl) rfl ?_
    refine TL.p (C := cx) (gc := ((((r25 == r26) && r27) && (r28 == r15.2)))) (ps_eql (s := (Str.mk r17.1)) (r := (Str.mk r19.1)) rfl rfl (hg := fun e => ⟨e, e⟩)) (gcT1 rfl) rfl ?_
    refine TL.p (C := cx) (gc := true) (p_and rfl rfl (fun e => ⟨rfl, fun h => h⟩)) rfl rfl ?_
    refine TL.p (C := cx) (gc := true) (p_mv rfl) rfl rfl ?_
    refine TL.p (C := cx) (gc := (((((r25 == r26) && r27) && (r28 == r15.2)) && ((Str.mk r17.1).l == (Str.mk r19.1).l)))) (p_mv rfl (hg := fun e => rfl)) (gcT1 rfl) rfl ?_
    obtain ⟨r29, hr29, hX⟩ := bind_some hX
    refine TL.cvX (gcT1 rfl) rfl rfl (fun e => ⟨rfl, ⟨e, trivial⟩⟩) (fun e => ok_cartridgelaw2_num r17.2 _ (optG_t hr29 e)) ?_
    refine TL.p (C := cx) (gc := (((((r25 == r26) && r27) && (r28 == r15.2)) && ((Str.mk r17.1).l == (Str.mk r19.1).l)))) (p_mv rfl (hg := fun e => rfl)) (gcT1 rfl) rfl ?_
    refine TL.p (C := cx) (gc := (((((r25 == r26) && r27) && (r28 == r15.2)) && ((Str.mk r17.1).l == (Str.mk r19.1).l)))) (p_eql rfl rfl (hg := fun e => ⟨e, e⟩)) (gcT1 rfl) rfl ?_
    refine TL.p (C := cx) (gc := true) (p_and rfl rfl (fun e => ⟨rfl, fun h => h⟩)) rfl rfl ?_
    refine TL.p (C := cx) (gc := true) (p_mv rfl) rfl rfl ?_
    refine TL.p (C := cx) (gc := ((((((r25 == r26) && r27) && (r28 == r15.2)) && ((Str.mk r17.1).l == (Str.mk r19.1).l)) && (r29 == r19.2)))) (p_mv rfl (hg := fun e => rfl)) (gcT1 rfl) rfl ?_
    refine TL.p (C := cx) (gc := ((((((r25 == r26) && r27) && (r28 == r15.2)) && ((Str.mk r17.1).l == (Str.mk r19.1).l)) && (r29 == r19.2)))) (p_mv rfl (hg := fun e => rfl)) (gcT1 rfl) rfl ?_
    obtain ⟨r30, hr30, hX⟩ := bind_some hX
    refine TL.cvX (gcT1 rfl) rfl rfl (fun e => ⟨rfl, ⟨e, ⟨e, trivial⟩⟩⟩) (fun e => ok_cartridgeref1_SameRows r21.1 r23.1 _ (optG_t hr30 e)) ?_
    refine TL.p (C := cx) (gc := true) (p_and rfl rfl (fun e => ⟨rfl, fun h => h⟩)) rfl rfl ?_
    refine TL.p (C := cx) (gc := true) (p_mv rfl) rfl rfl ?_
    refine TL.p (C := cx) (gc := (((((((r25 == r26) && r27) && (r28 == r15.2)) && ((Str.mk r17.1).l == (Str.mk r19.1).l)) && (r29 == r19.2)) && r30))) (p_mv rfl (hg := fun e => rfl)) (gcT1 rfl) rfl ?_
    obtain ⟨r31, hr31, hX⟩ := bind_some hX
    refine TL.cvX (gcT1 rfl) rfl rfl (fun e => ⟨rfl, ⟨e, trivial⟩⟩) (fun e => ok_cartridgelaw2_num r21.2 _ (optG_t hr31 e)) ?_
    refine TL.p (C := cx) (gc := (((((((r25 == r26) && r27) && (r28 == r15.2)) && ((Str.mk r17.1).l == (Str.mk r19.1).l)) && (r29 == r19.2)) && r30))) (p_mv rfl (hg := fun e => rfl)) (gcT1 rfl) rfl ?_
    refine TL.p (C := cx) (gc := (((((((r25 == r26) && r27) && (r28 == r15.2)) && ((Str.mk r17.1).l == (Str.mk r19.1).l)) && (r29 == r19.2)) && r30))) (p_eql rfl rfl (hg := fun e => ⟨e, e⟩)) (gcT1 rfl) rfl ?_
    refine TL.p (C := cx) (gc := true) (p_and rfl rfl (fun e => ⟨rfl, fun h => h⟩)) rfl rfl ?_
    refine TL.p (C := cx) (gc := true) (p_mv rfl) rfl rfl ?_
    refine TL.nil ?_
    refine hK24 _ _ ?_
    refine TK.ret ?_
    try dsimp only [thenQ]
    exact ret1 (v := Enc.v ((((((((r25 == r26) && r27) && (r28 == r15.2)) && ((Str.mk r17.1).l == (Str.mk r19.1).l)) && (r29 == r19.2)) && r30) && (r31 == r23.2)) : Bool)) rfl (by obtain rfl := some_in hX; rfl) (v_val _)

end Go.Proofs.Ytgkbjnhpmlfgdaa
