import Derived.Test.YtgkbjnhpmlfgdaaXFn
import Derived.Test.YtgkbjnhpmlfgdaaXS
import Derived.Test.YtgkbjnhpmlfgdaaAmK0
import Derived.Test.YtgkbjnhpmlfgdaaAmK1
import Derived.Test.YtgkbjnhpmlfgdaaAmK2
import Derived.Test.YtgkbjnhpmlfgdaaXP2
/- That they do. -/
namespace Go.Proofs.Ytgkbjnhpmlfgdaa
open Go.AM Go.AX
set_option linter.unusedVariables false
set_option maxRecDepth 20000

/-- cartridge/cartridgelaw2.at -/
theorem ok_cartridgelaw2_at (l1 : (List Int)) (i2 : Int) (n3 : Int) (r : Int) (hX : X.cartridgelaw2_at l1 i2 n3 = some r) : Fun Try.prog 39 [Enc.v (l1 : (List Int)), Enc.v (i2 : Int), Enc.v (n3 : Int)] (· = Enc.v (r : Int)) := by
  refine Fun.of b39 (Nat.le_of_ble_eq_true rfl) (allVal.mem ⟨(by exact (v_val _)), (by exact (v_val _)), (by exact (v_val _)), trivial⟩) ?_
  unfold k39
  have nd : Nd [] := Nd_nil
  unfold X.cartridgelaw2_at at hX
  refine TK.seq_k fun K4 hK4 => ?_
  refine TK.reg ?_
  refine TL.p (C := cx) (gc := true) (p_mv rfl) rfl rfl ?_
  refine TL.nil ?_
  refine hK4 _ _ ?_
  refine TK.seq_k fun K5 hK5 => ?_
  refine TK.reg ?_
  refine TL.p (C := cx) (gc := true) (p_mv rfl) rfl rfl ?_
  obtain ⟨u6, hu6, hX⟩ := bind_some hX
  refine TL.mkO (C := cx) nd false kd101 ty4 rfl (fun j hj => by (have : j = 0 := by simpa [Enc.sz] using hj); subst this; rfl) rfl rfl (by decide) (need_t hu6) rfl fun b7 nd => ?_
  refine TL.p (C := cx) (gc := true) (p_mv rfl) rfl rfl ?_
  refine TL.nil ?_
  refine hK5 _ _ ?_
  refine TK.seq_k fun K8 hK8 => ?_
  refine TK.reg ?_
  refine TL.p (C := cx) (gc := true) (p_mv rfl) rfl rfl ?_
  refine TL.nil ?_
  refine hK8 _ _ ?_
  refine TK.seq_k fun K9 hK9 => ?_
  refine TK.seq_k fun K10 hK10 => ?_
  refine TK.reg ?_
  refine TL.p (C := cx) (gc := true) (p_mv rfl) rfl rfl ?_
  refine TL.nil ?_
  refine hK10 _ _ ?_
  refine TK.block ?_
  obtain ⟨o11, hO11, hA11⟩ := bind_some hX
  have E11 : ∀ (k16 : Int) (env : Env) (h : Hp), (∃ _u : Unit, keepE [8] env = [(8, true, Enc.v (k16 : Int))] ∧ Nd [] ∧ HSub [] h) → X.cartridgelaw2_at_e11 k16 = some r → K9 env h := by
    intro k16 env h hE hX
    obtain ⟨_u, henv, nd, hs⟩ := hE
    unfold X.cartridgelaw2_at_e11 at hX
    refine hK9 _ _ (TK.keep [8] ?_)
    rw [henv]
    refine TK.subH hs ?_
    refine TK.seq_k fun K17 hK17 => ?_
    refine TK.reg ?_
    refine TL.p (C := cx) (gc := true) (p_mv rfl) rfl rfl ?_
    refine TL.p (C := cx) (gc := true) (p_mv rfl) rfl rfl ?_
    refine TL.nil ?_
    refine hK17 _ _ ?_
    refine TK.ret ?_
    try dsimp only [thenQ]
    exact ret1 (v := Enc.v (k16 : Int)) rfl (by obtain rfl := some_in hX; rfl) (v_val _)
  refine TK.iter [0, 1, 2, 7, 8, 9] (fun s env h => match s with | (had13, k14, j15) => ∃ b12, env = [(0, true, Enc.v (l1 : (List Int))), (1, true, Enc.v (i2 : Int)), (2, true, Enc.v (n3 : Int)), (7, true, OL (α := Bool) b12 had13), (8, true, Enc.v (k14 : Int)), (9, true, Enc.v (j15 : Int))] ∧ Nd [(b12, RL (α := Bool) 4 had13)] ∧ HSub [(b12, RL (α := Bool) 4 had13)] h) hO11 ⟨b7, rfl, (Nd.pick nd (is := [0]) (by decide)), (HSub.pick nd (is := [0]) (by decide))⟩ ?_
  rintro ⟨had13, k14, j15⟩ env h x11x ⟨b12, rfl, nd, hs⟩ hX hR11
  refine TK.subH hs ?_
  unfold X.cartridgelaw2_at_s11 at hX
  try dsimp only at hX
  refine TK.seq_k fun K18 hK18 => ?_
  refine TK.seq_k fun K19 hK19 => ?_
  refine TK.reg ?_
  refine TL.p (C := cx) (gc := true) (p_mv rfl) rfl rfl ?_
  refine TL.p (C := cx) (gc := true) (p_mv rfl) rfl rfl ?_
  refine TL.p (C := cx) (gc := true) (p_leq rfl rfl) rfl rfl ?_
  refine TL.nil ?_
  refine hK19 _ _ ?_
  refine TK.cond (b := (decide (j15 ≤ i2))) rfl (fun hc => ?_) (fun hc => ?_)
  · have hX := ite_t hc hX
    refine TK.skip ?_
    refine hK18 _ _ ?_
    refine TK.seq_k fun K20 hK20 => ?_
    refine TK.block ?_
    refine TK.seq_k fun K21 hK21 => ?_
    refine TK.reg ?_
    refine TL.p (C := cx) (gc := true) (p_mv rfl) rfl rfl ?_
    refine TL.p (C := cx) (gc := true) (p_mv rfl) rfl rfl ?_
    obtain ⟨e22, he22, hX⟩ := bind_some hX
    refine TL.p (C := cx) (gc := true) (p_iaL (xs := l1) kd46 ty3 rfl rfl rfl (fun _ => he22)) rfl rfl ?_
    refine TL.p (C := cx) (gc := true) (p_ldE (xs := l1) (a := e22) (e22 : Int) ty3 rfl rfl (fun _ => he22) rfl rfl rfl) rfl rfl ?_
    refine TL.p (C := cx) (gc := true) (p_and64 rfl rfl) rfl rfl ?_
    refine TL.p (C := cx) (gc := true) (p_mv rfl) rfl rfl ?_
    obtain ⟨u23, hu23, hX⟩ := bind_some hX
    refine TL.p (C := cx) (gc := true) (p_rem rfl rfl (fun _ => need_t hu23)) rfl rfl ?_
    refine TL.p (C := cx) (gc := true) (p_mv rfl) rfl rfl ?_
    refine TL.nil ?_
    refine hK21 _ _ ?_
    refine TK.seq_k fun K24 hK24 => ?_
    refine TK.block ?_
    obtain ⟨o25, hO25, hA25⟩ := bind_some hX
    have E25 : ∀ (k29 : Int) (env : Env) (h : Hp), (∃ b28, keepE [0, 1, 2, 7, 8, 9] env = [(0, true, Enc.v (l1 : (List Int))), (1, true, Enc.v (i2 : Int)), (2, true, Enc.v (n3 : Int)), (7, true, OL (α := Bool) b28 had13), (8, true, Enc.v (k29 : Int)), (9, true, Enc.v (j15 : Int))] ∧ Nd [(b28, RL (α := Bool) 4 had13)] ∧ HSub [(b28, RL (α := Bool) 4 had13)] h) → X.cartridgelaw2_at_e25 had13 j15 k29 = some x11x → K24 env h := by
      intro k29 env h hE hX
      obtain ⟨b28, henv, nd, hs⟩ := hE
      unfold X.cartridgelaw2_at_e25 at hX
      refine hK24 _ _ (TK.keep [0, 1, 2, 7, 8, 9] ?_)
      rw [henv]
      refine TK.subH hs ?_
      refine TK.reg ?_
      refine TL.p (C := cx) (gc := true) (p_mv rfl) rfl rfl ?_
      refine TL.p (C := cx) (gc := true) (p_mv rfl) rfl rfl ?_
      obtain ⟨e30, he30, hX⟩ := bind_some hX
      refine TL.p (C := cx) (gc := true) (p_iaO (xs := had13) kd101 ty4 rfl rfl rfl nd (j := 0) rfl (fun _ => he30)) rfl rfl ?_
      refine TL.stW (C := cx) (xs := had13) (i := k29) (lu := Enc.cl (true : Bool)) (a' := true) nd ty4 rfl (j := 0) rfl (by simp [Enc.sz]) (inb_of he30 (by simp)) rfl (Cells_v (true : Bool)) rfl (WkL_refl _) fun nd => ?_
      refine TL.cv 7 (OL b28 (had13.set k29.toNat true)) rfl (Wk_eq (OL_len (by simp))) ?_
      refine TL.nil ?_
      refine hK20 _ _ ?_
      refine TK.reg ?_
      refine TL.p (C := cx) (gc := true) (p_mv rfl) rfl rfl ?_
      refine TL.p (C := cx) (gc := true) (p_add rfl rfl) rfl rfl ?_
      refine TL.p (C := cx) (gc := true) (p_mv rfl) rfl rfl ?_
      refine TL.nil ?_
      exact ⟨_, (some_in hX).symm, b28, rfl, (Nd.pick nd (is := [0]) (by decide)), (HSub.pick nd (is := [0]) (by decide))⟩
    refine TK.iter [0, 1, 2, 7, 8, 9] (fun s env h => match s with | k27 => ∃ b26, env = [(0, true, Enc.v (l1 : (List Int))), (1, true, Enc.v (i2 : Int)), (2, true, Enc.v (n3 : Int)), (7, true, OL (α := Bool) b26 had13), (8, true, Enc.v (k27 : Int)), (9, true, Enc.v (j15 : Int))] ∧ Nd [(b26, RL (α := Bool) 4 had13)] ∧ HSub [(b26, RL (α := Bool) 4 had13)] h) hO25 ⟨b12, rfl, (Nd.pick nd (is := [0]) (by decide)), (HSub.pick nd (is := [0]) (by decide))⟩ ?_
    rintro k27 env h x25x ⟨b26, rfl, nd, hs⟩ hX hR25
    refine TK.subH hs ?_
    unfold X.cartridgelaw2_at_s25 at hX
    try dsimp only at hX
    refine TK.seq_k fun K31 hK31 => ?_
    refine TK.seq_k fun K32 hK32 => ?_
    refine TK.reg ?_
    refine TL.p (C := cx) (gc := true) (p_mv rfl) rfl rfl ?_
    refine TL.p (C := cx) (gc := true) (p_mv rfl) rfl rfl ?_
    obtain ⟨e33, he33, hX⟩ := bind_some hX
    refine TL.p (C := cx) (gc := true) (p_iaO (xs := had13) kd101 ty4 rfl rfl rfl nd (j := 0) rfl (fun _ => he33)) rfl rfl ?_
    refine TL.p (C := cx) (gc := true) (p_ldO (xs := had13) (a := e33) (e33 : Bool) ty4 rfl rfl nd (j := 0) rfl (fun _ => he33) rfl rfl rfl) rfl rfl ?_
    refine TL.nil ?_
    refine hK32 _ _ ?_
    refine TK.cond (b := e33) rfl (fun hc => ?_) (fun hc => ?_)
    · have hX := ite_t hc hX
      refine TK.skip ?_
      refine hK31 _ _ ?_
      refine TK.block ?_
      refine TK.reg ?_
      refine TL.p (C := cx) (gc := true) (p_mv rfl) rfl rfl ?_
      refine TL.p (C := cx) (gc := true) (p_add rfl rfl) rfl rfl ?_
      refine TL.p (C := cx) (gc := true) (p_mv rfl) rfl rfl ?_
      obtain ⟨u34, hu34, hX⟩ := bind_some hX
      refine TL.p (C := cx) (gc := true) (p_rem rfl rfl (fun _ => need_t hu34)) rfl rfl ?_
      refine TL.p (C := cx) (gc := true) (p_mv rfl) rfl rfl ?_
      refine TL.nil ?_
      exact ⟨_, (some_in hX).symm, b26, rfl, (Nd.pick nd (is := [0]) (by decide)), (HSub.pick nd (is := [0]) (by decide))⟩
    · have hX := ite_f hc hX
      refine TK.exit ?_
      obtain rfl := hR25 _ (some_in hX).symm
      exact E25 k27 _ _ ⟨b26, rfl, (Nd.pick nd (is := [0]) (by decide)), (HSub.pick nd (is := [0]) (by decide))⟩ hA25
  · have hX := ite_f hc hX
    refine TK.exit ?_
    obtain rfl := hR11 _ (some_in hX).symm
    exact E11 k14 _ _ ⟨(), rfl, (Nd.pick nd (is := []) (by decide)), (HSub.pick nd (is := []) (by decide))⟩ hA11

/-- cartridge/matrix.turned -/
theorem ok_matrix_turned (m1 : (List (List UInt8))) (r : (List (List UInt8))) (hX : X.matrix_turned m1 = some r) : Fun Try.prog 71 [Enc.v (m1 : (List (List UInt8)))] (· = Enc.v (r : (List (List UInt8)))) := by
  refine Fun.of b71 (Nat.le_of_ble_eq_true rfl) (allVal.mem ⟨(by exact (v_val _)), trivial⟩) ?_
  unfold k71
  have nd : Nd [] := Nd_nil
  unfold X.matrix_turned at hX
  refine TK.seq_k fun K2 hK2 => ?_
  refine TK.reg ?_
  refine TL.p (C := cx) (gc := true) (p_mv rfl) rfl rfl ?_
  refine TL.nil ?_
  refine hK2 _ _ ?_
  refine TK.seq_k fun K3 hK3 => ?_
  refine TK.reg ?_
  refine TL.p (C := cx) (gc := true) (p_mv rfl) rfl rfl ?_
  obtain ⟨e4, he4, hX⟩ := bind_some hX
  refine TL.p (C := cx) (gc := true) (p_iaL (xs := m1) kd22 ty23 rfl rfl rfl (fun _ => he4)) rfl rfl ?_
  refine TL.p (C := cx) (gc := true) (p_ldE (xs := m1) (a := e4) (e4 : (List UInt8)) ty23 rfl rfl (fun _ => he4) rfl rfl rfl) rfl rfl ?_
  refine TL.p (C := cx) (gc := true) (p_lenL (xs := e4) kd23 rfl) rfl rfl ?_
  obtain ⟨u5, hu5, hX⟩ := bind_some hX
  refine TL.mkG (C := cx) (α := UInt8) (e' := 5) nd kd22 ty23 rfl rfl rfl rfl (by decide) (need_t hu5) rfl fun b6 T6 cs6 hG6 nd => ?_
  refine TL.p (C := cx) (gc := true) (p_mv rfl) rfl rfl ?_
  refine TL.nil ?_
  refine hK3 _ _ ?_
  refine TK.seq_k fun K7 hK7 => ?_
  refine TK.seq_k fun K8 hK8 => ?_
  refine TK.reg ?_
  refine TL.p (C := cx) (gc := true) (p_mv rfl) rfl rfl ?_
  refine TL.p (C := cx) (gc := true) (p_lenL (xs := m1) kd22 rfl) rfl rfl ?_
  refine TL.p (C := cx) (gc := true) (p_mv rfl) rfl rfl ?_
  refine TL.nil ?_
  refine hK8 _ _ ?_
  refine TK.block ?_
  obtain ⟨o9, hO9, hA9⟩ := bind_some hX
  have E9 : ∀ (l14 : List (List UInt8)) (env : Env) (h : Hp), (∃ b13 T13 cs13, keepE [3] env = [(3, true, OL (α := (List UInt8)) b13 l14)] ∧ Nd ((b13, RV 23 cs13) :: T13) ∧ HSub ((b13, RV 23 cs13) :: T13) h ∧ Grid (α := UInt8) 5 T13 cs13 l14) → X.matrix_turned_e9 l14 = some r → K7 env h := by
    intro l14 env h hE hX
    obtain ⟨b13, T13, cs13, henv, nd, hs, hG13⟩ := hE
    unfold X.matrix_turned_e9 at hX
    refine hK7 _ _ (TK.keep [3] ?_)
    rw [henv]
    refine TK.subH hs ?_
    refine TK.seq_k fun K15 hK15 => ?_
    refine TK.reg ?_
    refine TL.p (C := cx) (gc := true) (p_mv rfl) rfl rfl ?_
    refine TL.p (C := cx) (gc := true) (p_mv rfl) rfl rfl ?_
    refine TL.nil ?_
    refine hK15 _ _ ?_
    refine TK.layG (α := UInt8) [(b13, RV 23 cs13)] T13 nd (j := 0) rfl hG13 fun nd => ?_
    refine TK.lay [(2, L l14)] nd (j := 0) rfl ⟨⟨_, rfl, fix_OL nd (j := 0) rfl, rfl⟩, trivial⟩ fun nd => ?_
    refine TK.ret ?_
    try dsimp only [thenQ]
    exact ret1 (v := Enc.v (l14 : (List (List UInt8)))) rfl (by obtain rfl := some_in hX; rfl) (v_val _)
  refine TK.iter [3, 13, 14, 15] (fun s env h => match s with | (out11, x12) => ∃ b10 T10 cs10, env = [(3, true, OL (α := (List UInt8)) b10 out11), (13, true, Enc.v (m1 : (List (List UInt8)))), (14, true, Enc.v ((m1.length : Int) : Int)), (15, true, Enc.v (x12 : Int))] ∧ Nd ((b10, RV 23 cs10) :: T10) ∧ HSub ((b10, RV 23 cs10) :: T10) h ∧ Grid (α := UInt8) 5 T10 cs10 out11) hO9 ⟨b6, T6, cs6, rfl, (Nd.pickT nd 1 (is := [0]) (by decide) (by decide) (len_geF [_] _)), (HSub.pickT nd 1 (is := [0]) (by decide) (by decide) (len_geF [_] _)), hG6⟩ ?_
  rintro ⟨out11, x12⟩ env h x9x ⟨b10, T10, cs10, rfl, nd, hs, hG10⟩ hX hR9
  refine TK.subH hs ?_
  unfold X.matrix_turned_s9 at hX
  try dsimp only at hX
  refine TK.seq_k fun K16 hK16 => ?_
  refine TK.reg ?_
  refine TL.p (C := cx) (gc := true) (p_lss rfl rfl) rfl rfl ?_
  refine TL.nil ?_
  refine hK16 _ _ ?_
  refine TK.seq_k fun K17 hK17 => ?_
  refine TK.cond (b := (decide (x12 < (m1.length : Int)))) rfl (fun hc => ?_) (fun hc => ?_)
  · have hX := ite_t hc hX
    refine TK.skip ?_
    refine hK17 _ _ ?_
    refine TK.seq_k fun K18 hK18 => ?_
    refine TK.block ?_
    refine TK.seq_k fun K19 hK19 => ?_
    refine TK.reg ?_
    obtain ⟨e20, he20, hX⟩ := bind_some hX
    refine TL.p (C := cx) (gc := true) (p_iaL (xs := m1) kd22 ty23 rfl rfl rfl (fun _ => he20)) rfl rfl ?_
    refine TL.p (C := cx) (gc := true) (p_ldE (xs := m1) (a := e20) (e20 : (List UInt8)) ty23 rfl rfl (fun _ => he20) rfl rfl rfl) rfl rfl ?_
    refine TL.p (C := cx) (gc := true) (p_mv rfl) rfl rfl ?_
    refine TL.nil ?_
    refine hK19 _ _ ?_
    refine TK.seq_k fun K21 hK21 => ?_
    refine TK.reg ?_
    refine TL.p (C := cx) (gc := true) (p_mv rfl) rfl rfl ?_
    refine TL.p (C := cx) (gc := true) (p_lenL (xs := e20) kd23 rfl) rfl rfl ?_
    refine TL.p (C := cx) (gc := true) (p_mv rfl) rfl rfl ?_
    refine TL.nil ?_
    refine hK21 _ _ ?_
    refine TK.block ?_
    obtain ⟨o22, hO22, hA22⟩ := bind_some hX
    have E22 : ∀ (l27 : List (List UInt8)) (env : Env) (h : Hp), (∃ b26 T26 cs26, keepE [3, 13, 14, 15] env = [(3, true, OL (α := (List UInt8)) b26 l27), (13, true, Enc.v (m1 : (List (List UInt8)))), (14, true, Enc.v ((m1.length : Int) : Int)), (15, true, Enc.v (x12 : Int))] ∧ Nd ((b26, RV 23 cs26) :: T26) ∧ HSub ((b26, RV 23 cs26) :: T26) h ∧ Grid (α := UInt8) 5 T26 cs26 l27) → X.matrix_turned_e22 x12 l27 = some x9x → K18 env h := by
      intro l27 env h hE hX
      obtain ⟨b26, T26, cs26, henv, nd, hs, hG26⟩ := hE
      unfold X.matrix_turned_e22 at hX
      refine hK18 _ _ (TK.keep [3, 13, 14, 15] ?_)
      rw [henv]
      refine TK.subH hs ?_
      refine TK.reg ?_
      refine TL.p (C := cx) (gc := true) (p_add rfl rfl) rfl rfl ?_
      refine TL.p (C := cx) (gc := true) (p_mv rfl) rfl rfl ?_
      refine TL.nil ?_
      exact ⟨_, (some_in hX).symm, b26, T26, cs26, rfl, (Nd.pickT nd 1 (is := [0]) (by decide) (by decide) (len_geF [_] _)), (HSub.pickT nd 1 (is := [0]) (by decide) (by decide) (len_geF [_] _)), hG26⟩
    refine TK.iter [3, 13, 14, 15, 19, 20, 21] (fun s env h => match s with | (out24, x25) => ∃ b23 T23 cs23, env = [(3, true, OL (α := (List UInt8)) b23 out24), (13, true, Enc.v (m1 : (List (List UInt8)))), (14, true, Enc.v ((m1.length : Int) : Int)), (15, true, Enc.v (x12 : Int)), (19, true, Enc.v (e20 : (List UInt8))), (20, true, Enc.v ((e20.length : Int) : Int)), (21, true, Enc.v (x25 : Int))] ∧ Nd ((b23, RV 23 cs23) :: T23) ∧ HSub ((b23, RV 23 cs23) :: T23) h ∧ Grid (α := UInt8) 5 T23 cs23 out24) hO22 ⟨b10, T10, cs10, rfl, (Nd.pickT nd 1 (is := [0]) (by decide) (by decide) (len_geF [_] _)), (HSub.pickT nd 1 (is := [0]) (by decide) (by decide) (len_geF [_] _)), hG10⟩ ?_
    rintro ⟨out24, x25⟩ env h x22x ⟨b23, T23, cs23, rfl, nd, hs, hG23⟩ hX hR22
    refine TK.subH hs ?_
    unfold X.matrix_turned_s22 at hX
    try dsimp only at hX
    refine TK.seq_k fun K28 hK28 => ?_
    refine TK.reg ?_
    refine TL.p (C := cx) (gc := true) (p_lss rfl rfl) rfl rfl ?_
    refine TL.nil ?_
    refine hK28 _ _ ?_
    refine TK.seq_k fun K29 hK29 => ?_
    refine TK.cond (b := (decide (x25 < (e20.length : Int)))) rfl (fun hc => ?_) (fun hc => ?_)
    · have hX := ite_t hc hX
      refine TK.skip ?_
      refine hK29 _ _ ?_
      refine TK.seq_k fun K30 hK30 => ?_
      refine TK.block ?_
      refine TK.seq_k fun K31 hK31 => ?_
      refine TK.reg ?_
      refine TL.p (C := cx) (gc := true) (p_mv rfl) rfl rfl ?_
      obtain ⟨e32, he32, hX⟩ := bind_some hX
      refine TL.p (C := cx) (gc := true) (p_iaL (xs := e20) kd23 ty5 rfl rfl rfl (fun _ => he32)) rfl rfl ?_
      refine TL.p (C := cx) (gc := true) (p_ldE (xs := e20) (a := e32) (e32 : UInt8) ty5 rfl rfl (fun _ => he32) rfl rfl rfl) rfl rfl ?_
      refine TL.p (C := cx) (gc := true) (p_mv rfl) rfl rfl ?_
      refine TL.p (C := cx) (gc := true) (p_mv rfl) rfl rfl ?_
      refine TL.nil ?_
      refine hK31 _ _ ?_
      refine TK.reg ?_
      refine TL.p (C := cx) (gc := true) (p_mv rfl) rfl rfl ?_
      refine TL.p (C := cx) (gc := true) (p_mv rfl) rfl rfl ?_
      refine TL.p (C := cx) (gc := true) (p_mv rfl) rfl rfl ?_
      refine TL.p (C := cx) (gc := true) (p_mv rfl) rfl rfl ?_
      obtain ⟨e33, he33, hX⟩ := bind_some hX
      refine TL.p (C := cx) (gc := true) (p_iaG hG23 kd22 ty23 rfl rfl rfl nd (j := 0) rfl (fun _ => he33)) rfl rfl ?_
      obtain ⟨nm34, hT34, hc34⟩ := gridAt (i := x25) hG23 he33
      refine TL.p (C := cx) (gc := true) (p_ldG ty23 rfl rfl nd (j := 0) rfl hc34 rfl rfl) rfl rfl ?_
      refine TL.p (C := cx) (gc := true) (p_mv rfl) rfl rfl ?_
      refine TL.lit (C := cx) ([e32] : List UInt8) kd23 ty5 rfl ⟨⟨rfl, rfl⟩, trivial⟩ rfl rfl rfl ?_
      obtain ⟨u35, hu35, hX⟩ := bind_some hX
      refine TL.appG (C := cx) (F := [(b23, RV 23 cs23)]) (T := T23) (k := (x25 : Int).toNat) nd kd23 bo23 ty5 rfl rfl hT34 rfl (Src_L _) (by decide) (need_t hu35) rfl fun nd => ?_
      obtain ⟨e36, he36, hX⟩ := bind_some hX
      refine TL.p (C := cx) (gc := true) (p_iaG hG23 kd22 ty23 rfl rfl rfl nd (j := 0) rfl (fun _ => he36)) rfl rfl ?_
      refine TL.stG (C := cx) (F := [(b23, RV 23 cs23)]) (T := (T23.set (x25 : Int).toNat (nm34, RL (α := UInt8) 5 (e33 ++ ([e32] : List UInt8))))) (i := x25) nd ty23 rfl (j := 0) rfl hc34 rfl (setAt hT34) rfl fun nd => ?_
      refine TL.cv 3 (OL b23 (out24.set x25.toNat (e33 ++ ([e32] : List UInt8)))) rfl (Wk_eq (OL_len (by simp))) ?_
      refine TL.nil ?_
      refine hK30 _ _ ?_
      refine TK.reg ?_
      refine TL.p (C := cx) (gc := true) (p_add rfl rfl) rfl rfl ?_
      refine TL.p (C := cx) (gc := true) (p_mv rfl) rfl rfl ?_
      refine TL.nil ?_
      exact ⟨_, (some_in hX).symm, b23, (T23.set (x25 : Int).toNat (nm34, RL (α := UInt8) 5 (e33 ++ ([e32] : List UInt8)))), (cs23.set (x25 : Int).toNat (OL (α := UInt8) nm34 (e33 ++ ([e32] : List UInt8)))), rfl, (Nd.pickT nd 1 (is := [0]) (by decide) (by decide) (len_geF [_] _)), (HSub.pickT nd 1 (is := [0]) (by decide) (by decide) (len_geF [_] _)), (Grid.set hG23 hT34)⟩
    · have hX := ite_f hc hX
      refine TK.exit ?_
      obtain rfl := hR22 _ (some_in hX).symm
      exact E22 out24 _ _ ⟨b23, T23, cs23, rfl, (Nd.pickT nd 1 (is := [0]) (by decide) (by decide) (len_geF [_] _)), (HSub.pickT nd 1 (is := [0]) (by decide) (by decide) (len_geF [_] _)), hG23⟩ hA22
  · have hX := ite_f hc hX
    refine TK.exit ?_
    obtain rfl := hR9 _ (some_in hX).symm
    exact E9 out11 _ _ ⟨b10, T10, cs10, rfl, (Nd.pickT nd 1 (is := [0]) (by decide) (by decide) (len_geF [_] _)), (HSub.pickT nd 1 (is := [0]) (by decide) (by decide) (len_geF [_] _)), hG10⟩ hA9

/-- cartridge/matrix.Mul -/
theorem ok_matrix_Mul (a1 : (List (List UInt8))) (b2 : (List (List UInt8))) (r : ((List (List UInt8)) × Int)) (hX : X.matrix_Mul a1 b2 = some r) : Fun Try.prog 32 [Enc.v (a1 : (List (List UInt8))), Enc.v (b2 : (List (List UInt8)))] (· = .tup 2 (ofL [Enc.v r.1, Enc.v r.2])) := by
  refine Fun.of b32 (Nat.le_of_ble_eq_true rfl) (allVal.mem ⟨(by exact (v_val _)), (by exact (v_val _)), trivial⟩) ?_
  unfold k32
  have nd : Nd [] := Nd_nil
  unfold X.matrix_Mul at hX
  refine TK.seq_k fun K3 hK3 => ?_
  refine TK.reg ?_
  refine TL.p (C := cx) (gc := true) (p_mv rfl) rfl rfl ?_
  refine TL.p (C := cx) (gc := true) (p_mv rfl) rfl rfl ?_
  refine TL.nil ?_
  refine hK3 _ _ ?_
  refine TK.seq_k fun K4 hK4 => ?_
  refine TK.seq_k fun K5 hK5 => ?_
  refine TK.reg ?_
  refine TL.p (C := cx) (gc := true) (p_mv rfl) rfl rfl ?_
  obtain ⟨r6, hr6, hX⟩ := bind_some hX
  refine TL.cvX rfl rfl rfl (fun _ => ⟨rfl, ⟨rfl, trivial⟩⟩) (fun e => ok_matrix_Right a1 _ hr6) ?_
  refine TL.p (C := cx) (gc := true) (p_not rfl) rfl rfl ?_
  refine TL.p (C := cx) (gc := true) (p_mv rfl) rfl rfl ?_
  refine TL.p (C := cx) (gc := (!((!r6)))) (p_mv rfl (hg := fun e => rfl)) (gcF1 rfl) rfl ?_
  obtain ⟨r7, hr7, hX⟩ := bind_some hX
  refine TL.cvX (gcF1 rfl) rfl rfl (fun e => ⟨rfl, ⟨e, trivial⟩⟩) (fun e => ok_matrix_Right b2 _ (optG_t hr7 e)) ?_
  refine TL.p (C := cx) (gc := (!((!r6)))) (p_not rfl (hg := fun e => e)) (gcF1 rfl) rfl ?_
  refine TL.p (C := cx) (gc := true) (p_or rfl rfl (fun e => ⟨rfl, fun h => (not_t h)⟩)) rfl rfl ?_
  refine TL.p (C := cx) (gc := true) (p_mv rfl) rfl rfl ?_
  refine TL.p (C := cx) (gc := (!(((!r6) || (!r7))))) (p_mv rfl (hg := fun e => rfl)) (gcF1 rfl) rfl ?_
  obtain ⟨e8, he8, hX⟩ := bind_some hX
  refine TL.p (C := cx) (gc := (!(((!r6) || (!r7))))) (p_iaL (xs := a1) kd22 ty23 rfl rfl rfl (fun e => optG_t he8 e) (hg := fun e => ⟨e, rfl⟩)) (gcF1 rfl) rfl ?_
  refine TL.p (C := cx) (gc := (!(((!r6) || (!r7))))) (p_ldE (xs := a1) (a := e8) (e8 : (List UInt8)) ty23 rfl rfl (fun e => optG_t he8 e) rfl rfl rfl (hg := fun e => e)) (gcF1 rfl) rfl ?_
  refine TL.p (C := cx) (gc := (!(((!r6) || (!r7))))) (p_lenL (xs := e8) kd23 rfl (hg := fun e => e)) (gcF1 rfl) rfl ?_
  refine TL.p (C := cx) (gc := (!(((!r6) || (!r7))))) (p_mv rfl (hg := fun e => rfl)) (gcF1 rfl) rfl ?_
  refine TL.p (C := cx) (gc := (!(((!r6) || (!r7))))) (p_lenL (xs := b2) kd22 rfl (hg := fun e => e)) (gcF1 rfl) rfl ?_
  refine TL.p (C := cx) (gc := (!(((!r6) || (!r7))))) (p_neq rfl rfl (hg := fun e => ⟨e, e⟩)) (gcF1 rfl) rfl ?_
  refine TL.p (C := cx) (gc := true) (p_or rfl rfl (fun e => ⟨rfl, fun h => (not_t h)⟩)) rfl rfl ?_
  refine TL.nil ?_
  refine hK5 _ _ ?_
  refine TK.cond (b := (((!r6) || (!r7)) || ((e8.length : Int) != (b2.length : Int)))) rfl (fun hc => ?_) (fun hc => ?_)
  · have hX := ite_t hc hX
    refine TK.seq_k fun K9 hK9 => ?_
    refine TK.reg ?_
    refine TL.p (C := cx) (gc := true) (p_mv rfl) rfl rfl ?_
    refine TL.p (C := cx) (gc := true) (p_mv rfl) rfl rfl ?_
    refine TL.nil ?_
    refine hK9 _ _ ?_
    refine TK.wk 4 (L ([] : (List (List UInt8)))) rfl Wk_nil ?_
    refine TK.ret ?_
    try dsimp only [thenQ]
    exact retN (vs := [Enc.v (([] : (List (List UInt8))) : (List (List UInt8))), Enc.v ((1 : Int) : Int)]) ⟨rfl, rfl, trivial⟩ (by obtain rfl := some_in hX; rfl) (allVal.mem ⟨v_val _, v_val _, trivial⟩)
  · have hX := ite_f hc hX
    refine TK.skip ?_
    refine hK4 _ _ ?_
    refine TK.seq_k fun K10 hK10 => ?_
    refine TK.reg ?_
    refine TL.p (C := cx) (gc := true) (p_mv rfl) rfl rfl ?_
    refine TL.nil ?_
    refine hK10 _ _ ?_
    refine TK.ownL (α := (List UInt8)) 6 23 nd rfl (.inl rfl) fun b11 nd => ?_
    refine TK.seq_k fun K12 hK12 => ?_
    refine TK.seq_k fun K13 hK13 => ?_
    refine TK.reg ?_
    refine TL.p (C := cx) (gc := true) (p_mv rfl) rfl rfl ?_
    obtain ⟨r14, hr14, hX⟩ := bind_some hX
    refine TL.cvX rfl rfl rfl (fun _ => ⟨rfl, ⟨rfl, trivial⟩⟩) (fun e => ok_matrix_turned b2 _ hr14) ?_
    refine TL.p (C := cx) (gc := true) (p_lenL (xs := r14) kd22 rfl) rfl rfl ?_
    refine TL.p (C := cx) (gc := true) (p_mv rfl) rfl rfl ?_
    refine TL.nil ?_
    refine hK13 _ _ ?_
    refine TK.block ?_
    obtain ⟨o15, hO15, hA15⟩ := bind_some hX
    have E15 : ∀ (l20 : List (List UInt8)) (env : Env) (h : Hp), (∃ b19, keepE [6] env = [(6, true, OL (α := (List UInt8)) b19 l20)] ∧ Nd [(b19, RL (α := (List UInt8)) 23 l20)] ∧ HSub [(b19, RL (α := (List UInt8)) 23 l20)] h) → X.matrix_Mul_e15 l20 = some r → K12 env h := by
      intro l20 env h hE hX
      obtain ⟨b19, henv, nd, hs⟩ := hE
      unfold X.matrix_Mul_e15 at hX
      refine hK12 _ _ (TK.keep [6] ?_)
      rw [henv]
      refine TK.subH hs ?_
      refine TK.seq_k fun K21 hK21 => ?_
      refine TK.reg ?_
      refine TL.p (C := cx) (gc := true) (p_mv rfl) rfl rfl ?_
      refine TL.lay [(40, L l20)] nd (j := 0) rfl ⟨⟨_, rfl, fix_OL nd (j := 0) rfl, rfl⟩, trivial⟩ fun nd => ?_
      obtain ⟨r22, hr22, hX⟩ := bind_some hX
      refine TL.cvX rfl rfl rfl (fun _ => ⟨rfl, ⟨rfl, trivial⟩⟩) (fun e => ok_matrix_turned l20 _ hr22) ?_
      refine TL.p (C := cx) (gc := true) (p_mv rfl) rfl rfl ?_
      refine TL.p (C := cx) (gc := true) (p_mv rfl) rfl rfl ?_
      refine TL.nil ?_
      refine hK21 _ _ ?_
      refine TK.ret ?_
      try dsimp only [thenQ]
      exact retN (vs := [Enc.v (r22 : (List (List UInt8))), Enc.v ((0 : Int) : Int)]) ⟨rfl, rfl, trivial⟩ (by obtain rfl := some_in hX; rfl) (allVal.mem ⟨v_val _, v_val _, trivial⟩)
    refine TK.iter [0, 6, 27, 28, 29] (fun s env h => match s with | (columns17, x18) => ∃ b16, env = [(0, true, Enc.v (a1 : (List (List UInt8)))), (6, true, OL (α := (List UInt8)) b16 columns17), (27, true, Enc.v (r14 : (List (List UInt8)))), (28, true, Enc.v ((r14.length : Int) : Int)), (29, true, Enc.v (x18 : Int))] ∧ Nd [(b16, RL (α := (List UInt8)) 23 columns17)] ∧ HSub [(b16, RL (α := (List UInt8)) 23 columns17)] h) hO15 ⟨b11, rfl, (Nd.pick nd (is := [0]) (by decide)), (HSub.pick nd (is := [0]) (by decide))⟩ ?_
    rintro ⟨columns17, x18⟩ env h x15x ⟨b16, rfl, nd, hs⟩ hX hR15
    refine TK.subH hs ?_
    unfold X.matrix_Mul_s15 at hX
    try dsimp only at hX
    refine TK.seq_k fun K23 hK23 => ?_
    refine TK.reg ?_
    refine TL.p (C := cx) (gc := true) (p_lss rfl rfl) rfl rfl ?_
    refine TL.nil ?_
    refine hK23 _ _ ?_
    refine TK.seq_k fun K24 hK24 => ?_
    refine TK.cond (b := (decide (x18 < (r14.length : Int)))) rfl (fun hc => ?_) (fun hc => ?_)
    · have hX := ite_t hc hX
      refine TK.skip ?_
      refine hK24 _ _ ?_
      refine TK.seq_k fun K25 hK25 => ?_
      refine TK.block ?_
      refine TK.seq_k fun K26 hK26 => ?_
      refine TK.reg ?_
      obtain ⟨e27, he27, hX⟩ := bind_some hX
      refine TL.p (C := cx) (gc := true) (p_iaL (xs := r14) kd22 ty23 rfl rfl rfl (fun _ => he27)) rfl rfl ?_
      refine TL.p (C := cx) (gc := true) (p_ldE (xs := r14) (a := e27) (e27 : (List UInt8)) ty23 rfl rfl (fun _ => he27) rfl rfl rfl) rfl rfl ?_
      refine TL.p (C := cx) (gc := true) (p_mv rfl) rfl rfl ?_
      refine TL.nil ?_
      refine hK26 _ _ ?_
      refine TK.reg ?_
      refine TL.p (C := cx) (gc := true) (p_mv rfl) rfl rfl ?_
      refine TL.p (C := cx) (gc := true) (p_mv rfl) rfl rfl ?_
      refine TL.p (C := cx) (gc := true) (p_mv rfl) rfl rfl ?_
      obtain ⟨r28, hr28, hX⟩ := bind_some hX
      refine TL.cvX rfl rfl rfl (fun _ => ⟨rfl, ⟨rfl, ⟨rfl, trivial⟩⟩⟩) (fun e => ok_matrix_apply a1 e27 _ hr28) ?_
      refine TL.lit (C := cx) ([r28] : List (List UInt8)) kd22 ty23 rfl ⟨⟨rfl, rfl⟩, trivial⟩ rfl rfl rfl ?_
      obtain ⟨u29, hu29, hX⟩ := bind_some hX
      refine TL.appO (C := cx) nd kd22 bo22 ty23 rfl rfl (j := 0) rfl rfl (Src_L _) (by decide) (need_t hu29) rfl fun nd => ?_
      refine TL.p (C := cx) (gc := true) (p_mv rfl) rfl rfl ?_
      refine TL.nil ?_
      refine hK25 _ _ ?_
      refine TK.reg ?_
      refine TL.p (C := cx) (gc := true) (p_add rfl rfl) rfl rfl ?_
      refine TL.p (C := cx) (gc := true) (p_mv rfl) rfl rfl ?_
      refine TL.nil ?_
      exact ⟨_, (some_in hX).symm, b16, rfl, (Nd.pick nd (is := [0]) (by decide)), (HSub.pick nd (is := [0]) (by decide))⟩
    · have hX := ite_f hc hX
      refine TK.exit ?_
      obtain rfl := hR15 _ (some_in hX).symm
      exact E15 columns17 _ _ ⟨b16, rfl, (Nd.pick nd (is := [0]) (by decide)), (HSub.pick nd (is := [0]) (by decide))⟩ hA15

end Go.Proofs.Ytgkbjnhpmlfgdaa
