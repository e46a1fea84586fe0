import Derived.Test.YtgkbjnhpmlfgdaaXFn
import Derived.Test.YtgkbjnhpmlfgdaaXS
import Derived.Test.YtgkbjnhpmlfgdaaAmK0
import Derived.Test.YtgkbjnhpmlfgdaaXP0
/- That they do. -/
namespace Go.Proofs.Ytgkbjnhpmlfgdaa
open Go.AM Go.AX
set_option linter.unusedVariables false
set_option maxRecDepth 20000

/-- cartridge/cartridgeref1.Cauchy -/
theorem ok_cartridgeref1_Cauchy (data1 : Int) (parity2 : Int) (r : ((List (List UInt8)) × Int)) (hX : X.cartridgeref1_Cauchy data1 parity2 = some r) : Fun Try.prog 38 [Enc.v (data1 : Int), Enc.v (parity2 : Int)] (· = .tup 2 (ofL [Enc.v r.1, Enc.v r.2])) := by
  refine Fun.of b38 (Nat.le_of_ble_eq_true rfl) (allVal.mem ⟨(by exact (v_val _)), (by exact (v_val _)), trivial⟩) ?_
  unfold k38
  have nd : Nd [] := Nd_nil
  unfold X.cartridgeref1_Cauchy at hX
  refine TK.seq_k fun K3 hK3 => ?_
  refine TK.reg ?_
  refine TL.p (C := cx) (gc := true) (p_mv rfl) rfl rfl ?_
  refine TL.p (C := cx) (gc := true) (p_mv rfl) rfl rfl ?_
  refine TL.nil ?_
  refine hK3 _ _ ?_
  refine TK.seq_k fun K4 hK4 => ?_
  refine TK.seq_k fun K5 hK5 => ?_
  refine TK.reg ?_
  refine TL.p (C := cx) (gc := true) (p_mv rfl) rfl rfl ?_
  refine TL.p (C := cx) (gc := true) (p_lss rfl rfl) rfl rfl ?_
  refine TL.p (C := cx) (gc := true) (p_mv rfl) rfl rfl ?_
  refine TL.p (C := cx) (gc := (!((decide (data1 < (1 : Int)))))) (p_mv rfl (hg := fun e => rfl)) (gcF1 rfl) rfl ?_
  refine TL.p (C := cx) (gc := (!((decide (data1 < (1 : Int)))))) (p_lss rfl rfl (hg := fun e => ⟨e, rfl⟩)) (gcF1 rfl) rfl ?_
  refine TL.p (C := cx) (gc := true) (p_or rfl rfl (fun e => ⟨rfl, fun h => (not_t h)⟩)) rfl rfl ?_
  refine TL.p (C := cx) (gc := true) (p_mv rfl) rfl rfl ?_
  refine TL.p (C := cx) (gc := (!(((decide (data1 < (1 : Int))) || (decide (parity2 < (1 : Int))))))) (p_mv rfl (hg := fun e => rfl)) (gcF1 rfl) rfl ?_
  refine TL.p (C := cx) (gc := (!(((decide (data1 < (1 : Int))) || (decide (parity2 < (1 : Int))))))) (p_gtr rfl rfl (hg := fun e => ⟨e, rfl⟩)) (gcF1 rfl) rfl ?_
  refine TL.p (C := cx) (gc := true) (p_or rfl rfl (fun e => ⟨rfl, fun h => (not_t h)⟩)) rfl rfl ?_
  refine TL.p (C := cx) (gc := true) (p_mv rfl) rfl rfl ?_
  refine TL.p (C := cx) (gc := (!((((decide (data1 < (1 : Int))) || (decide (parity2 < (1 : Int)))) || (decide (data1 > (255 : Int))))))) (p_mv rfl (hg := fun e => rfl)) (gcF1 rfl) rfl ?_
  refine TL.p (C := cx) (gc := (!((((decide (data1 < (1 : Int))) || (decide (parity2 < (1 : Int)))) || (decide (data1 > (255 : Int))))))) (p_gtr rfl rfl (hg := fun e => ⟨e, rfl⟩)) (gcF1 rfl) rfl ?_
  refine TL.p (C := cx) (gc := true) (p_or rfl rfl (fun e => ⟨rfl, fun h => (not_t h)⟩)) rfl rfl ?_
  refine TL.p (C := cx) (gc := true) (p_mv rfl) rfl rfl ?_
  refine TL.p (C := cx) (gc := (!(((((decide (data1 < (1 : Int))) || (decide (parity2 < (1 : Int)))) || (decide (data1 > (255 : Int)))) || (decide (parity2 > (255 : Int))))))) (p_mv rfl (hg := fun e => rfl)) (gcF1 rfl) rfl ?_
  refine TL.p (C := cx) (gc := (!(((((decide (data1 < (1 : Int))) || (decide (parity2 < (1 : Int)))) || (decide (data1 > (255 : Int)))) || (decide (parity2 > (255 : Int))))))) (p_mv rfl (hg := fun e => rfl)) (gcF1 rfl) rfl ?_
  refine TL.p (C := cx) (gc := (!(((((decide (data1 < (1 : Int))) || (decide (parity2 < (1 : Int)))) || (decide (data1 > (255 : Int)))) || (decide (parity2 > (255 : Int))))))) (p_add rfl rfl (hg := fun e => ⟨e, e⟩)) (gcF1 rfl) rfl ?_
  refine TL.p (C := cx) (gc := (!(((((decide (data1 < (1 : Int))) || (decide (parity2 < (1 : Int)))) || (decide (data1 > (255 : Int)))) || (decide (parity2 > (255 : Int))))))) (p_gtr rfl rfl (hg := fun e => ⟨e, rfl⟩)) (gcF1 rfl) rfl ?_
  refine TL.p (C := cx) (gc := true) (p_or rfl rfl (fun e => ⟨rfl, fun h => (not_t h)⟩)) rfl rfl ?_
  refine TL.nil ?_
  refine hK5 _ _ ?_
  refine TK.cond (b := (((((decide (data1 < (1 : Int))) || (decide (parity2 < (1 : Int)))) || (decide (data1 > (255 : Int)))) || (decide (parity2 > (255 : Int)))) || (decide ((wr (data1 + parity2)) > (255 : Int))))) rfl (fun hc => ?_) (fun hc => ?_)
  · have hX := ite_t hc hX
    refine TK.seq_k fun K6 hK6 => ?_
    refine TK.reg ?_
    refine TL.p (C := cx) (gc := true) (p_mv rfl) rfl rfl ?_
    refine TL.p (C := cx) (gc := true) (p_mv rfl) rfl rfl ?_
    refine TL.nil ?_
    refine hK6 _ _ ?_
    refine TK.wk 4 (L ([] : (List (List UInt8)))) rfl Wk_nil ?_
    refine TK.ret ?_
    try dsimp only [thenQ]
    exact retN (vs := [Enc.v (([] : (List (List UInt8))) : (List (List UInt8))), Enc.v ((1 : Int) : Int)]) ⟨rfl, rfl, trivial⟩ (by obtain rfl := some_in hX; rfl) (allVal.mem ⟨v_val _, v_val _, trivial⟩)
  · have hX := ite_f hc hX
    refine TK.skip ?_
    refine hK4 _ _ ?_
    refine TK.seq_k fun K7 hK7 => ?_
    refine TK.reg ?_
    refine TL.p (C := cx) (gc := true) (p_mv rfl) rfl rfl ?_
    refine TL.nil ?_
    refine hK7 _ _ ?_
    refine TK.ownL (α := (List UInt8)) 6 23 nd rfl (.inl rfl) fun b8 nd => ?_
    refine TK.seq_k fun K9 hK9 => ?_
    refine TK.seq_k fun K10 hK10 => ?_
    refine TK.reg ?_
    refine TL.p (C := cx) (gc := true) (p_mv rfl) rfl rfl ?_
    refine TL.nil ?_
    refine hK10 _ _ ?_
    refine TK.block ?_
    obtain ⟨o11, hO11, hA11⟩ := bind_some hX
    have E11 : ∀ (l16 : List (List UInt8)) (env : Env) (h : Hp), (∃ b15, keepE [6] env = [(6, true, OL (α := (List UInt8)) b15 l16)] ∧ Nd [(b15, RL (α := (List UInt8)) 23 l16)] ∧ HSub [(b15, RL (α := (List UInt8)) 23 l16)] h) → X.cartridgeref1_Cauchy_e11 l16 = some r → K9 env h := by
      intro l16 env h hE hX
      obtain ⟨b15, henv, nd, hs⟩ := hE
      unfold X.cartridgeref1_Cauchy_e11 at hX
      refine hK9 _ _ (TK.keep [6] ?_)
      rw [henv]
      refine TK.subH hs ?_
      refine TK.seq_k fun K17 hK17 => ?_
      refine TK.reg ?_
      refine TL.p (C := cx) (gc := true) (p_mv rfl) rfl rfl ?_
      refine TL.p (C := cx) (gc := true) (p_mv rfl) rfl rfl ?_
      refine TL.p (C := cx) (gc := true) (p_mv rfl) rfl rfl ?_
      refine TL.nil ?_
      refine hK17 _ _ ?_
      refine TK.lay [(4, L l16)] nd (j := 0) rfl ⟨⟨_, rfl, fix_OL nd (j := 0) rfl, rfl⟩, trivial⟩ fun nd => ?_
      refine TK.ret ?_
      try dsimp only [thenQ]
      exact retN (vs := [Enc.v (l16 : (List (List UInt8))), Enc.v ((0 : Int) : Int)]) ⟨rfl, rfl, trivial⟩ (by obtain rfl := some_in hX; rfl) (allVal.mem ⟨v_val _, v_val _, trivial⟩)
    refine TK.iter [0, 1, 6, 7] (fun s env h => match s with | (out13, i14) => ∃ b12, env = [(0, true, Enc.v (data1 : Int)), (1, true, Enc.v (parity2 : Int)), (6, true, OL (α := (List UInt8)) b12 out13), (7, true, Enc.v (i14 : Int))] ∧ Nd [(b12, RL (α := (List UInt8)) 23 out13)] ∧ HSub [(b12, RL (α := (List UInt8)) 23 out13)] h) hO11 ⟨b8, rfl, (Nd.pick nd (is := [0]) (by decide)), (HSub.pick nd (is := [0]) (by decide))⟩ ?_
    rintro ⟨out13, i14⟩ env h x11x ⟨b12, rfl, nd, hs⟩ hX hR11
    refine TK.subH hs ?_
    unfold X.cartridgeref1_Cauchy_s11 at hX
    try dsimp only at hX
    refine TK.seq_k fun K18 hK18 => ?_
    refine TK.seq_k fun K19 hK19 => ?_
    refine TK.reg ?_
    refine TL.p (C := cx) (gc := true) (p_mv rfl) rfl rfl ?_
    refine TL.p (C := cx) (gc := true) (p_mv rfl) rfl rfl ?_
    refine TL.p (C := cx) (gc := true) (p_lss rfl rfl) rfl rfl ?_
    refine TL.nil ?_
    refine hK19 _ _ ?_
    refine TK.cond (b := (decide (i14 < parity2))) rfl (fun hc => ?_) (fun hc => ?_)
    · have hX := ite_t hc hX
      refine TK.skip ?_
      refine hK18 _ _ ?_
      refine TK.seq_k fun K20 hK20 => ?_
      refine TK.block ?_
      refine TK.seq_k fun K21 hK21 => ?_
      refine TK.reg ?_
      refine TL.p (C := cx) (gc := true) (p_mv rfl) rfl rfl ?_
      refine TL.nil ?_
      refine hK21 _ _ ?_
      refine TK.ownL (α := UInt8) 8 5 nd rfl (.inl rfl) fun b22 nd => ?_
      refine TK.seq_k fun K23 hK23 => ?_
      refine TK.seq_k fun K24 hK24 => ?_
      refine TK.reg ?_
      refine TL.p (C := cx) (gc := true) (p_mv rfl) rfl rfl ?_
      refine TL.nil ?_
      refine hK24 _ _ ?_
      refine TK.block ?_
      obtain ⟨o25, hO25, hA25⟩ := bind_some hX
      have E25 : ∀ (l32 : List UInt8) (env : Env) (h : Hp), (∃ b30 b31, keepE [0, 1, 6, 7, 8] env = [(0, true, Enc.v (data1 : Int)), (1, true, Enc.v (parity2 : Int)), (6, true, OL (α := (List UInt8)) b30 out13), (7, true, Enc.v (i14 : Int)), (8, true, OL (α := UInt8) b31 l32)] ∧ Nd [(b30, RL (α := (List UInt8)) 23 out13), (b31, RL (α := UInt8) 5 l32)] ∧ HSub [(b30, RL (α := (List UInt8)) 23 out13), (b31, RL (α := UInt8) 5 l32)] h) → X.cartridgeref1_Cauchy_e25 out13 i14 l32 = some x11x → K23 env h := by
        intro l32 env h hE hX
        obtain ⟨b30, b31, henv, nd, hs⟩ := hE
        unfold X.cartridgeref1_Cauchy_e25 at hX
        refine hK23 _ _ (TK.keep [0, 1, 6, 7, 8] ?_)
        rw [henv]
        refine TK.subH hs ?_
        refine TK.reg ?_
        refine TL.p (C := cx) (gc := true) (p_mv rfl) rfl rfl ?_
        refine TL.p (C := cx) (gc := true) (p_mv rfl) rfl rfl ?_
        refine TL.lay [(52, L l32)] nd (j := 1) rfl ⟨⟨_, rfl, fix_OL nd (j := 1) rfl, rfl⟩, trivial⟩ fun nd => ?_
        refine TL.lit (C := cx) ([l32] : List (List UInt8)) kd22 ty23 rfl ⟨⟨rfl, rfl⟩, trivial⟩ rfl rfl rfl ?_
        obtain ⟨u33, hu33, hX⟩ := bind_some hX
        refine TL.appO (C := cx) nd kd22 bo22 ty23 rfl rfl (j := 0) rfl rfl (Src_L _) (by decide) (need_t hu33) rfl fun nd => ?_
        refine TL.p (C := cx) (gc := true) (p_mv rfl) rfl rfl ?_
        refine TL.nil ?_
        refine hK20 _ _ ?_
        refine TK.reg ?_
        refine TL.p (C := cx) (gc := true) (p_mv rfl) rfl rfl ?_
        refine TL.p (C := cx) (gc := true) (p_add rfl rfl) rfl rfl ?_
        refine TL.p (C := cx) (gc := true) (p_mv rfl) rfl rfl ?_
        refine TL.nil ?_
        exact ⟨_, (some_in hX).symm, b30, rfl, (Nd.pick nd (is := [0]) (by decide)), (HSub.pick nd (is := [0]) (by decide))⟩
      refine TK.iter [0, 1, 6, 7, 8, 9] (fun s env h => match s with | (row28, j29) => ∃ b26 b27, env = [(0, true, Enc.v (data1 : Int)), (1, true, Enc.v (parity2 : Int)), (6, true, OL (α := (List UInt8)) b26 out13), (7, true, Enc.v (i14 : Int)), (8, true, OL (α := UInt8) b27 row28), (9, true, Enc.v (j29 : Int))] ∧ Nd [(b26, RL (α := (List UInt8)) 23 out13), (b27, RL (α := UInt8) 5 row28)] ∧ HSub [(b26, RL (α := (List UInt8)) 23 out13), (b27, RL (α := UInt8) 5 row28)] h) hO25 ⟨b12, b22, rfl, (Nd.pick nd (is := [1, 0]) (by decide)), (HSub.pick nd (is := [1, 0]) (by decide))⟩ ?_
      rintro ⟨row28, j29⟩ env h x25x ⟨b26, b27, rfl, nd, hs⟩ hX hR25
      refine TK.subH hs ?_
      unfold X.cartridgeref1_Cauchy_s25 at hX
      try dsimp only at hX
      refine TK.seq_k fun K34 hK34 => ?_
      refine TK.seq_k fun K35 hK35 => ?_
      refine TK.reg ?_
      refine TL.p (C := cx) (gc := true) (p_mv rfl) rfl rfl ?_
      refine TL.p (C := cx) (gc := true) (p_mv rfl) rfl rfl ?_
      refine TL.p (C := cx) (gc := true) (p_lss rfl rfl) rfl rfl ?_
      refine TL.nil ?_
      refine hK35 _ _ ?_
      refine TK.cond (b := (decide (j29 < data1))) rfl (fun hc => ?_) (fun hc => ?_)
      · have hX := ite_t hc hX
        refine TK.skip ?_
        refine hK34 _ _ ?_
        refine TK.seq_k fun K36 hK36 => ?_
        refine TK.block ?_
        refine TK.reg ?_
        refine TL.p (C := cx) (gc := true) (p_mv rfl) rfl rfl ?_
        refine TL.p (C := cx) (gc := true) (p_mv rfl) rfl rfl ?_
        refine TL.p (C := cx) (gc := true) (p_cvt src3 kd5 rfl (cv_u8 _)) rfl rfl ?_
        refine TL.p (C := cx) (gc := true) (p_mv rfl) rfl rfl ?_
        refine TL.p (C := cx) (gc := true) (p_mv rfl) rfl rfl ?_
        refine TL.p (C := cx) (gc := true) (p_add rfl rfl) rfl rfl ?_
        refine TL.p (C := cx) (gc := true) (p_cvt src3 kd5 rfl (cv_u8 _)) rfl rfl ?_
        refine TL.p (C := cx) (gc := true) (p8_xor (a := (u8 i14)) (b := (u8 (wr (parity2 + j29)))) rfl rfl) rfl rfl ?_
        obtain ⟨r37, hr37, hX⟩ := bind_some hX
        refine TL.cvX rfl rfl rfl (fun _ => ⟨rfl, ⟨rfl, trivial⟩⟩) (fun e => ok_cartridgeref1_Inv ((u8 i14) ^^^ (u8 (wr (parity2 + j29)))) _ hr37) ?_
        refine TL.lit (C := cx) ([r37] : List UInt8) kd23 ty5 rfl ⟨⟨rfl, rfl⟩, trivial⟩ rfl rfl rfl ?_
        obtain ⟨u38, hu38, hX⟩ := bind_some hX
        refine TL.appO (C := cx) nd kd23 bo23 ty5 rfl rfl (j := 1) rfl rfl (Src_L _) (by decide) (need_t hu38) rfl fun nd => ?_
        refine TL.p (C := cx) (gc := true) (p_mv rfl) rfl rfl ?_
        refine TL.nil ?_
        refine hK36 _ _ ?_
        refine TK.reg ?_
        refine TL.p (C := cx) (gc := true) (p_mv rfl) rfl rfl ?_
        refine TL.p (C := cx) (gc := true) (p_add rfl rfl) rfl rfl ?_
        refine TL.p (C := cx) (gc := true) (p_mv rfl) rfl rfl ?_
        refine TL.nil ?_
        exact ⟨_, (some_in hX).symm, b26, b27, rfl, (Nd.pick nd (is := [0, 1]) (by decide)), (HSub.pick nd (is := [0, 1]) (by decide))⟩
      · have hX := ite_f hc hX
        refine TK.exit ?_
        obtain rfl := hR25 _ (some_in hX).symm
        exact E25 row28 _ _ ⟨b26, b27, rfl, (Nd.pick nd (is := [0, 1]) (by decide)), (HSub.pick nd (is := [0, 1]) (by decide))⟩ hA25
    · have hX := ite_f hc hX
      refine TK.exit ?_
      obtain rfl := hR11 _ (some_in hX).symm
      exact E11 out13 _ _ ⟨b12, rfl, (Nd.pick nd (is := [0]) (by decide)), (HSub.pick nd (is := [0]) (by decide))⟩ hA11

/-- cartridge/cartridgeref1.RightMatrix -/
theorem ok_cartridgeref1_RightMatrix (m1 : (List (List UInt8))) (r : Bool) (hX : X.cartridgeref1_RightMatrix m1 = some r) : Fun Try.prog 16 [Enc.v (m1 : (List (List UInt8)))] (· = Enc.v (r : Bool)) := by
  refine Fun.of b16 (Nat.le_of_ble_eq_true rfl) (allVal.mem ⟨(by exact (v_val _)), trivial⟩) ?_
  unfold k16
  have nd : Nd [] := Nd_nil
  unfold X.cartridgeref1_RightMatrix at hX
  refine TK.seq_k fun K2 hK2 => ?_
  refine TK.reg ?_
  refine TL.p (C := cx) (gc := true) (p_mv rfl) rfl rfl ?_
  refine TL.nil ?_
  refine hK2 _ _ ?_
  refine TK.seq_k fun K3 hK3 => ?_
  refine TK.seq_k fun K4 hK4 => ?_
  refine TK.reg ?_
  refine TL.p (C := cx) (gc := true) (p_mv rfl) rfl rfl ?_
  refine TL.p (C := cx) (gc := true) (p_lenL (xs := m1) kd22 rfl) rfl rfl ?_
  refine TL.p (C := cx) (gc := true) (p_lss rfl rfl) rfl rfl ?_
  refine TL.p (C := cx) (gc := true) (p_mv rfl) rfl rfl ?_
  refine TL.p (C := cx) (gc := (!((decide ((m1.length : Int) < (1 : Int)))))) (p_mv rfl (hg := fun e => rfl)) (gcF1 rfl) rfl ?_
  refine TL.p (C := cx) (gc := (!((decide ((m1.length : Int) < (1 : Int)))))) (p_lenL (xs := m1) kd22 rfl (hg := fun e => e)) (gcF1 rfl) rfl ?_
  refine TL.p (C := cx) (gc := (!((decide ((m1.length : Int) < (1 : Int)))))) (p_gtr rfl rfl (hg := fun e => ⟨e, rfl⟩)) (gcF1 rfl) rfl ?_
  refine TL.p (C := cx) (gc := true) (p_or rfl rfl (fun e => ⟨rfl, fun h => (not_t h)⟩)) rfl rfl ?_
  refine TL.p (C := cx) (gc := true) (p_mv rfl) rfl rfl ?_
  refine TL.p (C := cx) (gc := (!(((decide ((m1.length : Int) < (1 : Int))) || (decide ((m1.length : Int) > (255 : Int))))))) (p_mv rfl (hg := fun e => rfl)) (gcF1 rfl) rfl ?_
  obtain ⟨e5, he5, hX⟩ := bind_some hX
  refine TL.p (C := cx) (gc := (!(((decide ((m1.length : Int) < (1 : Int))) || (decide ((m1.length : Int) > (255 : Int))))))) (p_iaL (xs := m1) kd22 ty23 rfl rfl rfl (fun e => optG_t he5 e) (hg := fun e => ⟨e, rfl⟩)) (gcF1 rfl) rfl ?_
  refine TL.p (C := cx) (gc := (!(((decide ((m1.length : Int) < (1 : Int))) || (decide ((m1.length : Int) > (255 : Int))))))) (p_ldE (xs := m1) (a := e5) (e5 : (List UInt8)) ty23 rfl rfl (fun e => optG_t he5 e) rfl rfl rfl (hg := fun e => e)) (gcF1 rfl) rfl ?_
  refine TL.p (C := cx) (gc := (!(((decide ((m1.length : Int) < (1 : Int))) || (decide ((m1.length : Int) > (255 : Int))))))) (p_lenL (xs := e5) kd23 rfl (hg := fun e => e)) (gcF1 rfl) rfl ?_
  refine TL.p (C := cx) (gc := (!(((decide ((m1.length : Int) < (1 : Int))) || (decide ((m1.length : Int) > (255 : Int))))))) (p_lss rfl rfl (hg := fun e => ⟨e, rfl⟩)) (gcF1 rfl) rfl ?_
  refine TL.p (C := cx) (gc := true) (p_or rfl rfl (fun e => ⟨rfl, fun h => (not_t h)⟩)) rfl rfl ?_
  refine TL.p (C := cx) (gc := true) (p_mv rfl) rfl rfl ?_
  refine TL.p (C := cx) (gc := (!((((decide ((m1.length : Int) < (1 : Int))) || (decide ((m1.length : Int) > (255 : Int)))) || (decide ((e5.length : Int) < (1 : Int))))))) (p_mv rfl (hg := fun e => rfl)) (gcF1 rfl) rfl ?_
  obtain ⟨e6, he6, hX⟩ := bind_some hX
  refine TL.p (C := cx) (gc := (!((((decide ((m1.length : Int) < (1 : Int))) || (decide ((m1.length : Int) > (255 : Int)))) || (decide ((e5.length : Int) < (1 : Int))))))) (p_iaL (xs := m1) kd22 ty23 rfl rfl rfl (fun e => optG_t he6 e) (hg := fun e => ⟨e, rfl⟩)) (gcF1 rfl) rfl ?_
  refine TL.p (C := cx) (gc := (!((((decide ((m1.length : Int) < (1 : Int))) || (decide ((m1.length : Int) > (255 : Int)))) || (decide ((e5.length : Int) < (1 : Int))))))) (p_ldE (xs := m1) (a := e6) (e6 : (List UInt8)) ty23 rfl rfl (fun e => optG_t he6 e) rfl rfl rfl (hg := fun e => e)) (gcF1 rfl) rfl ?_
  refine TL.p (C := cx) (gc := (!((((decide ((m1.length : Int) < (1 : Int))) || (decide ((m1.length : Int) > (255 : Int)))) || (decide ((e5.length : Int) < (1 : Int))))))) (p_lenL (xs := e6) kd23 rfl (hg := fun e => e)) (gcF1 rfl) rfl ?_
  refine TL.p (C := cx) (gc := (!((((decide ((m1.length : Int) < (1 : Int))) || (decide ((m1.length : Int) > (255 : Int)))) || (decide ((e5.length : Int) < (1 : Int))))))) (p_gtr rfl rfl (hg := fun e => ⟨e, rfl⟩)) (gcF1 rfl) rfl ?_
  refine TL.p (C := cx) (gc := true) (p_or rfl rfl (fun e => ⟨rfl, fun h => (not_t h)⟩)) rfl rfl ?_
  refine TL.nil ?_
  refine hK4 _ _ ?_
  refine TK.cond (b := ((((decide ((m1.length : Int) < (1 : Int))) || (decide ((m1.length : Int) > (255 : Int)))) || (decide ((e5.length : Int) < (1 : Int)))) || (decide ((e6.length : Int) > (255 : Int))))) rfl (fun hc => ?_) (fun hc => ?_)
  · have hX := ite_t hc hX
    refine TK.seq_k fun K7 hK7 => ?_
    refine TK.reg ?_
    refine TL.p (C := cx) (gc := true) (p_mv rfl) rfl rfl ?_
    refine TL.nil ?_
    refine hK7 _ _ ?_
    refine TK.ret ?_
    try dsimp only [thenQ]
    exact ret1 (v := Enc.v (false : Bool)) rfl (by obtain rfl := some_in hX; rfl) (v_val _)
  · have hX := ite_f hc hX
    refine TK.skip ?_
    refine hK3 _ _ ?_
    refine TK.seq_k fun K8 hK8 => ?_
    refine TK.seq_k fun K9 hK9 => ?_
    refine TK.reg ?_
    refine TL.p (C := cx) (gc := true) (p_mv rfl) rfl rfl ?_
    refine TL.nil ?_
    refine hK9 _ _ ?_
    refine TK.block ?_
    obtain ⟨o10, hO10, hA10⟩ := bind_some hX
    have E10 : ∀ (env : Env) (h : Hp), (∃ _u : Unit, keepE [] env = [] ∧ Nd [] ∧ HSub [] h) → X.cartridgeref1_RightMatrix_e10 = some r → K8 env h := by
      intro  env h hE hX
      obtain ⟨_u, henv, nd, hs⟩ := hE
      unfold X.cartridgeref1_RightMatrix_e10 at hX
      refine hK8 _ _ (TK.keep [] ?_)
      rw [henv]
      refine TK.subH hs ?_
      refine TK.seq_k fun K12 hK12 => ?_
      refine TK.reg ?_
      refine TL.p (C := cx) (gc := true) (p_mv rfl) rfl rfl ?_
      refine TL.nil ?_
      refine hK12 _ _ ?_
      refine TK.ret ?_
      try dsimp only [thenQ]
      exact ret1 (v := Enc.v (true : Bool)) rfl (by obtain rfl := some_in hX; rfl) (v_val _)
    refine TK.iter [0, 3] (fun s env h => match s with | i11 => ∃ _u : Unit, env = [(0, true, Enc.v (m1 : (List (List UInt8)))), (3, true, Enc.v (i11 : Int))] ∧ Nd [] ∧ HSub [] h) hO10 ⟨(), rfl, Nd_nil, HSub.refl _⟩ ?_
    rintro i11 env h x10x ⟨_u, rfl, nd, hs⟩ hX hR10
    refine TK.subH hs ?_
    unfold X.cartridgeref1_RightMatrix_s10 at hX
    try dsimp only at hX
    refine TK.seq_k fun K13 hK13 => ?_
    refine TK.seq_k fun K14 hK14 => ?_
    refine TK.reg ?_
    refine TL.p (C := cx) (gc := true) (p_mv rfl) rfl rfl ?_
    refine TL.p (C := cx) (gc := true) (p_mv rfl) rfl rfl ?_
    refine TL.p (C := cx) (gc := true) (p_lenL (xs := m1) kd22 rfl) rfl rfl ?_
    refine TL.p (C := cx) (gc := true) (p_lss rfl rfl) rfl rfl ?_
    refine TL.nil ?_
    refine hK14 _ _ ?_
    refine TK.cond (b := (decide (i11 < (m1.length : Int)))) rfl (fun hc => ?_) (fun hc => ?_)
    · have hX := ite_t hc hX
      refine TK.skip ?_
      refine hK13 _ _ ?_
      refine TK.seq_k fun K15 hK15 => ?_
      refine TK.block ?_
      refine TK.seq_k fun K16 hK16 => ?_
      have ndS : Nd [] := Nd.pick nd (is := []) (by decide)
      refine TK.drwX (h := []) (hS := []) [(0, 0), (0, 1), (0, 2), (0, 3), (0, 4), (0, 5), (0, 6), (0, 7), (0, 8), (0, 9)] mixed (by kernel_rfl) (HSub_app nd) ?_
      refine DR0 (gc := true) rfl (vok_p (C := cx) (p_mv rfl)) rfl rfl ?_
      refine DR0 (gc := true) rfl (vok_p (C := cx) (p_mv rfl)) rfl rfl ?_
      obtain ⟨e17, he17, hX⟩ := bind_some hX
      refine DR0 (gc := true) rfl (vok_p (C := cx) (p_iaL (xs := m1) kd22 ty23 rfl rfl rfl (fun _ => he17))) rfl rfl ?_
      refine DR0 (gc := true) rfl (vok_p (C := cx) (p_ldE (xs := m1) (a := e17) (e17 : (List UInt8)) ty23 rfl rfl (fun _ => he17) rfl rfl rfl)) rfl rfl ?_
      refine DR0 (gc := true) rfl (vok_p (C := cx) (p_lenL (xs := e17) kd23 rfl)) rfl rfl ?_
      refine DR0 (gc := true) rfl (vok_p (C := cx) (p_mv rfl)) rfl rfl ?_
      obtain ⟨e18, he18, hX⟩ := bind_some hX
      refine DR0 (gc := true) rfl (vok_p (C := cx) (p_iaL (xs := m1) kd22 ty23 rfl rfl rfl (fun _ => he18))) rfl rfl ?_
      refine DR0 (gc := true) rfl (vok_p (C := cx) (p_ldE (xs := m1) (a := e18) (e18 : (List UInt8)) ty23 rfl rfl (fun _ => he18) rfl rfl rfl)) rfl rfl ?_
      refine DR0 (gc := true) rfl (vok_p (C := cx) (p_lenL (xs := e18) kd23 rfl)) rfl rfl ?_
      refine DR0 (gc := true) rfl (vok_p (C := cx) (p_neq rfl rfl)) rfl rfl ?_
      refine DRend ?_
      refine hK16 _ _ ?_
      refine TK.cond (b := ((e17.length : Int) != (e18.length : Int))) rfl (fun hc => ?_) (fun hc => ?_)
      · have hX := ite_t hc hX
        refine TK.seq_k fun K19 hK19 => ?_
        refine TK.reg ?_
        refine TL.p (C := cx) (gc := true) (p_mv rfl) rfl rfl ?_
        refine TL.nil ?_
        refine hK19 _ _ ?_
        refine TK.ret ?_
        obtain rfl := hR10 _ (some_in hX).symm
        replace hX := hA10
        try dsimp only [thenQ]
        exact ret1 (v := Enc.v (false : Bool)) rfl (by obtain rfl := some_in hX; rfl) (v_val _)
      · have hX := ite_f hc hX
        refine TK.skip ?_
        refine hK15 _ _ ?_
        refine TK.reg ?_
        refine TL.p (C := cx) (gc := true) (p_mv rfl) rfl rfl ?_
        refine TL.p (C := cx) (gc := true) (p_add rfl rfl) rfl rfl ?_
        refine TL.p (C := cx) (gc := true) (p_mv rfl) rfl rfl ?_
        refine TL.nil ?_
        exact ⟨_, (some_in hX).symm, (), rfl, Nd_nil, HSub.refl _⟩
    · have hX := ite_f hc hX
      refine TK.exit ?_
      obtain rfl := hR10 _ (some_in hX).symm
      exact E10 _ _ ⟨(), rfl, Nd_nil, HSub.refl _⟩ hA10

/-- cartridge/cartridgeref1.Inverse -/
theorem ok_cartridgeref1_Inverse (m1 : (List (List UInt8))) (r : ((List (List UInt8)) × Int)) (hX : X.cartridgeref1_Inverse m1 = some r) : Fun Try.prog 35 [Enc.v (m1 : (List (List UInt8)))] (· = .tup 2 (ofL [Enc.v r.1, Enc.v r.2])) := by
  refine Fun.of b35 (Nat.le_of_ble_eq_true rfl) (allVal.mem ⟨(by exact (v_val _)), trivial⟩) ?_
  unfold k35
  have nd : Nd [] := Nd_nil
  unfold X.cartridgeref1_Inverse at hX
  refine TK.seq_k fun K2 hK2 => ?_
  refine TK.reg ?_
  refine TL.p (C := cx) (gc := true) (p_mv rfl) rfl rfl ?_
  refine TL.p (C := cx) (gc := true) (p_mv rfl) rfl rfl ?_
  refine TL.nil ?_
  refine hK2 _ _ ?_
  refine TK.seq_k fun K3 hK3 => ?_
  refine TK.seq_k fun K4 hK4 => ?_
  refine TK.reg ?_
  refine TL.p (C := cx) (gc := true) (p_mv rfl) rfl rfl ?_
  obtain ⟨r5, hr5, hX⟩ := bind_some hX
  refine TL.cvX rfl rfl rfl (fun _ => ⟨rfl, ⟨rfl, trivial⟩⟩) (fun e => ok_cartridgeref1_RightMatrix m1 _ hr5) ?_
  refine TL.p (C := cx) (gc := true) (p_not rfl) rfl rfl ?_
  refine TL.p (C := cx) (gc := true) (p_mv rfl) rfl rfl ?_
  refine TL.p (C := cx) (gc := (!((!r5)))) (p_mv rfl (hg := fun e => rfl)) (gcF1 rfl) rfl ?_
  refine TL.p (C := cx) (gc := (!((!r5)))) (p_lenL (xs := m1) kd22 rfl (hg := fun e => e)) (gcF1 rfl) rfl ?_
  refine TL.p (C := cx) (gc := (!((!r5)))) (p_mv rfl (hg := fun e => rfl)) (gcF1 rfl) rfl ?_
  obtain ⟨e6, he6, hX⟩ := bind_some hX
  refine TL.p (C := cx) (gc := (!((!r5)))) (p_iaL (xs := m1) kd22 ty23 rfl rfl rfl (fun e => optG_t he6 e) (hg := fun e => ⟨e, rfl⟩)) (gcF1 rfl) rfl ?_
  refine TL.p (C := cx) (gc := (!((!r5)))) (p_ldE (xs := m1) (a := e6) (e6 : (List UInt8)) ty23 rfl rfl (fun e => optG_t he6 e) rfl rfl rfl (hg := fun e => e)) (gcF1 rfl) rfl ?_
  refine TL.p (C := cx) (gc := (!((!r5)))) (p_lenL (xs := e6) kd23 rfl (hg := fun e => e)) (gcF1 rfl) rfl ?_
  refine TL.p (C := cx) (gc := (!((!r5)))) (p_neq rfl rfl (hg := fun e => ⟨e, e⟩)) (gcF1 rfl) rfl ?_
  refine TL.p (C := cx) (gc := true) (p_or rfl rfl (fun e => ⟨rfl, fun h => (not_t h)⟩)) rfl rfl ?_
  refine TL.nil ?_
  refine hK4 _ _ ?_
  refine TK.cond (b := ((!r5) || ((m1.length : Int) != (e6.length : Int)))) rfl (fun hc => ?_) (fun hc => ?_)
  · have hX := ite_t hc hX
    refine TK.seq_k fun K7 hK7 => ?_
    refine TK.reg ?_
    refine TL.p (C := cx) (gc := true) (p_mv rfl) rfl rfl ?_
    refine TL.p (C := cx) (gc := true) (p_mv rfl) rfl rfl ?_
    refine TL.nil ?_
    refine hK7 _ _ ?_
    refine TK.wk 2 (L ([] : (List (List UInt8)))) rfl Wk_nil ?_
    refine TK.ret ?_
    try dsimp only [thenQ]
    exact retN (vs := [Enc.v (([] : (List (List UInt8))) : (List (List UInt8))), Enc.v ((1 : Int) : Int)]) ⟨rfl, rfl, trivial⟩ (by obtain rfl := some_in hX; rfl) (allVal.mem ⟨v_val _, v_val _, trivial⟩)
  · have hX := ite_f hc hX
    refine TK.skip ?_
    refine hK3 _ _ ?_
    refine TK.seq_k fun K8 hK8 => ?_
    refine TK.reg ?_
    refine TL.p (C := cx) (gc := true) (p_mv rfl) rfl rfl ?_
    refine TL.p (C := cx) (gc := true) (p_lenL (xs := m1) kd22 rfl) rfl rfl ?_
    refine TL.p (C := cx) (gc := true) (p_mv rfl) rfl rfl ?_
    refine TL.nil ?_
    refine hK8 _ _ ?_
    refine TK.seq_k fun K9 hK9 => ?_
    refine TK.reg ?_
    refine TL.p (C := cx) (gc := true) (p_mv rfl) rfl rfl ?_
    refine TL.nil ?_
    refine hK9 _ _ ?_
    refine TK.ownP 5 23 nd rfl (.inl rfl) fun b10 nd => ?_
    refine TK.seq_k fun K11 hK11 => ?_
    refine TK.seq_k fun K12 hK12 => ?_
    refine TK.reg ?_
    refine TL.p (C := cx) (gc := true) (p_mv rfl) rfl rfl ?_
    refine TL.nil ?_
    refine hK12 _ _ ?_
    refine TK.block ?_
    obtain ⟨o13, hO13, hA13⟩ := bind_some hX
    have E13 : ∀ (ix19 : List Nat) (pl20 : List (List UInt8)) (env : Env) (h : Hp), (∃ b18 ns18, keepE [4, 5] env = [(4, true, Enc.v ((m1.length : Int) : Int)), (5, true, OX b18 ix19)] ∧ Nd ((b18, RV 23 (pcells (α := UInt8) ns18 ix19 pl20)) :: zp (α := UInt8) 5 ns18 pl20) ∧ HSub ((b18, RV 23 (pcells (α := UInt8) ns18 ix19 pl20)) :: zp (α := UInt8) 5 ns18 pl20) h ∧ GP ns18 ix19 pl20) → X.cartridgeref1_Inverse_e13 m1 ix19 pl20 = some r → K11 env h := by
      intro ix19 pl20 env h hE hX
      obtain ⟨b18, ns18, henv, nd, hs, hG18⟩ := hE
      unfold X.cartridgeref1_Inverse_e13 at hX
      refine hK11 _ _ (TK.keep [4, 5] ?_)
      rw [henv]
      refine TK.subH hs ?_
      refine TK.seq_k fun K21 hK21 => ?_
      refine TK.seq_k fun K22 hK22 => ?_
      refine TK.reg ?_
      refine TL.p (C := cx) (gc := true) (p_mv rfl) rfl rfl ?_
      refine TL.nil ?_
      refine hK22 _ _ ?_
      refine TK.block ?_
      obtain ⟨o23, hO23, hA23⟩ := bind_some hX
      have E23 : ∀ (ix29 : List Nat) (pl30 : List (List UInt8)) (env : Env) (h : Hp), (∃ b28 ns28, keepE [4, 5] env = [(4, true, Enc.v ((m1.length : Int) : Int)), (5, true, OX b28 ix29)] ∧ Nd ((b28, RV 23 (pcells (α := UInt8) ns28 ix29 pl30)) :: zp (α := UInt8) 5 ns28 pl30) ∧ HSub ((b28, RV 23 (pcells (α := UInt8) ns28 ix29 pl30)) :: zp (α := UInt8) 5 ns28 pl30) h ∧ GP ns28 ix29 pl30) → X.cartridgeref1_Inverse_e23 m1 ix29 pl30 = some r → K21 env h := by
        intro ix29 pl30 env h hE hX
        obtain ⟨b28, ns28, henv, nd, hs, hG28⟩ := hE
        unfold X.cartridgeref1_Inverse_e23 at hX
        refine hK21 _ _ (TK.keep [4, 5] ?_)
        rw [henv]
        refine TK.subH hs ?_
        refine TK.seq_k fun K31 hK31 => ?_
        refine TK.reg ?_
        refine TL.p (C := cx) (gc := true) (p_mv rfl) rfl rfl ?_
        refine TL.nil ?_
        refine hK31 _ _ ?_
        refine TK.ownL (α := (List UInt8)) 16 23 nd rfl (.inl rfl) fun b32 nd => ?_
        refine TK.seq_k fun K33 hK33 => ?_
        refine TK.seq_k fun K34 hK34 => ?_
        refine TK.reg ?_
        refine TL.p (C := cx) (gc := true) (p_mv rfl) rfl rfl ?_
        refine TL.nil ?_
        refine hK34 _ _ ?_
        refine TK.block ?_
        obtain ⟨o35, hO35, hA35⟩ := bind_some hX
        have E35 : ∀ (l41 : List (List UInt8)) (env : Env) (h : Hp), (∃ b40, keepE [16] env = [(16, true, OL (α := (List UInt8)) b40 l41)] ∧ Nd [(b40, RL (α := (List UInt8)) 23 l41)] ∧ HSub [(b40, RL (α := (List UInt8)) 23 l41)] h) → X.cartridgeref1_Inverse_e35 l41 = some r → K33 env h := by
          intro l41 env h hE hX
          obtain ⟨b40, henv, nd, hs⟩ := hE
          unfold X.cartridgeref1_Inverse_e35 at hX
          refine hK33 _ _ (TK.keep [16] ?_)
          rw [henv]
          refine TK.subH hs ?_
          refine TK.seq_k fun K42 hK42 => ?_
          refine TK.reg ?_
          refine TL.p (C := cx) (gc := true) (p_mv rfl) rfl rfl ?_
          refine TL.p (C := cx) (gc := true) (p_mv rfl) rfl rfl ?_
          refine TL.p (C := cx) (gc := true) (p_mv rfl) rfl rfl ?_
          refine TL.nil ?_
          refine hK42 _ _ ?_
          refine TK.lay [(2, L l41)] nd (j := 0) rfl ⟨⟨_, rfl, fix_OL nd (j := 0) rfl, rfl⟩, trivial⟩ fun nd => ?_
          refine TK.ret ?_
          try dsimp only [thenQ]
          exact retN (vs := [Enc.v (l41 : (List (List UInt8))), Enc.v ((0 : Int) : Int)]) ⟨rfl, rfl, trivial⟩ (by obtain rfl := some_in hX; rfl) (allVal.mem ⟨v_val _, v_val _, trivial⟩)
        refine TK.iter [4, 5, 16, 17] (fun s env h => match s with | (out38, i39) => ∃ b36 ns36 b37, env = [(4, true, Enc.v ((m1.length : Int) : Int)), (5, true, OX b36 ix29), (16, true, OL (α := (List UInt8)) b37 out38), (17, true, Enc.v (i39 : Int))] ∧ Nd ((b36, RV 23 (pcells (α := UInt8) ns36 ix29 pl30)) :: (b37, RL (α := (List UInt8)) 23 out38) :: zp (α := UInt8) 5 ns36 pl30) ∧ HSub ((b36, RV 23 (pcells (α := UInt8) ns36 ix29 pl30)) :: (b37, RL (α := (List UInt8)) 23 out38) :: zp (α := UInt8) 5 ns36 pl30) h ∧ GP ns36 ix29 pl30) hO35 ⟨b28, ns28, b32, rfl, (Nd.pickT nd 2 (is := [1, 0]) (by decide) (by decide) (len_geF [_, _] _)), (HSub.pickT nd 2 (is := [1, 0]) (by decide) (by decide) (len_geF [_, _] _)), hG28⟩ ?_
        rintro ⟨out38, i39⟩ env h x35x ⟨b36, ns36, b37, rfl, nd, hs, hG36⟩ hX hR35
        refine TK.subH hs ?_
        unfold X.cartridgeref1_Inverse_s35 at hX
        try dsimp only at hX
        refine TK.seq_k fun K43 hK43 => ?_
        refine TK.seq_k fun K44 hK44 => ?_
        refine TK.reg ?_
        refine TL.p (C := cx) (gc := true) (p_mv rfl) rfl rfl ?_
        refine TL.p (C := cx) (gc := true) (p_mv rfl) rfl rfl ?_
        refine TL.p (C := cx) (gc := true) (p_lss rfl rfl) rfl rfl ?_
        refine TL.nil ?_
        refine hK44 _ _ ?_
        refine TK.cond (b := (decide (i39 < (m1.length : Int)))) rfl (fun hc => ?_) (fun hc => ?_)
        · have hX := ite_t hc hX
          refine TK.skip ?_
          refine hK43 _ _ ?_
          refine TK.seq_k fun K45 hK45 => ?_
          refine TK.block ?_
          refine TK.reg ?_
          refine TL.p (C := cx) (gc := true) (p_mv rfl) rfl rfl ?_
          refine TL.p (C := cx) (gc := true) (p_mv rfl) rfl rfl ?_
          refine TL.p (C := cx) (gc := true) (p_mv rfl) rfl rfl ?_
          obtain ⟨q46, hq46, hX⟩ := bind_some hX
          refine TL.p (C := cx) (gc := true) (p_iaP kd22 ty23 rfl rfl rfl nd (j := 0) rfl (fun _ => hq46)) rfl rfl ?_
          refine TL.p (C := cx) (gc := true) (p_ldP ty23 rfl rfl nd (j := 0) rfl (fun _ => hq46) rfl rfl) rfl rfl ?_
          refine TL.p (C := cx) (gc := true) (p_mv rfl) rfl rfl ?_
          obtain ⟨u47, hu47, hX⟩ := bind_some hX
          refine TL.p (C := cx) (gc := true) (p_sliQ (F := [(b36, RV 23 (pcells (α := UInt8) ns36 ix29 pl30)), (b37, RL (α := (List UInt8)) 23 out38)]) (l := (m1.length : Int)) (k := ((pl30.getD q46 []).length : Int)) kd23 ty5 rfl rfl nd hG36 (fun _ => (GP.lt hG36 hq46)) rfl rfl (fun e => need_t hu47)) rfl rfl ?_
          obtain ⟨u48, hu48, hX⟩ := bind_some hX
          refine TL.appN (C := cx) nd kd23 bo23 ty5 rfl rfl (.inl rfl) rfl (Src_QS (F := [(b36, RV 23 (pcells (α := UInt8) ns36 ix29 pl30)), (b37, RL (α := (List UInt8)) 23 out38)]) nd hG36 (GP.lt hG36 hq46) (need_t hu47).1) (by decide) (need_t hu48) rfl fun b49 nd => ?_
          refine TL.lay [(171, L (slc (pl30.getD q46 []) (m1.length : Int) ((pl30.getD q46 []).length : Int)))] nd (j := 0) rfl ⟨⟨_, rfl, fix_OL nd (j := 0) rfl, rfl⟩, trivial⟩ fun nd => ?_
          refine TL.lit (C := cx) ([(slc (pl30.getD q46 []) (m1.length : Int) ((pl30.getD q46 []).length : Int))] : List (List UInt8)) kd22 ty23 rfl ⟨⟨rfl, rfl⟩, trivial⟩ rfl rfl rfl ?_
          obtain ⟨u50, hu50, hX⟩ := bind_some hX
          refine TL.appO (C := cx) nd kd22 bo22 ty23 rfl rfl (j := 1) rfl rfl (Src_L _) (by decide) (need_t hu50) rfl fun nd => ?_
          refine TL.p (C := cx) (gc := true) (p_mv rfl) rfl rfl ?_
          refine TL.nil ?_
          refine hK45 _ _ ?_
          refine TK.reg ?_
          refine TL.p (C := cx) (gc := true) (p_mv rfl) rfl rfl ?_
          refine TL.p (C := cx) (gc := true) (p_add rfl rfl) rfl rfl ?_
          refine TL.p (C := cx) (gc := true) (p_mv rfl) rfl rfl ?_
          refine TL.nil ?_
          exact ⟨_, (some_in hX).symm, b36, ns36, b37, rfl, (Nd.pickT nd 2 (is := [0, 1]) (by decide) (by decide) (len_geF [_, _] _)), (HSub.pickT nd 2 (is := [0, 1]) (by decide) (by decide) (len_geF [_, _] _)), hG36⟩
        · have hX := ite_f hc hX
          refine TK.exit ?_
          obtain rfl := hR35 _ (some_in hX).symm
          exact E35 out38 _ _ ⟨b37, rfl, (Nd.pick nd (is := [1]) (by decide)), (HSub.pick nd (is := [1]) (by decide))⟩ hA35
      refine TK.iter [4, 5, 8] (fun s env h => match s with | (ix25, a26, c27) => ∃ b24 ns24, env = [(4, true, Enc.v ((m1.length : Int) : Int)), (5, true, OX b24 ix25), (8, true, Enc.v (c27 : Int))] ∧ Nd ((b24, RV 23 (pcells (α := UInt8) ns24 ix25 a26)) :: zp (α := UInt8) 5 ns24 a26) ∧ HSub ((b24, RV 23 (pcells (α := UInt8) ns24 ix25 a26)) :: zp (α := UInt8) 5 ns24 a26) h ∧ GP ns24 ix25 a26) hO23 ⟨b18, ns18, rfl, (Nd.pickT nd 1 (is := [0]) (by decide) (by decide) (len_geF [_] _)), (HSub.pickT nd 1 (is := [0]) (by decide) (by decide) (len_geF [_] _)), hG18⟩ ?_
      rintro ⟨ix25, a26, c27⟩ env h x23x ⟨b24, ns24, rfl, nd, hs, hG24⟩ hX hR23
      refine TK.subH hs ?_
      unfold X.cartridgeref1_Inverse_s23 at hX
      try dsimp only at hX
      refine TK.seq_k fun K51 hK51 => ?_
      refine TK.seq_k fun K52 hK52 => ?_
      refine TK.reg ?_
      refine TL.p (C := cx) (gc := true) (p_mv rfl) rfl rfl ?_
      refine TL.p (C := cx) (gc := true) (p_mv rfl) rfl rfl ?_
      refine TL.p (C := cx) (gc := true) (p_lss rfl rfl) rfl rfl ?_
      refine TL.nil ?_
      refine hK52 _ _ ?_
      refine TK.cond (b := (decide (c27 < (m1.length : Int)))) rfl (fun hc => ?_) (fun hc => ?_)
      · have hX := ite_t hc hX
        refine TK.skip ?_
        refine hK51 _ _ ?_
        refine TK.seq_k fun K53 hK53 => ?_
        refine TK.block ?_
        refine TK.seq_k fun K54 hK54 => ?_
        refine TK.reg ?_
        refine TL.p (C := cx) (gc := true) (p_mv rfl) rfl rfl ?_
        refine TL.p (C := cx) (gc := true) (p_mv rfl) rfl rfl ?_
        refine TL.nil ?_
        refine hK54 _ _ ?_
        refine TK.seq_k fun K55 hK55 => ?_
        refine TK.block ?_
        obtain ⟨o56, hO56, hA56⟩ := bind_some hX
        have E56 : ∀ (p60 : Int) (env : Env) (h : Hp), (∃ b59 ns59, keepE [4, 5, 8, 9] env = [(4, true, Enc.v ((m1.length : Int) : Int)), (5, true, OX b59 ix25), (8, true, Enc.v (c27 : Int)), (9, true, Enc.v (p60 : Int))] ∧ Nd ((b59, RV 23 (pcells (α := UInt8) ns59 ix25 a26)) :: zp (α := UInt8) 5 ns59 a26) ∧ HSub ((b59, RV 23 (pcells (α := UInt8) ns59 ix25 a26)) :: zp (α := UInt8) 5 ns59 a26) h ∧ GP ns59 ix25 a26) → X.cartridgeref1_Inverse_e56 m1 ix25 c27 a26 p60 = some x23x → K55 env h := by
          intro p60 env h hE hX
          obtain ⟨b59, ns59, henv, nd, hs, hG59⟩ := hE
          unfold X.cartridgeref1_Inverse_e56 at hX
          refine hK55 _ _ (TK.keep [4, 5, 8, 9] ?_)
          rw [henv]
          refine TK.subH hs ?_
          refine TK.seq_k fun K61 hK61 => ?_
          refine TK.seq_k fun K62 hK62 => ?_
          refine TK.reg ?_
          refine TL.p (C := cx) (gc := true) (p_mv rfl) rfl rfl ?_
          refine TL.p (C := cx) (gc := true) (p_mv rfl) rfl rfl ?_
          refine TL.p (C := cx) (gc := true) (p_eql rfl rfl) rfl rfl ?_
          refine TL.nil ?_
          refine hK62 _ _ ?_
          refine TK.cond (b := (p60 == (m1.length : Int))) rfl (fun hc => ?_) (fun hc => ?_)
          · have hX := ite_t hc hX
            refine TK.seq_k fun K63 hK63 => ?_
            refine TK.reg ?_
            refine TL.p (C := cx) (gc := true) (p_mv rfl) rfl rfl ?_
            refine TL.p (C := cx) (gc := true) (p_mv rfl) rfl rfl ?_
            refine TL.nil ?_
            refine hK63 _ _ ?_
            refine TK.wk 2 (L ([] : (List (List UInt8)))) rfl Wk_nil ?_
            refine TK.ret ?_
            obtain rfl := hR23 _ (some_in hX).symm
            replace hX := hA23
            try dsimp only [thenQ]
            exact retN (vs := [Enc.v (([] : (List (List UInt8))) : (List (List UInt8))), Enc.v ((12 : Int) : Int)]) ⟨rfl, rfl, trivial⟩ (by obtain rfl := some_in hX; rfl) (allVal.mem ⟨v_val _, v_val _, trivial⟩)
          · have hX := ite_f hc hX
            refine TK.skip ?_
            refine hK61 _ _ ?_
            refine TK.seq_k fun K64 hK64 => ?_
            refine TK.reg ?_
            refine TL.p (C := cx) (gc := true) (p_mv rfl) rfl rfl ?_
            refine TL.p (C := cx) (gc := true) (p_mv rfl) rfl rfl ?_
            obtain ⟨q65, hq65, hX⟩ := bind_some hX
            refine TL.p (C := cx) (gc := true) (p_iaP kd22 ty23 rfl rfl rfl nd (j := 0) rfl (fun _ => hq65)) rfl rfl ?_
            refine TL.p (C := cx) (gc := true) (p_ldP ty23 rfl rfl nd (j := 0) rfl (fun _ => hq65) rfl rfl) rfl rfl ?_
            refine TL.p (C := cx) (gc := true) (p_mv rfl) rfl rfl ?_
            refine TL.nil ?_
            refine hK64 _ _ ?_
            refine TK.seq_k fun K66 hK66 => ?_
            refine TK.reg ?_
            refine TL.p (C := cx) (gc := true) (p_mv rfl) rfl rfl ?_
            refine TL.p (C := cx) (gc := true) (p_mv rfl) rfl rfl ?_
            refine TL.p (C := cx) (gc := true) (p_mv rfl) rfl rfl ?_
            refine TL.p (C := cx) (gc := true) (p_mv rfl) rfl rfl ?_
            obtain ⟨q67, hq67, hX⟩ := bind_some hX
            refine TL.p (C := cx) (gc := true) (p_iaP kd22 ty23 rfl rfl rfl nd (j := 0) rfl (fun _ => hq67)) rfl rfl ?_
            refine TL.p (C := cx) (gc := true) (p_ldP ty23 rfl rfl nd (j := 0) rfl (fun _ => hq67) rfl rfl) rfl rfl ?_
            obtain ⟨q68, hq68, hX⟩ := bind_some hX
            refine TL.p (C := cx) (gc := true) (p_iaP kd22 ty23 rfl rfl rfl nd (j := 0) rfl (fun _ => hq68)) rfl rfl ?_
            refine TL.stP (C := cx) (F := [(b59, RV 23 (pcells (α := UInt8) ns59 ix25 a26))]) (i := p60) (q := q67) nd hG59 (GP.lt hG59 hq67) (j := 0) rfl ty23 rfl hq68 rfl rfl fun nd => ?_
            refine TL.cv 5 (OX b59 (ix25.set p60.toNat q67)) rfl (Wk_eq (OX_len (by simp))) ?_
            refine TL.nil ?_
            refine hK66 _ _ ?_
            refine TK.seq_k fun K69 hK69 => ?_
            refine TK.reg ?_
            refine TL.p (C := cx) (gc := true) (p_mv rfl) rfl rfl ?_
            refine TL.p (C := cx) (gc := true) (p_mv rfl) rfl rfl ?_
            obtain ⟨e70, he70, hX⟩ := bind_some hX
            refine TL.p (C := cx) (gc := true) (p_iaQ (F := [(b59, RV 23 (pcells (α := UInt8) ns59 (ix25.set p60.toNat q67) a26))]) kd23 ty5 rfl rfl rfl nd (GP.put hG59 (p60 : Int).toNat (GP.lt hG59 hq67)) (fun _ => (GP.lt hG59 hq65)) (fun _ => he70)) rfl rfl ?_
            refine TL.p (C := cx) (gc := true) (p_ldQ (F := [(b59, RV 23 (pcells (α := UInt8) ns59 (ix25.set p60.toNat q67) a26))]) (a := e70) ty5 rfl rfl nd (GP.put hG59 (p60 : Int).toNat (GP.lt hG59 hq67)) (fun _ => (GP.lt hG59 hq65)) (fun _ => he70) rfl rfl) rfl rfl ?_
            obtain ⟨r71, hr71, hX⟩ := bind_some hX
            refine TL.cvX rfl rfl rfl (fun _ => ⟨rfl, ⟨rfl, trivial⟩⟩) (fun e => ok_cartridgeref1_Inv e70 _ hr71) ?_
            refine TL.p (C := cx) (gc := true) (p_mv rfl) rfl rfl ?_
            refine TL.nil ?_
            refine hK69 _ _ ?_
            refine TK.seq_k fun K72 hK72 => ?_
            refine TK.seq_k fun K73 hK73 => ?_
            refine TK.reg ?_
            refine TL.p (C := cx) (gc := true) (p_mv rfl) rfl rfl ?_
            refine TL.nil ?_
            refine hK73 _ _ ?_
            refine TK.block ?_
            obtain ⟨o74, hO74, hA74⟩ := bind_some hX
            have E74 : ∀ (pl80 : List (List UInt8)) (env : Env) (h : Hp), (∃ b79 ns79, keepE [4, 5, 8, 10] env = [(4, true, Enc.v ((m1.length : Int) : Int)), (5, true, OX b79 (ix25.set p60.toNat q67)), (8, true, Enc.v (c27 : Int)), (10, true, pcell (α := UInt8) ns79 pl80 q65)] ∧ Nd ((b79, RV 23 (pcells (α := UInt8) ns79 (ix25.set p60.toNat q67) pl80)) :: zp (α := UInt8) 5 ns79 pl80) ∧ HSub ((b79, RV 23 (pcells (α := UInt8) ns79 (ix25.set p60.toNat q67) pl80)) :: zp (α := UInt8) 5 ns79 pl80) h ∧ GP ns79 (ix25.set p60.toNat q67) pl80 ∧ q65 < (pl80).length) → X.cartridgeref1_Inverse_e74 ix25 p60 q67 c27 m1 q65 pl80 = some x23x → K72 env h := by
              intro pl80 env h hE hX
              obtain ⟨b79, ns79, henv, nd, hs, hG79, hq81⟩ := hE
              unfold X.cartridgeref1_Inverse_e74 at hX
              refine hK72 _ _ (TK.keep [4, 5, 8, 10] ?_)
              rw [henv]
              refine TK.subH hs ?_
              refine TK.seq_k fun K82 hK82 => ?_
              refine TK.reg ?_
              refine TL.p (C := cx) (gc := true) (p_mv rfl) rfl rfl ?_
              refine TL.p (C := cx) (gc := true) (p_mv rfl) rfl rfl ?_
              refine TL.p (C := cx) (gc := true) (p_mv rfl) rfl rfl ?_
              obtain ⟨q83, hq83, hX⟩ := bind_some hX
              refine TL.p (C := cx) (gc := true) (p_iaP kd22 ty23 rfl rfl rfl nd (j := 0) rfl (fun _ => hq83)) rfl rfl ?_
              refine TL.stP (C := cx) (F := [(b79, RV 23 (pcells (α := UInt8) ns79 (ix25.set p60.toNat q67) pl80))]) (i := c27) (q := q65) nd hG79 hq81 (j := 0) rfl ty23 rfl hq83 rfl rfl fun nd => ?_
              refine TL.cv 5 (OX b79 ((ix25.set p60.toNat q67).set c27.toNat q65)) rfl (Wk_eq (OX_len (by simp))) ?_
              refine TL.nil ?_
              refine hK82 _ _ ?_
              refine TK.seq_k fun K84 hK84 => ?_
              refine TK.reg ?_
              refine TL.p (C := cx) (gc := true) (p_mv rfl) rfl rfl ?_
              refine TL.nil ?_
              refine hK84 _ _ ?_
              refine TK.block ?_
              obtain ⟨o85, hO85, hA85⟩ := bind_some hX
              have E85 : ∀ (pl91 : List (List UInt8)) (env : Env) (h : Hp), (∃ b90 ns90, keepE [4, 5, 8] env = [(4, true, Enc.v ((m1.length : Int) : Int)), (5, true, OX b90 ((ix25.set p60.toNat q67).set c27.toNat q65)), (8, true, Enc.v (c27 : Int))] ∧ Nd ((b90, RV 23 (pcells (α := UInt8) ns90 ((ix25.set p60.toNat q67).set c27.toNat q65) pl91)) :: zp (α := UInt8) 5 ns90 pl91) ∧ HSub ((b90, RV 23 (pcells (α := UInt8) ns90 ((ix25.set p60.toNat q67).set c27.toNat q65) pl91)) :: zp (α := UInt8) 5 ns90 pl91) h ∧ GP ns90 ((ix25.set p60.toNat q67).set c27.toNat q65) pl91) → X.cartridgeref1_Inverse_e85 ix25 p60 q67 c27 q65 pl91 = some x23x → K53 env h := by
                intro pl91 env h hE hX
                obtain ⟨b90, ns90, henv, nd, hs, hG90⟩ := hE
                unfold X.cartridgeref1_Inverse_e85 at hX
                refine hK53 _ _ (TK.keep [4, 5, 8] ?_)
                rw [henv]
                refine TK.subH hs ?_
                refine TK.reg ?_
                refine TL.p (C := cx) (gc := true) (p_mv rfl) rfl rfl ?_
                refine TL.p (C := cx) (gc := true) (p_add rfl rfl) rfl rfl ?_
                refine TL.p (C := cx) (gc := true) (p_mv rfl) rfl rfl ?_
                refine TL.nil ?_
                exact ⟨_, (some_in hX).symm, b90, ns90, rfl, (Nd.pickT nd 1 (is := [0]) (by decide) (by decide) (len_geF [_] _)), (HSub.pickT nd 1 (is := [0]) (by decide) (by decide) (len_geF [_] _)), hG90⟩
              refine TK.iter [4, 5, 8, 10, 13] (fun s env h => match s with | (a87, i89) => ∃ b86 ns86, env = [(4, true, Enc.v ((m1.length : Int) : Int)), (5, true, OX b86 ((ix25.set p60.toNat q67).set c27.toNat q65)), (8, true, Enc.v (c27 : Int)), (10, true, pcell (α := UInt8) ns86 a87 q65), (13, true, Enc.v (i89 : Int))] ∧ Nd ((b86, RV 23 (pcells (α := UInt8) ns86 ((ix25.set p60.toNat q67).set c27.toNat q65) a87)) :: zp (α := UInt8) 5 ns86 a87) ∧ HSub ((b86, RV 23 (pcells (α := UInt8) ns86 ((ix25.set p60.toNat q67).set c27.toNat q65) a87)) :: zp (α := UInt8) 5 ns86 a87) h ∧ GP ns86 ((ix25.set p60.toNat q67).set c27.toNat q65) a87 ∧ q65 < (a87).length) hO85 ⟨b79, ns79, rfl, (Nd.pickT nd 1 (is := [0]) (by decide) (by decide) (len_geF [_] _)), (HSub.pickT nd 1 (is := [0]) (by decide) (by decide) (len_geF [_] _)), (GP.put hG79 (c27 : Int).toNat hq81), hq81⟩ ?_
              rintro ⟨a87, i89⟩ env h x85x ⟨b86, ns86, rfl, nd, hs, hG86, hq88⟩ hX hR85
              refine TK.subH hs ?_
              unfold X.cartridgeref1_Inverse_s85 at hX
              try dsimp only at hX
              refine TK.seq_k fun K92 hK92 => ?_
              refine TK.seq_k fun K93 hK93 => ?_
              refine TK.reg ?_
              refine TL.p (C := cx) (gc := true) (p_mv rfl) rfl rfl ?_
              refine TL.p (C := cx) (gc := true) (p_mv rfl) rfl rfl ?_
              refine TL.p (C := cx) (gc := true) (p_lss rfl rfl) rfl rfl ?_
              refine TL.nil ?_
              refine hK93 _ _ ?_
              refine TK.cond (b := (decide (i89 < (m1.length : Int)))) rfl (fun hc => ?_) (fun hc => ?_)
              · have hX := ite_t hc hX
                refine TK.skip ?_
                refine hK92 _ _ ?_
                refine TK.seq_k fun K94 hK94 => ?_
                refine TK.block ?_
                refine TK.seq_k fun K95 hK95 => ?_
                refine TK.reg ?_
                refine TL.p (C := cx) (gc := true) (p_mv rfl) rfl rfl ?_
                refine TL.p (C := cx) (gc := true) (p_mv rfl) rfl rfl ?_
                obtain ⟨q96, hq96, hX⟩ := bind_some hX
                refine TL.p (C := cx) (gc := true) (p_iaP kd22 ty23 rfl rfl rfl nd (j := 0) rfl (fun _ => hq96)) rfl rfl ?_
                refine TL.p (C := cx) (gc := true) (p_ldP ty23 rfl rfl nd (j := 0) rfl (fun _ => hq96) rfl rfl) rfl rfl ?_
                refine TL.p (C := cx) (gc := true) (p_mv rfl) rfl rfl ?_
                obtain ⟨e97, he97, hX⟩ := bind_some hX
                refine TL.p (C := cx) (gc := true) (p_iaQ (F := [(b86, RV 23 (pcells (α := UInt8) ns86 ((ix25.set p60.toNat q67).set c27.toNat q65) a87))]) kd23 ty5 rfl rfl rfl nd hG86 (fun _ => (GP.lt hG86 hq96)) (fun _ => he97)) rfl rfl ?_
                refine TL.p (C := cx) (gc := true) (p_ldQ (F := [(b86, RV 23 (pcells (α := UInt8) ns86 ((ix25.set p60.toNat q67).set c27.toNat q65) a87))]) (a := e97) ty5 rfl rfl nd hG86 (fun _ => (GP.lt hG86 hq96)) (fun _ => he97) rfl rfl) rfl rfl ?_
                refine TL.p (C := cx) (gc := true) (p_mv rfl) rfl rfl ?_
                refine TL.nil ?_
                refine hK95 _ _ ?_
                refine TK.seq_k fun K98 hK98 => ?_
                refine TK.reg ?_
                refine TL.p (C := cx) (gc := true) (p_mv rfl) rfl rfl ?_
                refine TL.nil ?_
                refine hK98 _ _ ?_
                refine TK.block ?_
                obtain ⟨o99, hO99, hA99⟩ := bind_some hX
                have E99 : ∀ (pl105 : List (List UInt8)) (env : Env) (h : Hp), (∃ b104 ns104, keepE [4, 5, 8, 10, 13] env = [(4, true, Enc.v ((m1.length : Int) : Int)), (5, true, OX b104 ((ix25.set p60.toNat q67).set c27.toNat q65)), (8, true, Enc.v (c27 : Int)), (10, true, pcell (α := UInt8) ns104 pl105 q65), (13, true, Enc.v (i89 : Int))] ∧ Nd ((b104, RV 23 (pcells (α := UInt8) ns104 ((ix25.set p60.toNat q67).set c27.toNat q65) pl105)) :: zp (α := UInt8) 5 ns104 pl105) ∧ HSub ((b104, RV 23 (pcells (α := UInt8) ns104 ((ix25.set p60.toNat q67).set c27.toNat q65) pl105)) :: zp (α := UInt8) 5 ns104 pl105) h ∧ GP ns104 ((ix25.set p60.toNat q67).set c27.toNat q65) pl105 ∧ q65 < (pl105).length) → X.cartridgeref1_Inverse_e99 i89 pl105 = some x85x → K94 env h := by
                  intro pl105 env h hE hX
                  obtain ⟨b104, ns104, henv, nd, hs, hG104, hq106⟩ := hE
                  unfold X.cartridgeref1_Inverse_e99 at hX
                  refine hK94 _ _ (TK.keep [4, 5, 8, 10, 13] ?_)
                  rw [henv]
                  refine TK.subH hs ?_
                  refine TK.reg ?_
                  refine TL.p (C := cx) (gc := true) (p_mv rfl) rfl rfl ?_
                  refine TL.p (C := cx) (gc := true) (p_add rfl rfl) rfl rfl ?_
                  refine TL.p (C := cx) (gc := true) (p_mv rfl) rfl rfl ?_
                  refine TL.nil ?_
                  exact ⟨_, (some_in hX).symm, b104, ns104, rfl, (Nd.pickT nd 1 (is := [0]) (by decide) (by decide) (len_geF [_] _)), (HSub.pickT nd 1 (is := [0]) (by decide) (by decide) (len_geF [_] _)), hG104, hq106⟩
                refine TK.iter [4, 5, 8, 10, 13, 14, 15] (fun s env h => match s with | (a101, k103) => ∃ b100 ns100, env = [(4, true, Enc.v ((m1.length : Int) : Int)), (5, true, OX b100 ((ix25.set p60.toNat q67).set c27.toNat q65)), (8, true, Enc.v (c27 : Int)), (10, true, pcell (α := UInt8) ns100 a101 q65), (13, true, Enc.v (i89 : Int)), (14, true, Enc.v (e97 : UInt8)), (15, true, Enc.v (k103 : Int))] ∧ Nd ((b100, RV 23 (pcells (α := UInt8) ns100 ((ix25.set p60.toNat q67).set c27.toNat q65) a101)) :: zp (α := UInt8) 5 ns100 a101) ∧ HSub ((b100, RV 23 (pcells (α := UInt8) ns100 ((ix25.set p60.toNat q67).set c27.toNat q65) a101)) :: zp (α := UInt8) 5 ns100 a101) h ∧ GP ns100 ((ix25.set p60.toNat q67).set c27.toNat q65) a101 ∧ q65 < (a101).length) hO99 ⟨b86, ns86, rfl, (Nd.pickT nd 1 (is := [0]) (by decide) (by decide) (len_geF [_] _)), (HSub.pickT nd 1 (is := [0]) (by decide) (by decide) (len_geF [_] _)), hG86, hq88⟩ ?_
                rintro ⟨a101, k103⟩ env h x99x ⟨b100, ns100, rfl, nd, hs, hG100, hq102⟩ hX hR99
                refine TK.subH hs ?_
                unfold X.cartridgeref1_Inverse_s99 at hX
                try dsimp only at hX
                refine TK.seq_k fun K107 hK107 => ?_
                refine TK.seq_k fun K108 hK108 => ?_
                refine TK.reg ?_
                refine TL.p (C := cx) (gc := true) (p_mv rfl) rfl rfl ?_
                refine TL.p (C := cx) (gc := true) (p_mv rfl) rfl rfl ?_
                refine TL.p (C := cx) (gc := true) (p_mul rfl rfl) rfl rfl ?_
                refine TL.p (C := cx) (gc := true) (p_lss rfl rfl) rfl rfl ?_
                refine TL.p (C := cx) (gc := true) (p_mv rfl) rfl rfl ?_
                refine TL.p (C := cx) (gc := ((decide (k103 < (wr ((2 : Int) * (m1.length : Int))))))) (p_mv rfl (hg := fun e => rfl)) (gcT1 rfl) rfl ?_
                refine TL.p (C := cx) (gc := ((decide (k103 < (wr ((2 : Int) * (m1.length : Int))))))) (p_mv rfl (hg := fun e => rfl)) (gcT1 rfl) rfl ?_
                refine TL.p (C := cx) (gc := ((decide (k103 < (wr ((2 : Int) * (m1.length : Int))))))) (p_neq rfl rfl (hg := fun e => ⟨e, e⟩)) (gcT1 rfl) rfl ?_
                refine TL.p (C := cx) (gc := true) (p_and rfl rfl (fun e => ⟨rfl, fun h => h⟩)) rfl rfl ?_
                refine TL.p (C := cx) (gc := true) (p_mv rfl) rfl rfl ?_
                refine TL.p (C := cx) (gc := (((decide (k103 < (wr ((2 : Int) * (m1.length : Int))))) && (i89 != c27)))) (p_mv rfl (hg := fun e => rfl)) (gcT1 rfl) rfl ?_
                refine TL.p (C := cx) (gc := (((decide (k103 < (wr ((2 : Int) * (m1.length : Int))))) && (i89 != c27)))) (p8_neq (a := e97) (b := (0 : UInt8)) rfl rfl (hg := fun e => ⟨e, rfl⟩)) (gcT1 rfl) rfl ?_
                refine TL.p (C := cx) (gc := true) (p_and rfl rfl (fun e => ⟨rfl, fun h => h⟩)) rfl rfl ?_
                refine TL.nil ?_
                refine hK108 _ _ ?_
                refine TK.cond (b := (((decide (k103 < (wr ((2 : Int) * (m1.length : Int))))) && (i89 != c27)) && (e97 != (0 : UInt8)))) rfl (fun hc => ?_) (fun hc => ?_)
                · have hX := ite_t hc hX
                  refine TK.skip ?_
                  refine hK107 _ _ ?_
                  refine TK.seq_k fun K109 hK109 => ?_
                  refine TK.block ?_
                  refine TK.endK fun KD hKD => ?_
                  refine TK.drwXe [(0, 0), (0, 1), (1, 2), (1, 3), (0, 4), (0, 5), (0, 6), (1, 7), (1, 8), (0, 9), (1, 10), (1, 11), (0, 12), (0, 13), (0, 14), (1, 15), (1, 16), (0, 17), (0, 18), (1, 19), (2, 20)] mixed (by kernel_rfl) ?_
                  refine DR0 (gc := true) rfl (vok_p (C := cx) (p_mv rfl)) rfl rfl ?_
                  refine DR0 (gc := true) rfl (vok_p (C := cx) (p_mv rfl)) rfl rfl ?_
                  obtain ⟨q110, hq110, hX⟩ := bind_some hX
                  refine DR1e (gc := true) rfl (vok_p (C := cx) (p_iaP kd22 ty23 rfl rfl rfl nd (j := 0) rfl (fun _ => hq110))) rfl rfl ?_
                  refine DR1e (gc := true) rfl (vok_p (C := cx) (p_ldP ty23 rfl rfl nd (j := 0) rfl (fun _ => hq110) rfl rfl)) rfl rfl ?_
                  refine DR0 (gc := true) rfl (vok_p (C := cx) (p_mv rfl)) rfl rfl ?_
                  refine DR0 (gc := true) rfl (vok_p (C := cx) (p_mv rfl)) rfl rfl ?_
                  refine DR0 (gc := true) rfl (vok_p (C := cx) (p_mv rfl)) rfl rfl ?_
                  obtain ⟨q111, hq111, hX⟩ := bind_some hX
                  refine DR1e (gc := true) rfl (vok_p (C := cx) (p_iaP kd22 ty23 rfl rfl rfl nd (j := 0) rfl (fun _ => hq111))) rfl rfl ?_
                  refine DR1e (gc := true) rfl (vok_p (C := cx) (p_ldP ty23 rfl rfl nd (j := 0) rfl (fun _ => hq111) rfl rfl)) rfl rfl ?_
                  refine DR0 (gc := true) rfl (vok_p (C := cx) (p_mv rfl)) rfl rfl ?_
                  obtain ⟨e112, he112, hX⟩ := bind_some hX
                  refine DR1e (gc := true) rfl (vok_p (C := cx) (p_iaQ (F := [(b100, RV 23 (pcells (α := UInt8) ns100 ((ix25.set p60.toNat q67).set c27.toNat q65) a101))]) kd23 ty5 rfl rfl rfl nd hG100 (fun _ => (GP.lt hG100 hq111)) (fun _ => he112))) rfl rfl ?_
                  refine DR1e (gc := true) rfl (vok_p (C := cx) (p_ldQ (F := [(b100, RV 23 (pcells (α := UInt8) ns100 ((ix25.set p60.toNat q67).set c27.toNat q65) a101))]) (a := e112) ty5 rfl rfl nd hG100 (fun _ => (GP.lt hG100 hq111)) (fun _ => he112) rfl rfl)) rfl rfl ?_
                  refine DR0 (gc := true) rfl (vok_p (C := cx) (p_mv rfl)) rfl rfl ?_
                  refine DR0 (gc := true) rfl (vok_p (C := cx) (p_mv rfl)) rfl rfl ?_
                  refine DR0 (gc := true) rfl (vok_p (C := cx) (p_mv rfl)) rfl rfl ?_
                  obtain ⟨e113, he113, hX⟩ := bind_some hX
                  refine DR1e (gc := true) rfl (vok_p (C := cx) (p_iaQ (F := [(b100, RV 23 (pcells (α := UInt8) ns100 ((ix25.set p60.toNat q67).set c27.toNat q65) a101))]) kd23 ty5 rfl rfl rfl nd hG100 (fun _ => hq102) (fun _ => he113))) rfl rfl ?_
                  refine DR1e (gc := true) rfl (vok_p (C := cx) (p_ldQ (F := [(b100, RV 23 (pcells (α := UInt8) ns100 ((ix25.set p60.toNat q67).set c27.toNat q65) a101))]) (a := e113) ty5 rfl rfl nd hG100 (fun _ => hq102) (fun _ => he113) rfl rfl)) rfl rfl ?_
                  obtain ⟨r114, hr114, hX⟩ := bind_some hX
                  refine DR0 (gc := true) rfl (vok_c rfl (fun _ => ⟨rfl, ⟨rfl, ⟨rfl, trivial⟩⟩⟩) (fun e => ok_cartridgeref1_Mul e97 e113 _ hr114)) rfl rfl ?_
                  refine DR0 (gc := true) rfl (vok_p (C := cx) (p8_xor (a := e112) (b := r114) rfl rfl)) rfl rfl ?_
                  obtain ⟨e115, he115, hX⟩ := bind_some hX
                  refine DR1e (gc := true) rfl (vok_p (C := cx) (p_iaQ (F := [(b100, RV 23 (pcells (α := UInt8) ns100 ((ix25.set p60.toNat q67).set c27.toNat q65) a101))]) kd23 ty5 rfl rfl rfl nd hG100 (fun _ => (GP.lt hG100 hq110)) (fun _ => he115))) rfl rfl ?_
                  refine DR2en rfl ?_
                  refine TL.stQ (C := cx) (F := [(b100, RV 23 (pcells (α := UInt8) ns100 ((ix25.set p60.toNat q67).set c27.toNat q65) a101))]) (lu := Enc.cl ((e112 ^^^ r114) : UInt8)) (a' := (e112 ^^^ r114)) nd hG100 (GP.lt hG100 hq110) (j := 0) rfl ty5 rfl he115 rfl (Cells_v ((e112 ^^^ r114) : UInt8)) rfl (WkL_refl _) fun nd => ?_
                  refine TL.nil ⟨rfl, ?_⟩
                  refine DRende ?_
                  refine hKD _ _ ?_
                  refine TL.cv 10 (pcell (α := UInt8) ns100 (a101.set q110 ((a101.getD q110 []).set k103.toNat (e112 ^^^ r114))) q65) rfl (Wk_eq (pcell_turn (by simp)).symm) ?_
                  refine TL.nil ?_
                  refine hK109 _ _ ?_
                  refine TK.reg ?_
                  refine TL.p (C := cx) (gc := true) (p_mv rfl) rfl rfl ?_
                  refine TL.p (C := cx) (gc := true) (p_add rfl rfl) rfl rfl ?_
                  refine TL.p (C := cx) (gc := true) (p_mv rfl) rfl rfl ?_
                  refine TL.nil ?_
                  exact ⟨_, (some_in hX).symm, b100, ns100, rfl, (Nd.pickT nd 1 (is := [0]) (by decide) (by decide) (len_geF [_] _)), (HSub.pickT nd 1 (is := [0]) (by decide) (by decide) (len_geF [_] _)), (GP.turn hG100), (lt_set hq102)⟩
                · have hX := ite_f hc hX
                  refine TK.exit ?_
                  obtain rfl := hR99 _ (some_in hX).symm
                  exact E99 a101 _ _ ⟨b100, ns100, rfl, (Nd.pickT nd 1 (is := [0]) (by decide) (by decide) (len_geF [_] _)), (HSub.pickT nd 1 (is := [0]) (by decide) (by decide) (len_geF [_] _)), hG100, hq102⟩ hA99
              · have hX := ite_f hc hX
                refine TK.exit ?_
                obtain rfl := hR85 _ (some_in hX).symm
                exact E85 a87 _ _ ⟨b86, ns86, rfl, (Nd.pickT nd 1 (is := [0]) (by decide) (by decide) (len_geF [_] _)), (HSub.pickT nd 1 (is := [0]) (by decide) (by decide) (len_geF [_] _)), hG86⟩ hA85
            refine TK.iter [4, 5, 8, 10, 11, 12] (fun s env h => match s with | (a76, k78) => ∃ b75 ns75, env = [(4, true, Enc.v ((m1.length : Int) : Int)), (5, true, OX b75 (ix25.set p60.toNat q67)), (8, true, Enc.v (c27 : Int)), (10, true, pcell (α := UInt8) ns75 a76 q65), (11, true, Enc.v (r71 : UInt8)), (12, true, Enc.v (k78 : Int))] ∧ Nd ((b75, RV 23 (pcells (α := UInt8) ns75 (ix25.set p60.toNat q67) a76)) :: zp (α := UInt8) 5 ns75 a76) ∧ HSub ((b75, RV 23 (pcells (α := UInt8) ns75 (ix25.set p60.toNat q67) a76)) :: zp (α := UInt8) 5 ns75 a76) h ∧ GP ns75 (ix25.set p60.toNat q67) a76 ∧ q65 < (a76).length) hO74 ⟨b59, ns59, rfl, (Nd.pickT nd 1 (is := [0]) (by decide) (by decide) (len_geF [_] _)), (HSub.pickT nd 1 (is := [0]) (by decide) (by decide) (len_geF [_] _)), (GP.put hG59 (p60 : Int).toNat (GP.lt hG59 hq67)), (GP.lt hG59 hq65)⟩ ?_
            rintro ⟨a76, k78⟩ env h x74x ⟨b75, ns75, rfl, nd, hs, hG75, hq77⟩ hX hR74
            refine TK.subH hs ?_
            unfold X.cartridgeref1_Inverse_s74 at hX
            try dsimp only at hX
            refine TK.seq_k fun K116 hK116 => ?_
            refine TK.seq_k fun K117 hK117 => ?_
            refine TK.reg ?_
            refine TL.p (C := cx) (gc := true) (p_mv rfl) rfl rfl ?_
            refine TL.p (C := cx) (gc := true) (p_mv rfl) rfl rfl ?_
            refine TL.p (C := cx) (gc := true) (p_mul rfl rfl) rfl rfl ?_
            refine TL.p (C := cx) (gc := true) (p_lss rfl rfl) rfl rfl ?_
            refine TL.nil ?_
            refine hK117 _ _ ?_
            refine TK.cond (b := (decide (k78 < (wr ((2 : Int) * (m1.length : Int)))))) rfl (fun hc => ?_) (fun hc => ?_)
            · have hX := ite_t hc hX
              refine TK.skip ?_
              refine hK116 _ _ ?_
              refine TK.seq_k fun K118 hK118 => ?_
              refine TK.block ?_
              refine TK.reg ?_
              refine TL.p (C := cx) (gc := true) (p_mv rfl) rfl rfl ?_
              refine TL.p (C := cx) (gc := true) (p_mv rfl) rfl rfl ?_
              refine TL.p (C := cx) (gc := true) (p_mv rfl) rfl rfl ?_
              refine TL.p (C := cx) (gc := true) (p_mv rfl) rfl rfl ?_
              obtain ⟨e119, he119, hX⟩ := bind_some hX
              refine TL.p (C := cx) (gc := true) (p_iaQ (F := [(b75, RV 23 (pcells (α := UInt8) ns75 (ix25.set p60.toNat q67) a76))]) kd23 ty5 rfl rfl rfl nd hG75 (fun _ => hq77) (fun _ => he119)) rfl rfl ?_
              refine TL.p (C := cx) (gc := true) (p_ldQ (F := [(b75, RV 23 (pcells (α := UInt8) ns75 (ix25.set p60.toNat q67) a76))]) (a := e119) ty5 rfl rfl nd hG75 (fun _ => hq77) (fun _ => he119) rfl rfl) rfl rfl ?_
              refine TL.p (C := cx) (gc := true) (p_mv rfl) rfl rfl ?_
              obtain ⟨r120, hr120, hX⟩ := bind_some hX
              refine TL.cvX rfl rfl rfl (fun _ => ⟨rfl, ⟨rfl, ⟨rfl, trivial⟩⟩⟩) (fun e => ok_cartridgeref1_Mul e119 r71 _ hr120) ?_
              obtain ⟨e121, he121, hX⟩ := bind_some hX
              refine TL.p (C := cx) (gc := true) (p_iaQ (F := [(b75, RV 23 (pcells (α := UInt8) ns75 (ix25.set p60.toNat q67) a76))]) kd23 ty5 rfl rfl rfl nd hG75 (fun _ => hq77) (fun _ => he121)) rfl rfl ?_
              refine TL.stQ (C := cx) (F := [(b75, RV 23 (pcells (α := UInt8) ns75 (ix25.set p60.toNat q67) a76))]) (lu := Enc.cl (r120 : UInt8)) (a' := r120) nd hG75 hq77 (j := 0) rfl ty5 rfl he121 rfl (Cells_v (r120 : UInt8)) rfl (WkL_refl _) fun nd => ?_
              refine TL.cv 10 (pcell (α := UInt8) ns75 (a76.set q65 ((a76.getD q65 []).set k78.toNat r120)) q65) rfl (Wk_eq (pcell_turn (by simp)).symm) ?_
              refine TL.nil ?_
              refine hK118 _ _ ?_
              refine TK.reg ?_
              refine TL.p (C := cx) (gc := true) (p_mv rfl) rfl rfl ?_
              refine TL.p (C := cx) (gc := true) (p_add rfl rfl) rfl rfl ?_
              refine TL.p (C := cx) (gc := true) (p_mv rfl) rfl rfl ?_
              refine TL.nil ?_
              exact ⟨_, (some_in hX).symm, b75, ns75, rfl, (Nd.pickT nd 1 (is := [0]) (by decide) (by decide) (len_geF [_] _)), (HSub.pickT nd 1 (is := [0]) (by decide) (by decide) (len_geF [_] _)), (GP.turn hG75), (lt_set hq77)⟩
            · have hX := ite_f hc hX
              refine TK.exit ?_
              obtain rfl := hR74 _ (some_in hX).symm
              exact E74 a76 _ _ ⟨b75, ns75, rfl, (Nd.pickT nd 1 (is := [0]) (by decide) (by decide) (len_geF [_] _)), (HSub.pickT nd 1 (is := [0]) (by decide) (by decide) (len_geF [_] _)), hG75, hq77⟩ hA74
        refine TK.iter [4, 5, 8, 9] (fun s env h => match s with | p58 => ∃ b57 ns57, env = [(4, true, Enc.v ((m1.length : Int) : Int)), (5, true, OX b57 ix25), (8, true, Enc.v (c27 : Int)), (9, true, Enc.v (p58 : Int))] ∧ Nd ((b57, RV 23 (pcells (α := UInt8) ns57 ix25 a26)) :: zp (α := UInt8) 5 ns57 a26) ∧ HSub ((b57, RV 23 (pcells (α := UInt8) ns57 ix25 a26)) :: zp (α := UInt8) 5 ns57 a26) h ∧ GP ns57 ix25 a26) hO56 ⟨b24, ns24, rfl, (Nd.pickT nd 1 (is := [0]) (by decide) (by decide) (len_geF [_] _)), (HSub.pickT nd 1 (is := [0]) (by decide) (by decide) (len_geF [_] _)), hG24⟩ ?_
        rintro p58 env h x56x ⟨b57, ns57, rfl, nd, hs, hG57⟩ hX hR56
        refine TK.subH hs ?_
        unfold X.cartridgeref1_Inverse_s56 at hX
        try dsimp only at hX
        refine TK.seq_k fun K122 hK122 => ?_
        refine TK.seq_k fun K123 hK123 => ?_
        refine TK.reg ?_
        refine TL.p (C := cx) (gc := true) (p_mv rfl) rfl rfl ?_
        refine TL.p (C := cx) (gc := true) (p_mv rfl) rfl rfl ?_
        refine TL.p (C := cx) (gc := true) (p_lss rfl rfl) rfl rfl ?_
        refine TL.p (C := cx) (gc := true) (p_mv rfl) rfl rfl ?_
        refine TL.p (C := cx) (gc := ((decide (p58 < (m1.length : Int))))) (p_mv rfl (hg := fun e => rfl)) (gcT1 rfl) rfl ?_
        refine TL.p (C := cx) (gc := ((decide (p58 < (m1.length : Int))))) (p_mv rfl (hg := fun e => rfl)) (gcT1 rfl) rfl ?_
        obtain ⟨q124, hq124, hX⟩ := bind_some hX
        refine TL.p (C := cx) (gc := ((decide (p58 < (m1.length : Int))))) (p_iaP kd22 ty23 rfl rfl rfl nd (j := 0) rfl (fun e => optG_t hq124 e) (hg := fun e => ⟨e, e⟩)) (gcT1 rfl) rfl ?_
        refine TL.p (C := cx) (gc := ((decide (p58 < (m1.length : Int))))) (p_ldP ty23 rfl rfl nd (j := 0) rfl (fun e => optG_t hq124 e) rfl rfl (hg := fun e => e)) (gcT1 rfl) rfl ?_
        refine TL.p (C := cx) (gc := ((decide (p58 < (m1.length : Int))))) (p_mv rfl (hg := fun e => rfl)) (gcT1 rfl) rfl ?_
        obtain ⟨e125, he125, hX⟩ := bind_some hX
        refine TL.p (C := cx) (gc := ((decide (p58 < (m1.length : Int))))) (p_iaQ (F := [(b57, RV 23 (pcells (α := UInt8) ns57 ix25 a26))]) kd23 ty5 rfl rfl rfl nd hG57 (fun e => GP.lt hG57 (optG_t hq124 e)) (fun e => optG_t he125 e) (hg := fun e => ⟨e, e⟩)) (gcT1 rfl) rfl ?_
        refine TL.p (C := cx) (gc := ((decide (p58 < (m1.length : Int))))) (p_ldQ (F := [(b57, RV 23 (pcells (α := UInt8) ns57 ix25 a26))]) (a := e125) ty5 rfl rfl nd hG57 (fun e => GP.lt hG57 (optG_t hq124 e)) (fun e => optG_t he125 e) rfl rfl (hg := fun e => e)) (gcT1 rfl) rfl ?_
        refine TL.p (C := cx) (gc := ((decide (p58 < (m1.length : Int))))) (p8_eql (a := e125) (b := (0 : UInt8)) rfl rfl (hg := fun e => ⟨e, rfl⟩)) (gcT1 rfl) rfl ?_
        refine TL.p (C := cx) (gc := true) (p_and rfl rfl (fun e => ⟨rfl, fun h => h⟩)) rfl rfl ?_
        refine TL.nil ?_
        refine hK123 _ _ ?_
        refine TK.cond (b := ((decide (p58 < (m1.length : Int))) && (e125 == (0 : UInt8)))) rfl (fun hc => ?_) (fun hc => ?_)
        · have hX := ite_t hc hX
          refine TK.skip ?_
          refine hK122 _ _ ?_
          refine TK.block ?_
          refine TK.reg ?_
          refine TL.p (C := cx) (gc := true) (p_mv rfl) rfl rfl ?_
          refine TL.p (C := cx) (gc := true) (p_add rfl rfl) rfl rfl ?_
          refine TL.p (C := cx) (gc := true) (p_mv rfl) rfl rfl ?_
          refine TL.nil ?_
          exact ⟨_, (some_in hX).symm, b57, ns57, rfl, (Nd.pickT nd 1 (is := [0]) (by decide) (by decide) (len_geF [_] _)), (HSub.pickT nd 1 (is := [0]) (by decide) (by decide) (len_geF [_] _)), hG57⟩
        · have hX := ite_f hc hX
          refine TK.exit ?_
          obtain rfl := hR56 _ (some_in hX).symm
          exact E56 p58 _ _ ⟨b57, ns57, rfl, (Nd.pickT nd 1 (is := [0]) (by decide) (by decide) (len_geF [_] _)), (HSub.pickT nd 1 (is := [0]) (by decide) (by decide) (len_geF [_] _)), hG57⟩ hA56
      · have hX := ite_f hc hX
        refine TK.exit ?_
        obtain rfl := hR23 _ (some_in hX).symm
        exact E23 ix25 a26 _ _ ⟨b24, ns24, rfl, (Nd.pickT nd 1 (is := [0]) (by decide) (by decide) (len_geF [_] _)), (HSub.pickT nd 1 (is := [0]) (by decide) (by decide) (len_geF [_] _)), hG24⟩ hA23
    refine TK.iter [0, 4, 5, 6] (fun s env h => match s with | (ix15, a16, i17) => ∃ b14 ns14, env = [(0, true, Enc.v (m1 : (List (List UInt8)))), (4, true, Enc.v ((m1.length : Int) : Int)), (5, true, OX b14 ix15), (6, true, Enc.v (i17 : Int))] ∧ Nd ((b14, RV 23 (pcells (α := UInt8) ns14 ix15 a16)) :: zp (α := UInt8) 5 ns14 a16) ∧ HSub ((b14, RV 23 (pcells (α := UInt8) ns14 ix15 a16)) :: zp (α := UInt8) 5 ns14 a16) h ∧ GP ns14 ix15 a16) hO13 ⟨b10, [], rfl, (Nd.pickT nd 1 (is := [0]) (by decide) (by decide) (len_geF [_] _)), (HSub.pickT nd 1 (is := [0]) (by decide) (by decide) (len_geF [_] _)), GP.nil⟩ ?_
    rintro ⟨ix15, a16, i17⟩ env h x13x ⟨b14, ns14, rfl, nd, hs, hG14⟩ hX hR13
    refine TK.subH hs ?_
    unfold X.cartridgeref1_Inverse_s13 at hX
    try dsimp only at hX
    refine TK.seq_k fun K126 hK126 => ?_
    refine TK.seq_k fun K127 hK127 => ?_
    refine TK.reg ?_
    refine TL.p (C := cx) (gc := true) (p_mv rfl) rfl rfl ?_
    refine TL.p (C := cx) (gc := true) (p_mv rfl) rfl rfl ?_
    refine TL.p (C := cx) (gc := true) (p_lss rfl rfl) rfl rfl ?_
    refine TL.nil ?_
    refine hK127 _ _ ?_
    refine TK.cond (b := (decide (i17 < (m1.length : Int)))) rfl (fun hc => ?_) (fun hc => ?_)
    · have hX := ite_t hc hX
      refine TK.skip ?_
      refine hK126 _ _ ?_
      refine TK.seq_k fun K128 hK128 => ?_
      refine TK.block ?_
      refine TK.seq_k fun K129 hK129 => ?_
      refine TK.reg ?_
      refine TL.p (C := cx) (gc := true) (p_mv rfl) rfl rfl ?_
      refine TL.p (C := cx) (gc := true) (p_mv rfl) rfl rfl ?_
      obtain ⟨e130, he130, hX⟩ := bind_some hX
      refine TL.p (C := cx) (gc := true) (p_iaL (xs := m1) kd22 ty23 rfl rfl rfl (fun _ => he130)) rfl rfl ?_
      refine TL.p (C := cx) (gc := true) (p_ldE (xs := m1) (a := e130) (e130 : (List UInt8)) ty23 rfl rfl (fun _ => he130) rfl rfl rfl) rfl rfl ?_
      obtain ⟨u131, hu131, hX⟩ := bind_some hX
      refine TL.appN (C := cx) nd kd23 bo23 ty5 rfl rfl (.inl rfl) rfl (Src_L _) (by decide) (need_t hu131) rfl fun b132 nd => ?_
      refine TL.p (C := cx) (gc := true) (p_mv rfl) rfl rfl ?_
      obtain ⟨u133, hu133, hX⟩ := bind_some hX
      refine TL.appOZ (C := cx) nd (0 : UInt8) kd23 kd3 ty5 rfl (fun j hj => by (have : j = 0 := by simpa [Enc.sz] using hj); subst this; rfl) rfl (j := 0) rfl rfl (need_t hu133).1 (by decide) (need_t hu133).2 rfl fun nd => ?_
      refine TL.p (C := cx) (gc := true) (p_mv rfl) rfl rfl ?_
      refine TL.nil ?_
      refine hK129 _ _ ?_
      refine TK.seq_k fun K134 hK134 => ?_
      refine TK.reg ?_
      refine TL.p (C := cx) (gc := true) (p_mv rfl) rfl rfl ?_
      refine TL.p (C := cx) (gc := true) (p_mv rfl) rfl rfl ?_
      refine TL.p (C := cx) (gc := true) (p_mv rfl) rfl rfl ?_
      refine TL.p (C := cx) (gc := true) (p_add rfl rfl) rfl rfl ?_
      obtain ⟨e135, he135, hX⟩ := bind_some hX
      refine TL.p (C := cx) (gc := true) (p_iaO (xs := (e130 ++ (List.replicate (m1.length : Int).toNat (0 : UInt8)))) kd23 ty5 rfl rfl rfl nd (j := 0) rfl (fun _ => he135)) rfl rfl ?_
      refine TL.stW (C := cx) (xs := (e130 ++ (List.replicate (m1.length : Int).toNat (0 : UInt8)))) (i := (wr ((m1.length : Int) + i17))) (lu := Enc.cl ((1 : UInt8) : UInt8)) (a' := (1 : UInt8)) nd ty5 rfl (j := 0) rfl (by simp [Enc.sz]) (inb_of he135 (by simp)) rfl (Cells_v ((1 : UInt8) : UInt8)) rfl (WkL_refl _) fun nd => ?_
      refine TL.cv 7 (OL b132 ((e130 ++ (List.replicate (m1.length : Int).toNat (0 : UInt8))).set (wr ((m1.length : Int) + i17)).toNat (1 : UInt8))) rfl (Wk_eq (OL_len (by simp))) ?_
      refine TL.nil ?_
      refine hK134 _ _ ?_
      refine TK.reg ?_
      refine TL.p (C := cx) (gc := true) (p_mv rfl) rfl rfl ?_
      refine TL.p (C := cx) (gc := true) (p_mv rfl) rfl rfl ?_
      refine TL.litP (C := cx) nd kd22 ty23 rfl rfl (j := 0) rfl rfl ?_
      obtain ⟨u136, hu136, hX⟩ := bind_some hX
      refine TL.appP (C := cx) (F := [(b132, RL (α := UInt8) 5 ((e130 ++ (List.replicate (m1.length : Int).toNat (0 : UInt8))).set (wr ((m1.length : Int) + i17)).toNat (1 : UInt8))), (b14, RV 23 (pcells (α := UInt8) ns14 ix15 a16))]) nd kd22 bo22 ty23 rfl rfl (j := 1) rfl (j2 := 0) rfl rfl hG14 rfl (by decide) (need_t hu136) rfl fun nd => ?_
      refine TL.p (C := cx) (gc := true) (p_mv rfl) rfl rfl ?_
      refine TL.nil ?_
      refine hK128 _ _ ?_
      refine TK.reg ?_
      refine TL.p (C := cx) (gc := true) (p_mv rfl) rfl rfl ?_
      refine TL.p (C := cx) (gc := true) (p_add rfl rfl) rfl rfl ?_
      refine TL.p (C := cx) (gc := true) (p_mv rfl) rfl rfl ?_
      refine TL.nil ?_
      exact ⟨_, (some_in hX).symm, b14, (ns14 ++ [b132]), rfl, (Nd.pickT nd 1 (is := [0]) (by decide) (by decide) (len_geF [_] _)), (HSub.pickT nd 1 (is := [0]) (by decide) (by decide) (len_geF [_] _)), (GP.push hG14)⟩
    · have hX := ite_f hc hX
      refine TK.exit ?_
      obtain rfl := hR13 _ (some_in hX).symm
      exact E13 ix15 a16 _ _ ⟨b14, ns14, rfl, (Nd.pickT nd 1 (is := [0]) (by decide) (by decide) (len_geF [_] _)), (HSub.pickT nd 1 (is := [0]) (by decide) (by decide) (len_geF [_] _)), hG14⟩ hA13

/-- cartridge/cartridgeref1.Decode -/
theorem ok_cartridgeref1_Decode (have1 : (List (List UInt8))) (data2 : Int) (r : ((List (List UInt8)) × Int)) (hX : X.cartridgeref1_Decode have1 data2 = some r) : Fun Try.prog 31 [Enc.v (have1 : (List (List UInt8))), Enc.v (data2 : Int)] (· = .tup 2 (ofL [Enc.v r.1, Enc.v r.2])) := by
  refine Fun.of b31 (Nat.le_of_ble_eq_true rfl) (allVal.mem ⟨(by exact (v_val _)), (by exact (v_val _)), trivial⟩) ?_
  unfold k31
  have nd : Nd [] := Nd_nil
  unfold X.cartridgeref1_Decode at hX
  refine TK.seq_k fun K3 hK3 => ?_
  refine TK.reg ?_
  refine TL.p (C := cx) (gc := true) (p_mv rfl) rfl rfl ?_
  refine TL.p (C := cx) (gc := true) (p_mv rfl) rfl rfl ?_
  refine TL.nil ?_
  refine hK3 _ _ ?_
  refine TK.seq_k fun K4 hK4 => ?_
  refine TK.seq_k fun K5 hK5 => ?_
  refine TK.reg ?_
  refine TL.p (C := cx) (gc := true) (p_mv rfl) rfl rfl ?_
  refine TL.p (C := cx) (gc := true) (p_lss rfl rfl) rfl rfl ?_
  refine TL.p (C := cx) (gc := true) (p_mv rfl) rfl rfl ?_
  refine TL.p (C := cx) (gc := (!((decide (data2 < (1 : Int)))))) (p_mv rfl (hg := fun e => rfl)) (gcF1 rfl) rfl ?_
  refine TL.p (C := cx) (gc := (!((decide (data2 < (1 : Int)))))) (p_mv rfl (hg := fun e => rfl)) (gcF1 rfl) rfl ?_
  refine TL.p (C := cx) (gc := (!((decide (data2 < (1 : Int)))))) (p_lenL (xs := have1) kd22 rfl (hg := fun e => e)) (gcF1 rfl) rfl ?_
  refine TL.p (C := cx) (gc := (!((decide (data2 < (1 : Int)))))) (p_gtr rfl rfl (hg := fun e => ⟨e, e⟩)) (gcF1 rfl) rfl ?_
  refine TL.p (C := cx) (gc := true) (p_or rfl rfl (fun e => ⟨rfl, fun h => (not_t h)⟩)) rfl rfl ?_
  refine TL.p (C := cx) (gc := true) (p_mv rfl) rfl rfl ?_
  refine TL.p (C := cx) (gc := (!(((decide (data2 < (1 : Int))) || (decide (data2 > (have1.length : Int))))))) (p_mv rfl (hg := fun e => rfl)) (gcF1 rfl) rfl ?_
  refine TL.p (C := cx) (gc := (!(((decide (data2 < (1 : Int))) || (decide (data2 > (have1.length : Int))))))) (p_lenL (xs := have1) kd22 rfl (hg := fun e => e)) (gcF1 rfl) rfl ?_
  refine TL.p (C := cx) (gc := (!(((decide (data2 < (1 : Int))) || (decide (data2 > (have1.length : Int))))))) (p_gtr rfl rfl (hg := fun e => ⟨e, rfl⟩)) (gcF1 rfl) rfl ?_
  refine TL.p (C := cx) (gc := true) (p_or rfl rfl (fun e => ⟨rfl, fun h => (not_t h)⟩)) rfl rfl ?_
  refine TL.nil ?_
  refine hK5 _ _ ?_
  refine TK.cond (b := (((decide (data2 < (1 : Int))) || (decide (data2 > (have1.length : Int)))) || (decide ((have1.length : Int) > (255 : Int))))) rfl (fun hc => ?_) (fun hc => ?_)
  · have hX := ite_t hc hX
    refine TK.seq_k fun K6 hK6 => ?_
    refine TK.reg ?_
    refine TL.p (C := cx) (gc := true) (p_mv rfl) rfl rfl ?_
    refine TL.p (C := cx) (gc := true) (p_mv rfl) rfl rfl ?_
    refine TL.nil ?_
    refine hK6 _ _ ?_
    refine TK.wk 4 (L ([] : (List (List UInt8)))) rfl Wk_nil ?_
    refine TK.ret ?_
    try dsimp only [thenQ]
    exact retN (vs := [Enc.v (([] : (List (List UInt8))) : (List (List UInt8))), Enc.v ((1 : Int) : Int)]) ⟨rfl, rfl, trivial⟩ (by obtain rfl := some_in hX; rfl) (allVal.mem ⟨v_val _, v_val _, trivial⟩)
  · have hX := ite_f hc hX
    refine TK.skip ?_
    refine hK4 _ _ ?_
    refine TK.seq_k fun K7 hK7 => ?_
    refine TK.reg ?_
    refine TL.p (C := cx) (gc := true) (p_mv rfl) rfl rfl ?_
    refine TL.nil ?_
    refine hK7 _ _ ?_
    refine TK.ownL (α := Int) 6 3 nd rfl (.inl rfl) fun b8 nd => ?_
    refine TK.seq_k fun K9 hK9 => ?_
    refine TK.reg ?_
    refine TL.p (C := cx) (gc := true) (p_mv rfl) rfl rfl ?_
    refine TL.nil ?_
    refine hK9 _ _ ?_
    refine TK.seq_k fun K10 hK10 => ?_
    refine TK.seq_k fun K11 hK11 => ?_
    refine TK.reg ?_
    refine TL.p (C := cx) (gc := true) (p_mv rfl) rfl rfl ?_
    refine TL.nil ?_
    refine hK11 _ _ ?_
    refine TK.block ?_
    obtain ⟨o12, hO12, hA12⟩ := bind_some hX
    have E12 : ∀ (l18 : List Int) (size19 : Int) (env : Env) (h : Hp), (∃ b17, keepE [0, 1, 6, 7] env = [(0, true, Enc.v (have1 : (List (List UInt8)))), (1, true, Enc.v (data2 : Int)), (6, true, OL (α := Int) b17 l18), (7, true, Enc.v (size19 : Int))] ∧ Nd [(b17, RL (α := Int) 3 l18)] ∧ HSub [(b17, RL (α := Int) 3 l18)] h) → X.cartridgeref1_Decode_e12 data2 have1 l18 size19 = some r → K10 env h := by
      intro l18 size19 env h hE hX
      obtain ⟨b17, henv, nd, hs⟩ := hE
      unfold X.cartridgeref1_Decode_e12 at hX
      refine hK10 _ _ (TK.keep [0, 1, 6, 7] ?_)
      rw [henv]
      refine TK.subH hs ?_
      refine TK.seq_k fun K20 hK20 => ?_
      refine TK.seq_k fun K21 hK21 => ?_
      refine TK.reg ?_
      refine TL.p (C := cx) (gc := true) (p_mv rfl) rfl rfl ?_
      refine TL.p (C := cx) (gc := true) (p_lenR kd46 rfl (fun _ => refOK_of nd (j := 0) rfl rfl)) rfl rfl ?_
      refine TL.p (C := cx) (gc := true) (p_eql rfl rfl) rfl rfl ?_
      refine TL.nil ?_
      refine hK21 _ _ ?_
      refine TK.cond (b := ((l18.length : Int) == (0 : Int))) rfl (fun hc => ?_) (fun hc => ?_)
      · have hX := ite_t hc hX
        refine TK.seq_k fun K22 hK22 => ?_
        refine TK.reg ?_
        refine TL.p (C := cx) (gc := true) (p_mv rfl) rfl rfl ?_
        refine TL.p (C := cx) (gc := true) (p_mv rfl) rfl rfl ?_
        refine TL.nil ?_
        refine hK22 _ _ ?_
        refine TK.wk 4 (L ([] : (List (List UInt8)))) rfl Wk_nil ?_
        refine TK.ret ?_
        try dsimp only [thenQ]
        exact retN (vs := [Enc.v (([] : (List (List UInt8))) : (List (List UInt8))), Enc.v ((1 : Int) : Int)]) ⟨rfl, rfl, trivial⟩ (by obtain rfl := some_in hX; rfl) (allVal.mem ⟨v_val _, v_val _, trivial⟩)
      · have hX := ite_f hc hX
        refine TK.skip ?_
        refine hK20 _ _ ?_
        refine TK.seq_k fun K23 hK23 => ?_
        refine TK.seq_k fun K24 hK24 => ?_
        refine TK.reg ?_
        refine TL.p (C := cx) (gc := true) (p_mv rfl) rfl rfl ?_
        refine TL.p (C := cx) (gc := true) (p_lenR kd46 rfl (fun _ => refOK_of nd (j := 0) rfl rfl)) rfl rfl ?_
        refine TL.p (C := cx) (gc := true) (p_mv rfl) rfl rfl ?_
        refine TL.p (C := cx) (gc := true) (p_lss rfl rfl) rfl rfl ?_
        refine TL.nil ?_
        refine hK24 _ _ ?_
        refine TK.cond (b := (decide ((l18.length : Int) < data2))) rfl (fun hc => ?_) (fun hc => ?_)
        · have hX := ite_t hc hX
          refine TK.seq_k fun K25 hK25 => ?_
          refine TK.reg ?_
          refine TL.p (C := cx) (gc := true) (p_mv rfl) rfl rfl ?_
          refine TL.p (C := cx) (gc := true) (p_mv rfl) rfl rfl ?_
          refine TL.nil ?_
          refine hK25 _ _ ?_
          refine TK.wk 4 (L ([] : (List (List UInt8)))) rfl Wk_nil ?_
          refine TK.ret ?_
          try dsimp only [thenQ]
          exact retN (vs := [Enc.v (([] : (List (List UInt8))) : (List (List UInt8))), Enc.v ((10 : Int) : Int)]) ⟨rfl, rfl, trivial⟩ (by obtain rfl := some_in hX; rfl) (allVal.mem ⟨v_val _, v_val _, trivial⟩)
        · have hX := ite_f hc hX
          refine TK.skip ?_
          refine hK23 _ _ ?_
          refine TK.seq_k fun K26 hK26 => ?_
          refine TK.reg ?_
          refine TL.p (C := cx) (gc := true) (p_mv rfl) rfl rfl ?_
          refine TL.nil ?_
          refine hK26 _ _ ?_
          refine TK.ownL (α := (List UInt8)) 9 23 nd rfl (.inl rfl) fun b27 nd => ?_
          refine TK.seq_k fun K28 hK28 => ?_
          refine TK.reg ?_
          refine TL.p (C := cx) (gc := true) (p_mv rfl) rfl rfl ?_
          refine TL.p (C := cx) (gc := true) (p_mv rfl) rfl rfl ?_
          refine TL.p (C := cx) (gc := true) (p_lenL (xs := have1) kd22 rfl) rfl rfl ?_
          refine TL.p (C := cx) (gc := true) (p_mv rfl) rfl rfl ?_
          refine TL.p (C := cx) (gc := true) (p_sub rfl rfl) rfl rfl ?_
          obtain ⟨r29, hr29, hX⟩ := bind_some hX
          refine TL.cvX rfl rfl rfl (fun _ => ⟨rfl, ⟨rfl, ⟨rfl, trivial⟩⟩⟩) (fun e => ok_cartridgeref1_Cauchy data2 (wr ((have1.length : Int) - data2)) _ hr29) ?_
          refine TL.p (C := cx) (gc := true) (p_mv rfl) rfl rfl ?_
          refine TL.p (C := cx) (gc := true) (p_ex rfl rfl (by decide)) rfl rfl ?_
          refine TL.p (C := cx) (gc := true) (p_ex rfl rfl (by decide)) rfl rfl ?_
          refine TL.p (C := cx) (gc := true) (p_mv rfl) rfl rfl ?_
          refine TL.p (C := cx) (gc := true) (p_mv rfl) rfl rfl ?_
          refine TL.nil ?_
          refine hK28 _ _ ?_
          refine TK.seq_k fun K30 hK30 => ?_
          refine TK.seq_k fun K31 hK31 => ?_
          refine TK.reg ?_
          refine TL.p (C := cx) (gc := true) (p_mv rfl) rfl rfl ?_
          refine TL.nil ?_
          refine hK31 _ _ ?_
          refine TK.block ?_
          obtain ⟨o32, hO32, hA32⟩ := bind_some hX
          have E32 : ∀ (l39 : List (List UInt8)) (env : Env) (h : Hp), (∃ b37 b38, keepE [0, 1, 6, 7, 9] env = [(0, true, Enc.v (have1 : (List (List UInt8)))), (1, true, Enc.v (data2 : Int)), (6, true, OL (α := Int) b37 l18), (7, true, Enc.v (size19 : Int)), (9, true, OL (α := (List UInt8)) b38 l39)] ∧ Nd [(b37, RL (α := Int) 3 l18), (b38, RL (α := (List UInt8)) 23 l39)] ∧ HSub [(b37, RL (α := Int) 3 l18), (b38, RL (α := (List UInt8)) 23 l39)] h) → X.cartridgeref1_Decode_e32 data2 size19 l18 have1 l39 = some r → K30 env h := by
            intro l39 env h hE hX
            obtain ⟨b37, b38, henv, nd, hs⟩ := hE
            unfold X.cartridgeref1_Decode_e32 at hX
            refine hK30 _ _ (TK.keep [0, 1, 6, 7, 9] ?_)
            rw [henv]
            refine TK.subH hs ?_
            refine TK.seq_k fun K40 hK40 => ?_
            refine TK.reg ?_
            refine TL.p (C := cx) (gc := true) (p_mv rfl) rfl rfl ?_
            refine TL.lay [(118, L l39)] nd (j := 1) rfl ⟨⟨_, rfl, fix_OL nd (j := 1) rfl, rfl⟩, trivial⟩ fun nd => ?_
            obtain ⟨r41, hr41, hX⟩ := bind_some hX
            refine TL.cvX rfl rfl rfl (fun _ => ⟨rfl, ⟨rfl, trivial⟩⟩) (fun e => ok_cartridgeref1_Inverse l39 _ hr41) ?_
            refine TL.p (C := cx) (gc := true) (p_mv rfl) rfl rfl ?_
            refine TL.p (C := cx) (gc := true) (p_ex rfl rfl (by decide)) rfl rfl ?_
            refine TL.p (C := cx) (gc := true) (p_ex rfl rfl (by decide)) rfl rfl ?_
            refine TL.p (C := cx) (gc := true) (p_mv rfl) rfl rfl ?_
            refine TL.p (C := cx) (gc := true) (p_mv rfl) rfl rfl ?_
            refine TL.nil ?_
            refine hK40 _ _ ?_
            refine TK.seq_k fun K42 hK42 => ?_
            refine TK.seq_k fun K43 hK43 => ?_
            refine TK.reg ?_
            refine TL.p (C := cx) (gc := true) (p_mv rfl) rfl rfl ?_
            refine TL.p (C := cx) (gc := true) (p_neq rfl rfl) rfl rfl ?_
            refine TL.nil ?_
            refine hK43 _ _ ?_
            refine TK.cond (b := (r41.2 != (0 : Int))) rfl (fun hc => ?_) (fun hc => ?_)
            · have hX := ite_t hc hX
              refine TK.seq_k fun K44 hK44 => ?_
              refine TK.reg ?_
              refine TL.p (C := cx) (gc := true) (p_mv rfl) rfl rfl ?_
              refine TL.p (C := cx) (gc := true) (p_mv rfl) rfl rfl ?_
              refine TL.p (C := cx) (gc := true) (p_mv rfl) rfl rfl ?_
              refine TL.nil ?_
              refine hK44 _ _ ?_
              refine TK.wk 4 (L ([] : (List (List UInt8)))) rfl Wk_nil ?_
              refine TK.ret ?_
              try dsimp only [thenQ]
              exact retN (vs := [Enc.v (([] : (List (List UInt8))) : (List (List UInt8))), Enc.v (r41.2 : Int)]) ⟨rfl, rfl, trivial⟩ (by obtain rfl := some_in hX; rfl) (allVal.mem ⟨v_val _, v_val _, trivial⟩)
            · have hX := ite_f hc hX
              refine TK.skip ?_
              refine hK42 _ _ ?_
              refine TK.seq_k fun K45 hK45 => ?_
              refine TK.reg ?_
              refine TL.p (C := cx) (gc := true) (p_mv rfl) rfl rfl ?_
              refine TL.nil ?_
              refine hK45 _ _ ?_
              refine TK.ownL (α := (List UInt8)) 16 23 nd rfl (.inl rfl) fun b46 nd => ?_
              refine TK.seq_k fun K47 hK47 => ?_
              refine TK.seq_k fun K48 hK48 => ?_
              refine TK.reg ?_
              refine TL.p (C := cx) (gc := true) (p_mv rfl) rfl rfl ?_
              refine TL.nil ?_
              refine hK48 _ _ ?_
              refine TK.block ?_
              obtain ⟨o49, hO49, hA49⟩ := bind_some hX
              have E49 : ∀ (l55 : List (List UInt8)) (env : Env) (h : Hp), (∃ b54, keepE [16] env = [(16, true, OL (α := (List UInt8)) b54 l55)] ∧ Nd [(b54, RL (α := (List UInt8)) 23 l55)] ∧ HSub [(b54, RL (α := (List UInt8)) 23 l55)] h) → X.cartridgeref1_Decode_e49 l55 = some r → K47 env h := by
                intro l55 env h hE hX
                obtain ⟨b54, henv, nd, hs⟩ := hE
                unfold X.cartridgeref1_Decode_e49 at hX
                refine hK47 _ _ (TK.keep [16] ?_)
                rw [henv]
                refine TK.subH hs ?_
                refine TK.seq_k fun K56 hK56 => ?_
                refine TK.reg ?_
                refine TL.p (C := cx) (gc := true) (p_mv rfl) rfl rfl ?_
                refine TL.p (C := cx) (gc := true) (p_mv rfl) rfl rfl ?_
                refine TL.p (C := cx) (gc := true) (p_mv rfl) rfl rfl ?_
                refine TL.nil ?_
                refine hK56 _ _ ?_
                refine TK.lay [(4, L l55)] nd (j := 0) rfl ⟨⟨_, rfl, fix_OL nd (j := 0) rfl, rfl⟩, trivial⟩ fun nd => ?_
                refine TK.ret ?_
                try dsimp only [thenQ]
                exact retN (vs := [Enc.v (l55 : (List (List UInt8))), Enc.v ((0 : Int) : Int)]) ⟨rfl, rfl, trivial⟩ (by obtain rfl := some_in hX; rfl) (allVal.mem ⟨v_val _, v_val _, trivial⟩)
              refine TK.iter [0, 1, 6, 7, 14, 16, 17] (fun s env h => match s with | (out52, j53) => ∃ b50 b51, env = [(0, true, Enc.v (have1 : (List (List UInt8)))), (1, true, Enc.v (data2 : Int)), (6, true, OL (α := Int) b50 l18), (7, true, Enc.v (size19 : Int)), (14, true, Enc.v (r41.1 : (List (List UInt8)))), (16, true, OL (α := (List UInt8)) b51 out52), (17, true, Enc.v (j53 : Int))] ∧ Nd [(b50, RL (α := Int) 3 l18), (b51, RL (α := (List UInt8)) 23 out52)] ∧ HSub [(b50, RL (α := Int) 3 l18), (b51, RL (α := (List UInt8)) 23 out52)] h) hO49 ⟨b37, b46, rfl, (Nd.pick nd (is := [1, 0]) (by decide)), (HSub.pick nd (is := [1, 0]) (by decide))⟩ ?_
              rintro ⟨out52, j53⟩ env h x49x ⟨b50, b51, rfl, nd, hs⟩ hX hR49
              refine TK.subH hs ?_
              unfold X.cartridgeref1_Decode_s49 at hX
              try dsimp only at hX
              refine TK.seq_k fun K57 hK57 => ?_
              refine TK.seq_k fun K58 hK58 => ?_
              refine TK.reg ?_
              refine TL.p (C := cx) (gc := true) (p_mv rfl) rfl rfl ?_
              refine TL.p (C := cx) (gc := true) (p_mv rfl) rfl rfl ?_
              refine TL.p (C := cx) (gc := true) (p_lss rfl rfl) rfl rfl ?_
              refine TL.nil ?_
              refine hK58 _ _ ?_
              refine TK.cond (b := (decide (j53 < data2))) rfl (fun hc => ?_) (fun hc => ?_)
              · have hX := ite_t hc hX
                refine TK.skip ?_
                refine hK57 _ _ ?_
                refine TK.seq_k fun K59 hK59 => ?_
                refine TK.block ?_
                refine TK.seq_k fun K60 hK60 => ?_
                refine TK.reg ?_
                refine TL.p (C := cx) (gc := true) (p_mv rfl) rfl rfl ?_
                obtain ⟨u61, hu61, hX⟩ := bind_some hX
                refine TL.mkO (C := cx) nd (0 : UInt8) kd23 ty5 rfl (fun j hj => by (have : j = 0 := by simpa [Enc.sz] using hj); subst this; rfl) rfl rfl (by decide) (need_t hu61) rfl fun b62 nd => ?_
                refine TL.p (C := cx) (gc := true) (p_mv rfl) rfl rfl ?_
                refine TL.nil ?_
                refine hK60 _ _ ?_
                refine TK.seq_k fun K63 hK63 => ?_
                refine TK.seq_k fun K64 hK64 => ?_
                refine TK.reg ?_
                refine TL.p (C := cx) (gc := true) (p_mv rfl) rfl rfl ?_
                refine TL.nil ?_
                refine hK64 _ _ ?_
                refine TK.block ?_
                obtain ⟨o65, hO65, hA65⟩ := bind_some hX
                have E65 : ∀ (l74 : List UInt8) (env : Env) (h : Hp), (∃ b71 b72 b73, keepE [0, 1, 6, 7, 14, 16, 17, 18] env = [(0, true, Enc.v (have1 : (List (List UInt8)))), (1, true, Enc.v (data2 : Int)), (6, true, OL (α := Int) b71 l18), (7, true, Enc.v (size19 : Int)), (14, true, Enc.v (r41.1 : (List (List UInt8)))), (16, true, OL (α := (List UInt8)) b72 out52), (17, true, Enc.v (j53 : Int)), (18, true, OL (α := UInt8) b73 l74)] ∧ Nd [(b71, RL (α := Int) 3 l18), (b72, RL (α := (List UInt8)) 23 out52), (b73, RL (α := UInt8) 5 l74)] ∧ HSub [(b71, RL (α := Int) 3 l18), (b72, RL (α := (List UInt8)) 23 out52), (b73, RL (α := UInt8) 5 l74)] h) → X.cartridgeref1_Decode_e65 out52 j53 l74 = some x49x → K63 env h := by
                  intro l74 env h hE hX
                  obtain ⟨b71, b72, b73, henv, nd, hs⟩ := hE
                  unfold X.cartridgeref1_Decode_e65 at hX
                  refine hK63 _ _ (TK.keep [0, 1, 6, 7, 14, 16, 17, 18] ?_)
                  rw [henv]
                  refine TK.subH hs ?_
                  refine TK.reg ?_
                  refine TL.p (C := cx) (gc := true) (p_mv rfl) rfl rfl ?_
                  refine TL.p (C := cx) (gc := true) (p_mv rfl) rfl rfl ?_
                  refine TL.lay [(169, L l74)] nd (j := 2) rfl ⟨⟨_, rfl, fix_OL nd (j := 2) rfl, rfl⟩, trivial⟩ fun nd => ?_
                  refine TL.lit (C := cx) ([l74] : List (List UInt8)) kd22 ty23 rfl ⟨⟨rfl, rfl⟩, trivial⟩ rfl rfl rfl ?_
                  obtain ⟨u75, hu75, hX⟩ := bind_some hX
                  refine TL.appO (C := cx) nd kd22 bo22 ty23 rfl rfl (j := 1) rfl rfl (Src_L _) (by decide) (need_t hu75) rfl fun nd => ?_
                  refine TL.p (C := cx) (gc := true) (p_mv rfl) rfl rfl ?_
                  refine TL.nil ?_
                  refine hK59 _ _ ?_
                  refine TK.reg ?_
                  refine TL.p (C := cx) (gc := true) (p_mv rfl) rfl rfl ?_
                  refine TL.p (C := cx) (gc := true) (p_add rfl rfl) rfl rfl ?_
                  refine TL.p (C := cx) (gc := true) (p_mv rfl) rfl rfl ?_
                  refine TL.nil ?_
                  exact ⟨_, (some_in hX).symm, b71, b72, rfl, (Nd.pick nd (is := [0, 1]) (by decide)), (HSub.pick nd (is := [0, 1]) (by decide))⟩
                refine TK.iter [0, 1, 6, 7, 14, 16, 17, 18, 19] (fun s env h => match s with | (row69, k70) => ∃ b66 b67 b68, env = [(0, true, Enc.v (have1 : (List (List UInt8)))), (1, true, Enc.v (data2 : Int)), (6, true, OL (α := Int) b66 l18), (7, true, Enc.v (size19 : Int)), (14, true, Enc.v (r41.1 : (List (List UInt8)))), (16, true, OL (α := (List UInt8)) b67 out52), (17, true, Enc.v (j53 : Int)), (18, true, OL (α := UInt8) b68 row69), (19, true, Enc.v (k70 : Int))] ∧ Nd [(b66, RL (α := Int) 3 l18), (b67, RL (α := (List UInt8)) 23 out52), (b68, RL (α := UInt8) 5 row69)] ∧ HSub [(b66, RL (α := Int) 3 l18), (b67, RL (α := (List UInt8)) 23 out52), (b68, RL (α := UInt8) 5 row69)] h) hO65 ⟨b50, b51, b62, rfl, (Nd.pick nd (is := [1, 2, 0]) (by decide)), (HSub.pick nd (is := [1, 2, 0]) (by decide))⟩ ?_
                rintro ⟨row69, k70⟩ env h x65x ⟨b66, b67, b68, rfl, nd, hs⟩ hX hR65
                refine TK.subH hs ?_
                unfold X.cartridgeref1_Decode_s65 at hX
                try dsimp only at hX
                refine TK.seq_k fun K76 hK76 => ?_
                refine TK.seq_k fun K77 hK77 => ?_
                refine TK.reg ?_
                refine TL.p (C := cx) (gc := true) (p_mv rfl) rfl rfl ?_
                refine TL.p (C := cx) (gc := true) (p_mv rfl) rfl rfl ?_
                refine TL.p (C := cx) (gc := true) (p_lss rfl rfl) rfl rfl ?_
                refine TL.nil ?_
                refine hK77 _ _ ?_
                refine TK.cond (b := (decide (k70 < size19))) rfl (fun hc => ?_) (fun hc => ?_)
                · have hX := ite_t hc hX
                  refine TK.skip ?_
                  refine hK76 _ _ ?_
                  refine TK.seq_k fun K78 hK78 => ?_
                  refine TK.block ?_
                  refine TK.seq_k fun K79 hK79 => ?_
                  refine TK.reg ?_
                  refine TL.p (C := cx) (gc := true) (p_mv rfl) rfl rfl ?_
                  refine TL.nil ?_
                  refine hK79 _ _ ?_
                  refine TK.block ?_
                  obtain ⟨o80, hO80, hA80⟩ := bind_some hX
                  have E80 : ∀ (l89 : List UInt8) (env : Env) (h : Hp), (∃ b86 b87 b88, keepE [0, 1, 6, 7, 14, 16, 17, 18, 19] env = [(0, true, Enc.v (have1 : (List (List UInt8)))), (1, true, Enc.v (data2 : Int)), (6, true, OL (α := Int) b86 l18), (7, true, Enc.v (size19 : Int)), (14, true, Enc.v (r41.1 : (List (List UInt8)))), (16, true, OL (α := (List UInt8)) b87 out52), (17, true, Enc.v (j53 : Int)), (18, true, OL (α := UInt8) b88 l89), (19, true, Enc.v (k70 : Int))] ∧ Nd [(b86, RL (α := Int) 3 l18), (b87, RL (α := (List UInt8)) 23 out52), (b88, RL (α := UInt8) 5 l89)] ∧ HSub [(b86, RL (α := Int) 3 l18), (b87, RL (α := (List UInt8)) 23 out52), (b88, RL (α := UInt8) 5 l89)] h) → X.cartridgeref1_Decode_e80 k70 l89 = some x65x → K78 env h := by
                    intro l89 env h hE hX
                    obtain ⟨b86, b87, b88, henv, nd, hs⟩ := hE
                    unfold X.cartridgeref1_Decode_e80 at hX
                    refine hK78 _ _ (TK.keep [0, 1, 6, 7, 14, 16, 17, 18, 19] ?_)
                    rw [henv]
                    refine TK.subH hs ?_
                    refine TK.reg ?_
                    refine TL.p (C := cx) (gc := true) (p_mv rfl) rfl rfl ?_
                    refine TL.p (C := cx) (gc := true) (p_add rfl rfl) rfl rfl ?_
                    refine TL.p (C := cx) (gc := true) (p_mv rfl) rfl rfl ?_
                    refine TL.nil ?_
                    exact ⟨_, (some_in hX).symm, b86, b87, b88, rfl, (Nd.pick nd (is := [0, 1, 2]) (by decide)), (HSub.pick nd (is := [0, 1, 2]) (by decide))⟩
                  refine TK.iter [0, 1, 6, 7, 14, 16, 17, 18, 19, 20] (fun s env h => match s with | (row84, i85) => ∃ b81 b82 b83, env = [(0, true, Enc.v (have1 : (List (List UInt8)))), (1, true, Enc.v (data2 : Int)), (6, true, OL (α := Int) b81 l18), (7, true, Enc.v (size19 : Int)), (14, true, Enc.v (r41.1 : (List (List UInt8)))), (16, true, OL (α := (List UInt8)) b82 out52), (17, true, Enc.v (j53 : Int)), (18, true, OL (α := UInt8) b83 row84), (19, true, Enc.v (k70 : Int)), (20, true, Enc.v (i85 : Int))] ∧ Nd [(b81, RL (α := Int) 3 l18), (b82, RL (α := (List UInt8)) 23 out52), (b83, RL (α := UInt8) 5 row84)] ∧ HSub [(b81, RL (α := Int) 3 l18), (b82, RL (α := (List UInt8)) 23 out52), (b83, RL (α := UInt8) 5 row84)] h) hO80 ⟨b66, b67, b68, rfl, (Nd.pick nd (is := [0, 1, 2]) (by decide)), (HSub.pick nd (is := [0, 1, 2]) (by decide))⟩ ?_
                  rintro ⟨row84, i85⟩ env h x80x ⟨b81, b82, b83, rfl, nd, hs⟩ hX hR80
                  refine TK.subH hs ?_
                  unfold X.cartridgeref1_Decode_s80 at hX
                  try dsimp only at hX
                  refine TK.seq_k fun K90 hK90 => ?_
                  refine TK.seq_k fun K91 hK91 => ?_
                  refine TK.reg ?_
                  refine TL.p (C := cx) (gc := true) (p_mv rfl) rfl rfl ?_
                  refine TL.p (C := cx) (gc := true) (p_mv rfl) rfl rfl ?_
                  refine TL.p (C := cx) (gc := true) (p_lss rfl rfl) rfl rfl ?_
                  refine TL.nil ?_
                  refine hK91 _ _ ?_
                  refine TK.cond (b := (decide (i85 < data2))) rfl (fun hc => ?_) (fun hc => ?_)
                  · have hX := ite_t hc hX
                    refine TK.skip ?_
                    refine hK90 _ _ ?_
                    refine TK.seq_k fun K92 hK92 => ?_
                    refine TK.block ?_
                    refine TK.pick [2, 0, 1] nd (by decide) fun nd => ?_
                    have ndS : Nd [(b81, RL (α := Int) 3 l18), (b82, RL (α := (List UInt8)) 23 out52)] := Nd.pick nd (is := [1, 2]) (by decide)
                    refine TK.endK fun KD hKD => ?_
                    refine TK.drwX (h := [(b83, RL (α := UInt8) 5 row84)]) (hS := [(b81, RL (α := Int) 3 l18), (b82, RL (α := (List UInt8)) 23 out52)]) [(0, 0), (0, 1), (0, 2), (0, 3), (1, 4), (1, 5), (0, 6), (0, 7), (0, 8), (0, 9), (0, 10), (0, 11), (0, 12), (0, 13), (0, 14), (0, 15), (0, 16), (0, 17), (0, 18), (0, 19), (0, 20), (0, 21), (0, 22), (0, 23), (0, 24), (1, 25), (2, 26)] mixed (by kernel_rfl) (HSub_app nd) ?_
                    refine DR0 (gc := true) rfl (vok_p (C := cx) (p_mv rfl)) rfl rfl ?_
                    refine DR0 (gc := true) rfl (vok_p (C := cx) (p_mv rfl)) rfl rfl ?_
                    refine DR0 (gc := true) rfl (vok_p (C := cx) (p_mv rfl)) rfl rfl ?_
                    refine DR0 (gc := true) rfl (vok_p (C := cx) (p_mv rfl)) rfl rfl ?_
                    obtain ⟨e93, he93, hX⟩ := bind_some hX
                    refine DR1 (gc := true) rfl (vok_p (C := cx) (p_iaO (xs := row84) kd23 ty5 rfl rfl rfl nd (j := 0) rfl (fun _ => he93))) rfl rfl ?_
                    refine DR1 (gc := true) rfl (vok_p (C := cx) (p_ldO (xs := row84) (a := e93) (e93 : UInt8) ty5 rfl rfl nd (j := 0) rfl (fun _ => he93) rfl rfl rfl)) rfl rfl ?_
                    refine DR0 (gc := true) rfl (vok_p (C := cx) (p_mv rfl)) rfl rfl ?_
                    refine DR0 (gc := true) rfl (vok_p (C := cx) (p_mv rfl)) rfl rfl ?_
                    obtain ⟨e94, he94, hX⟩ := bind_some hX
                    refine DR0 (gc := true) rfl (vok_p (C := cx) (p_iaL (xs := r41.1) kd22 ty23 rfl rfl rfl (fun _ => he94))) rfl rfl ?_
                    refine DR0 (gc := true) rfl (vok_p (C := cx) (p_ldE (xs := r41.1) (a := e94) (e94 : (List UInt8)) ty23 rfl rfl (fun _ => he94) rfl rfl rfl)) rfl rfl ?_
                    refine DR0 (gc := true) rfl (vok_p (C := cx) (p_mv rfl)) rfl rfl ?_
                    obtain ⟨e95, he95, hX⟩ := bind_some hX
                    refine DR0 (gc := true) rfl (vok_p (C := cx) (p_iaL (xs := e94) kd23 ty5 rfl rfl rfl (fun _ => he95))) rfl rfl ?_
                    refine DR0 (gc := true) rfl (vok_p (C := cx) (p_ldE (xs := e94) (a := e95) (e95 : UInt8) ty5 rfl rfl (fun _ => he95) rfl rfl rfl)) rfl rfl ?_
                    refine DR0 (gc := true) rfl (vok_p (C := cx) (p_mv rfl)) rfl rfl ?_
                    refine DR0 (gc := true) rfl (vok_p (C := cx) (p_mv rfl)) rfl rfl ?_
                    refine DR0 (gc := true) rfl (vok_p (C := cx) (p_mv rfl)) rfl rfl ?_
                    obtain ⟨e96, he96, hX⟩ := bind_some hX
                    refine DR0 (gc := true) rfl (vok_p (C := cx) (p_iaO (xs := l18) kd46 ty3 rfl rfl rfl ndS (j := 0) rfl (fun _ => he96))) rfl rfl ?_
                    refine DR0 (gc := true) rfl (vok_p (C := cx) (p_ldO (xs := l18) (a := e96) (e96 : Int) ty3 rfl rfl ndS (j := 0) rfl (fun _ => he96) rfl rfl rfl)) rfl rfl ?_
                    obtain ⟨e97, he97, hX⟩ := bind_some hX
                    refine DR0 (gc := true) rfl (vok_p (C := cx) (p_iaL (xs := have1) kd22 ty23 rfl rfl rfl (fun _ => he97))) rfl rfl ?_
                    refine DR0 (gc := true) rfl (vok_p (C := cx) (p_ldE (xs := have1) (a := e97) (e97 : (List UInt8)) ty23 rfl rfl (fun _ => he97) rfl rfl rfl)) rfl rfl ?_
                    refine DR0 (gc := true) rfl (vok_p (C := cx) (p_mv rfl)) rfl rfl ?_
                    obtain ⟨e98, he98, hX⟩ := bind_some hX
                    refine DR0 (gc := true) rfl (vok_p (C := cx) (p_iaL (xs := e97) kd23 ty5 rfl rfl rfl (fun _ => he98))) rfl rfl ?_
                    refine DR0 (gc := true) rfl (vok_p (C := cx) (p_ldE (xs := e97) (a := e98) (e98 : UInt8) ty5 rfl rfl (fun _ => he98) rfl rfl rfl)) rfl rfl ?_
                    obtain ⟨r99, hr99, hX⟩ := bind_some hX
                    refine DR0 (gc := true) rfl (vok_c rfl (fun _ => ⟨rfl, ⟨rfl, ⟨rfl, trivial⟩⟩⟩) (fun e => ok_cartridgeref1_Mul e95 e98 _ hr99)) rfl rfl ?_
                    refine DR0 (gc := true) rfl (vok_p (C := cx) (p8_xor (a := e93) (b := r99) rfl rfl)) rfl rfl ?_
                    obtain ⟨e100, he100, hX⟩ := bind_some hX
                    refine DR1 (gc := true) rfl (vok_p (C := cx) (p_iaO (xs := row84) kd23 ty5 rfl rfl rfl nd (j := 0) rfl (fun _ => he100))) rfl rfl ?_
                    refine DR2n rfl ?_
                    refine TL.stW (C := cx) (xs := row84) (i := k70) (lu := Enc.cl ((e93 ^^^ r99) : UInt8)) (a' := (e93 ^^^ r99)) nd ty5 rfl (j := 0) rfl (by simp [Enc.sz]) (inb_of he100 (by simp)) rfl (Cells_v ((e93 ^^^ r99) : UInt8)) rfl (WkL_refl _) fun nd => ?_
                    refine TL.nil ⟨.nilp, [(b83, RL (α := UInt8) 5 (row84.set k70.toNat (e93 ^^^ r99)))], rfl, rfl, HSub_app nd, ?_⟩
                    refine DRend ?_
                    refine hKD _ _ ?_
                    refine TL.cv 18 (OL (α := UInt8) b83 (row84.set k70.toNat (e93 ^^^ r99))) rfl (Wk_eq (OL_len (by simp))) ?_
                    refine TL.nil ?_
                    refine hK92 _ _ ?_
                    refine TK.reg ?_
                    refine TL.p (C := cx) (gc := true) (p_mv rfl) rfl rfl ?_
                    refine TL.p (C := cx) (gc := true) (p_add rfl rfl) rfl rfl ?_
                    refine TL.p (C := cx) (gc := true) (p_mv rfl) rfl rfl ?_
                    refine TL.nil ?_
                    exact ⟨_, (some_in hX).symm, b81, b82, b83, rfl, (Nd.pick nd (is := [1, 2, 0]) (by decide)), (HSub.pick nd (is := [1, 2, 0]) (by decide))⟩
                  · have hX := ite_f hc hX
                    refine TK.exit ?_
                    obtain rfl := hR80 _ (some_in hX).symm
                    exact E80 row84 _ _ ⟨b81, b82, b83, rfl, (Nd.pick nd (is := [0, 1, 2]) (by decide)), (HSub.pick nd (is := [0, 1, 2]) (by decide))⟩ hA80
                · have hX := ite_f hc hX
                  refine TK.exit ?_
                  obtain rfl := hR65 _ (some_in hX).symm
                  exact E65 row69 _ _ ⟨b66, b67, b68, rfl, (Nd.pick nd (is := [0, 1, 2]) (by decide)), (HSub.pick nd (is := [0, 1, 2]) (by decide))⟩ hA65
              · have hX := ite_f hc hX
                refine TK.exit ?_
                obtain rfl := hR49 _ (some_in hX).symm
                exact E49 out52 _ _ ⟨b51, rfl, (Nd.pick nd (is := [1]) (by decide)), (HSub.pick nd (is := [1]) (by decide))⟩ hA49
          refine TK.iter [0, 1, 6, 7, 9, 10, 12] (fun s env h => match s with | (m35, i36) => ∃ b33 b34, env = [(0, true, Enc.v (have1 : (List (List UInt8)))), (1, true, Enc.v (data2 : Int)), (6, true, OL (α := Int) b33 l18), (7, true, Enc.v (size19 : Int)), (9, true, OL (α := (List UInt8)) b34 m35), (10, true, Enc.v (r29.1 : (List (List UInt8)))), (12, true, Enc.v (i36 : Int))] ∧ Nd [(b33, RL (α := Int) 3 l18), (b34, RL (α := (List UInt8)) 23 m35)] ∧ HSub [(b33, RL (α := Int) 3 l18), (b34, RL (α := (List UInt8)) 23 m35)] h) hO32 ⟨b17, b27, rfl, (Nd.pick nd (is := [1, 0]) (by decide)), (HSub.pick nd (is := [1, 0]) (by decide))⟩ ?_
          rintro ⟨m35, i36⟩ env h x32x ⟨b33, b34, rfl, nd, hs⟩ hX hR32
          refine TK.subH hs ?_
          unfold X.cartridgeref1_Decode_s32 at hX
          try dsimp only at hX
          refine TK.seq_k fun K101 hK101 => ?_
          refine TK.seq_k fun K102 hK102 => ?_
          refine TK.reg ?_
          refine TL.p (C := cx) (gc := true) (p_mv rfl) rfl rfl ?_
          refine TL.p (C := cx) (gc := true) (p_mv rfl) rfl rfl ?_
          refine TL.p (C := cx) (gc := true) (p_lss rfl rfl) rfl rfl ?_
          refine TL.nil ?_
          refine hK102 _ _ ?_
          refine TK.cond (b := (decide (i36 < data2))) rfl (fun hc => ?_) (fun hc => ?_)
          · have hX := ite_t hc hX
            refine TK.skip ?_
            refine hK101 _ _ ?_
            refine TK.seq_k fun K103 hK103 => ?_
            have J103 : ∀ (l106 : List (List UInt8)) (env : Env) (h : Hp), (∃ b104 b105, keepE [0, 1, 6, 7, 9, 10, 12] env = [(0, true, Enc.v (have1 : (List (List UInt8)))), (1, true, Enc.v (data2 : Int)), (6, true, OL (α := Int) b104 l18), (7, true, Enc.v (size19 : Int)), (9, true, OL (α := (List UInt8)) b105 l106), (10, true, Enc.v (r29.1 : (List (List UInt8)))), (12, true, Enc.v (i36 : Int))] ∧ Nd [(b104, RL (α := Int) 3 l18), (b105, RL (α := (List UInt8)) 23 l106)] ∧ HSub [(b104, RL (α := Int) 3 l18), (b105, RL (α := (List UInt8)) 23 l106)] h) → X.cartridgeref1_Decode_j103 i36 l106 = some x32x → K103 env h := by
              intro l106 env h hE hX
              obtain ⟨b104, b105, henv, nd, hs⟩ := hE
              unfold X.cartridgeref1_Decode_j103 at hX
              refine hK103 _ _ (TK.keep [0, 1, 6, 7, 9, 10, 12] ?_)
              rw [henv]
              refine TK.subH hs ?_
              refine TK.reg ?_
              refine TL.p (C := cx) (gc := true) (p_mv rfl) rfl rfl ?_
              refine TL.p (C := cx) (gc := true) (p_add rfl rfl) rfl rfl ?_
              refine TL.p (C := cx) (gc := true) (p_mv rfl) rfl rfl ?_
              refine TL.nil ?_
              exact ⟨_, (some_in hX).symm, b104, b105, rfl, (Nd.pick nd (is := [0, 1]) (by decide)), (HSub.pick nd (is := [0, 1]) (by decide))⟩
            refine TK.block ?_
            refine TK.seq_k fun K107 hK107 => ?_
            refine TK.reg ?_
            refine TL.p (C := cx) (gc := true) (p_mv rfl) rfl rfl ?_
            refine TL.p (C := cx) (gc := true) (p_mv rfl) rfl rfl ?_
            obtain ⟨e108, he108, hX⟩ := bind_some hX
            refine TL.p (C := cx) (gc := true) (p_iaO (xs := l18) kd46 ty3 rfl rfl rfl nd (j := 0) rfl (fun _ => he108)) rfl rfl ?_
            refine TL.p (C := cx) (gc := true) (p_ldO (xs := l18) (a := e108) (e108 : Int) ty3 rfl rfl nd (j := 0) rfl (fun _ => he108) rfl rfl rfl) rfl rfl ?_
            refine TL.p (C := cx) (gc := true) (p_mv rfl) rfl rfl ?_
            refine TL.p (C := cx) (gc := true) (p_lss rfl rfl) rfl rfl ?_
            refine TL.nil ?_
            refine hK107 _ _ ?_
            refine TK.cond (b := (decide (e108 < data2))) rfl (fun hc => ?_) (fun hc => ?_)
            · have hX := ite_t hc hX
              refine TK.seq_k fun K109 hK109 => ?_
              refine TK.reg ?_
              refine TL.p (C := cx) (gc := true) (p_mv rfl) rfl rfl ?_
              obtain ⟨u110, hu110, hX⟩ := bind_some hX
              refine TL.mkO (C := cx) nd (0 : UInt8) kd23 ty5 rfl (fun j hj => by (have : j = 0 := by simpa [Enc.sz] using hj); subst this; rfl) rfl rfl (by decide) (need_t hu110) rfl fun b111 nd => ?_
              refine TL.p (C := cx) (gc := true) (p_mv rfl) rfl rfl ?_
              refine TL.nil ?_
              refine hK109 _ _ ?_
              refine TK.seq_k fun K112 hK112 => ?_
              refine TK.reg ?_
              refine TL.p (C := cx) (gc := true) (p_mv rfl) rfl rfl ?_
              refine TL.p (C := cx) (gc := true) (p_mv rfl) rfl rfl ?_
              refine TL.p (C := cx) (gc := true) (p_mv rfl) rfl rfl ?_
              obtain ⟨e113, he113, hX⟩ := bind_some hX
              refine TL.p (C := cx) (gc := true) (p_iaO (xs := l18) kd46 ty3 rfl rfl rfl nd (j := 1) rfl (fun _ => he113)) rfl rfl ?_
              refine TL.p (C := cx) (gc := true) (p_ldO (xs := l18) (a := e113) (e113 : Int) ty3 rfl rfl nd (j := 1) rfl (fun _ => he113) rfl rfl rfl) rfl rfl ?_
              obtain ⟨e114, he114, hX⟩ := bind_some hX
              refine TL.p (C := cx) (gc := true) (p_iaO (xs := (List.replicate data2.toNat (0 : UInt8))) kd23 ty5 rfl rfl rfl nd (j := 0) rfl (fun _ => he114)) rfl rfl ?_
              refine TL.stW (C := cx) (xs := (List.replicate data2.toNat (0 : UInt8))) (i := e113) (lu := Enc.cl ((1 : UInt8) : UInt8)) (a' := (1 : UInt8)) nd ty5 rfl (j := 0) rfl (by simp [Enc.sz]) (inb_of he114 (by simp)) rfl (Cells_v ((1 : UInt8) : UInt8)) rfl (WkL_refl _) fun nd => ?_
              refine TL.cv 13 (OL b111 ((List.replicate data2.toNat (0 : UInt8)).set e113.toNat (1 : UInt8))) rfl (Wk_eq (OL_len (by simp))) ?_
              refine TL.nil ?_
              refine hK112 _ _ ?_
              refine TK.reg ?_
              refine TL.p (C := cx) (gc := true) (p_mv rfl) rfl rfl ?_
              refine TL.p (C := cx) (gc := true) (p_mv rfl) rfl rfl ?_
              refine TL.lay [(102, L ((List.replicate data2.toNat (0 : UInt8)).set e113.toNat (1 : UInt8)))] nd (j := 0) rfl ⟨⟨_, rfl, fix_OL nd (j := 0) rfl, rfl⟩, trivial⟩ fun nd => ?_
              refine TL.lit (C := cx) ([((List.replicate data2.toNat (0 : UInt8)).set e113.toNat (1 : UInt8))] : List (List UInt8)) kd22 ty23 rfl ⟨⟨rfl, rfl⟩, trivial⟩ rfl rfl rfl ?_
              obtain ⟨u115, hu115, hX⟩ := bind_some hX
              refine TL.appO (C := cx) nd kd22 bo22 ty23 rfl rfl (j := 1) rfl rfl (Src_L _) (by decide) (need_t hu115) rfl fun nd => ?_
              refine TL.p (C := cx) (gc := true) (p_mv rfl) rfl rfl ?_
              refine TL.nil ?_
              exact J103 (m35 ++ ([((List.replicate data2.toNat (0 : UInt8)).set e113.toNat (1 : UInt8))] : List (List UInt8))) _ _ ⟨b33, b34, rfl, (Nd.pick nd (is := [0, 1]) (by decide)), (HSub.pick nd (is := [0, 1]) (by decide))⟩ hX
            · have hX := ite_f hc hX
              refine TK.reg ?_
              refine TL.p (C := cx) (gc := true) (p_mv rfl) rfl rfl ?_
              refine TL.p (C := cx) (gc := true) (p_mv rfl) rfl rfl ?_
              refine TL.p (C := cx) (gc := true) (p_mv rfl) rfl rfl ?_
              refine TL.p (C := cx) (gc := true) (p_mv rfl) rfl rfl ?_
              obtain ⟨e116, he116, hX⟩ := bind_some hX
              refine TL.p (C := cx) (gc := true) (p_iaO (xs := l18) kd46 ty3 rfl rfl rfl nd (j := 0) rfl (fun _ => he116)) rfl rfl ?_
              refine TL.p (C := cx) (gc := true) (p_ldO (xs := l18) (a := e116) (e116 : Int) ty3 rfl rfl nd (j := 0) rfl (fun _ => he116) rfl rfl rfl) rfl rfl ?_
              refine TL.p (C := cx) (gc := true) (p_mv rfl) rfl rfl ?_
              refine TL.p (C := cx) (gc := true) (p_sub rfl rfl) rfl rfl ?_
              obtain ⟨e117, he117, hX⟩ := bind_some hX
              refine TL.p (C := cx) (gc := true) (p_iaL (xs := r29.1) kd22 ty23 rfl rfl rfl (fun _ => he117)) rfl rfl ?_
              refine TL.p (C := cx) (gc := true) (p_ldE (xs := r29.1) (a := e117) (e117 : (List UInt8)) ty23 rfl rfl (fun _ => he117) rfl rfl rfl) rfl rfl ?_
              refine TL.lit (C := cx) ([e117] : List (List UInt8)) kd22 ty23 rfl ⟨⟨rfl, rfl⟩, trivial⟩ rfl rfl rfl ?_
              obtain ⟨u118, hu118, hX⟩ := bind_some hX
              refine TL.appO (C := cx) nd kd22 bo22 ty23 rfl rfl (j := 1) rfl rfl (Src_L _) (by decide) (need_t hu118) rfl fun nd => ?_
              refine TL.p (C := cx) (gc := true) (p_mv rfl) rfl rfl ?_
              refine TL.nil ?_
              exact J103 (m35 ++ ([e117] : List (List UInt8))) _ _ ⟨b33, b34, rfl, (Nd.pick nd (is := [0, 1]) (by decide)), (HSub.pick nd (is := [0, 1]) (by decide))⟩ hX
          · have hX := ite_f hc hX
            refine TK.exit ?_
            obtain rfl := hR32 _ (some_in hX).symm
            exact E32 m35 _ _ ⟨b33, b34, rfl, (Nd.pick nd (is := [0, 1]) (by decide)), (HSub.pick nd (is := [0, 1]) (by decide))⟩ hA32
    refine TK.iter [0, 1, 6, 7, 8] (fun s env h => match s with | (at14, size15, i16) => ∃ b13, env = [(0, true, Enc.v (have1 : (List (List UInt8)))), (1, true, Enc.v (data2 : Int)), (6, true, OL (α := Int) b13 at14), (7, true, Enc.v (size15 : Int)), (8, true, Enc.v (i16 : Int))] ∧ Nd [(b13, RL (α := Int) 3 at14)] ∧ HSub [(b13, RL (α := Int) 3 at14)] h) hO12 ⟨b8, rfl, (Nd.pick nd (is := [0]) (by decide)), (HSub.pick nd (is := [0]) (by decide))⟩ ?_
    rintro ⟨at14, size15, i16⟩ env h x12x ⟨b13, rfl, nd, hs⟩ hX hR12
    refine TK.subH hs ?_
    unfold X.cartridgeref1_Decode_s12 at hX
    try dsimp only at hX
    refine TK.seq_k fun K119 hK119 => ?_
    refine TK.seq_k fun K120 hK120 => ?_
    refine TK.reg ?_
    refine TL.p (C := cx) (gc := true) (p_mv rfl) rfl rfl ?_
    refine TL.p (C := cx) (gc := true) (p_mv rfl) rfl rfl ?_
    refine TL.p (C := cx) (gc := true) (p_lenL (xs := have1) kd22 rfl) rfl rfl ?_
    refine TL.p (C := cx) (gc := true) (p_lss rfl rfl) rfl rfl ?_
    refine TL.nil ?_
    refine hK120 _ _ ?_
    refine TK.cond (b := (decide (i16 < (have1.length : Int)))) rfl (fun hc => ?_) (fun hc => ?_)
    · have hX := ite_t hc hX
      refine TK.skip ?_
      refine hK119 _ _ ?_
      refine TK.seq_k fun K121 hK121 => ?_
      have J121 : ∀ (l123 : List Int) (size124 : Int) (env : Env) (h : Hp), (∃ b122, keepE [0, 1, 6, 7, 8] env = [(0, true, Enc.v (have1 : (List (List UInt8)))), (1, true, Enc.v (data2 : Int)), (6, true, OL (α := Int) b122 l123), (7, true, Enc.v (size124 : Int)), (8, true, Enc.v (i16 : Int))] ∧ Nd [(b122, RL (α := Int) 3 l123)] ∧ HSub [(b122, RL (α := Int) 3 l123)] h) → X.cartridgeref1_Decode_j121 i16 l123 size124 = some x12x → K121 env h := by
        intro l123 size124 env h hE hX
        obtain ⟨b122, henv, nd, hs⟩ := hE
        unfold X.cartridgeref1_Decode_j121 at hX
        refine hK121 _ _ (TK.keep [0, 1, 6, 7, 8] ?_)
        rw [henv]
        refine TK.subH hs ?_
        refine TK.reg ?_
        refine TL.p (C := cx) (gc := true) (p_mv rfl) rfl rfl ?_
        refine TL.p (C := cx) (gc := true) (p_add rfl rfl) rfl rfl ?_
        refine TL.p (C := cx) (gc := true) (p_mv rfl) rfl rfl ?_
        refine TL.nil ?_
        exact ⟨_, (some_in hX).symm, b122, rfl, (Nd.pick nd (is := [0]) (by decide)), (HSub.pick nd (is := [0]) (by decide))⟩
      refine TK.block ?_
      refine TK.seq_k fun K125 hK125 => ?_
      refine TK.seq_k fun K126 hK126 => ?_
      refine TK.reg ?_
      refine TL.p (C := cx) (gc := true) (p_mv rfl) rfl rfl ?_
      refine TL.p (C := cx) (gc := true) (p_mv rfl) rfl rfl ?_
      obtain ⟨e127, he127, hX⟩ := bind_some hX
      refine TL.p (C := cx) (gc := true) (p_iaL (xs := have1) kd22 ty23 rfl rfl rfl (fun _ => he127)) rfl rfl ?_
      refine TL.p (C := cx) (gc := true) (p_ldE (xs := have1) (a := e127) (e127 : (List UInt8)) ty23 rfl rfl (fun _ => he127) rfl rfl rfl) rfl rfl ?_
      refine TL.p (C := cx) (gc := true) (p_lenL (xs := e127) kd23 rfl) rfl rfl ?_
      refine TL.p (C := cx) (gc := true) (p_eql rfl rfl) rfl rfl ?_
      refine TL.nil ?_
      refine hK126 _ _ ?_
      refine TK.cond (b := ((e127.length : Int) == (0 : Int))) rfl (fun hc => ?_) (fun hc => ?_)
      · have hX := ite_t hc hX
        refine TK.exit ?_
        exact J121 at14 size15 _ _ ⟨b13, rfl, (Nd.pick nd (is := [0]) (by decide)), (HSub.pick nd (is := [0]) (by decide))⟩ hX
      · have hX := ite_f hc hX
        refine TK.skip ?_
        refine hK125 _ _ ?_
        refine TK.seq_k fun K128 hK128 => ?_
        refine TK.seq_k fun K129 hK129 => ?_
        refine TK.reg ?_
        refine TL.p (C := cx) (gc := true) (p_mv rfl) rfl rfl ?_
        refine TL.p (C := cx) (gc := true) (p_gtr rfl rfl) rfl rfl ?_
        refine TL.p (C := cx) (gc := true) (p_mv rfl) rfl rfl ?_
        refine TL.p (C := cx) (gc := ((decide (size15 > (0 : Int))))) (p_mv rfl (hg := fun e => rfl)) (gcT1 rfl) rfl ?_
        refine TL.p (C := cx) (gc := ((decide (size15 > (0 : Int))))) (p_mv rfl (hg := fun e => rfl)) (gcT1 rfl) rfl ?_
        obtain ⟨e130, he130, hX⟩ := bind_some hX
        refine TL.p (C := cx) (gc := ((decide (size15 > (0 : Int))))) (p_iaL (xs := have1) kd22 ty23 rfl rfl rfl (fun e => optG_t he130 e) (hg := fun e => ⟨e, e⟩)) (gcT1 rfl) rfl ?_
        refine TL.p (C := cx) (gc := ((decide (size15 > (0 : Int))))) (p_ldE (xs := have1) (a := e130) (e130 : (List UInt8)) ty23 rfl rfl (fun e => optG_t he130 e) rfl rfl rfl (hg := fun e => e)) (gcT1 rfl) rfl ?_
        refine TL.p (C := cx) (gc := ((decide (size15 > (0 : Int))))) (p_lenL (xs := e130) kd23 rfl (hg := fun e => e)) (gcT1 rfl) rfl ?_
        refine TL.p (C := cx) (gc := ((decide (size15 > (0 : Int))))) (p_mv rfl (hg := fun e => rfl)) (gcT1 rfl) rfl ?_
        refine TL.p (C := cx) (gc := ((decide (size15 > (0 : Int))))) (p_neq rfl rfl (hg := fun e => ⟨e, e⟩)) (gcT1 rfl) rfl ?_
        refine TL.p (C := cx) (gc := true) (p_and rfl rfl (fun e => ⟨rfl, fun h => h⟩)) rfl rfl ?_
        refine TL.nil ?_
        refine hK129 _ _ ?_
        refine TK.cond (b := ((decide (size15 > (0 : Int))) && ((e130.length : Int) != size15))) rfl (fun hc => ?_) (fun hc => ?_)
        · have hX := ite_t hc hX
          refine TK.seq_k fun K131 hK131 => ?_
          refine TK.reg ?_
          refine TL.p (C := cx) (gc := true) (p_mv rfl) rfl rfl ?_
          refine TL.p (C := cx) (gc := true) (p_mv rfl) rfl rfl ?_
          refine TL.nil ?_
          refine hK131 _ _ ?_
          refine TK.wk 4 (L ([] : (List (List UInt8)))) rfl Wk_nil ?_
          refine TK.ret ?_
          obtain rfl := hR12 _ (some_in hX).symm
          replace hX := hA12
          try dsimp only [thenQ]
          exact retN (vs := [Enc.v (([] : (List (List UInt8))) : (List (List UInt8))), Enc.v ((1 : Int) : Int)]) ⟨rfl, rfl, trivial⟩ (by obtain rfl := some_in hX; rfl) (allVal.mem ⟨v_val _, v_val _, trivial⟩)
        · have hX := ite_f hc hX
          refine TK.skip ?_
          refine hK128 _ _ ?_
          refine TK.seq_k fun K132 hK132 => ?_
          refine TK.reg ?_
          refine TL.p (C := cx) (gc := true) (p_mv rfl) rfl rfl ?_
          refine TL.p (C := cx) (gc := true) (p_mv rfl) rfl rfl ?_
          obtain ⟨e133, he133, hX⟩ := bind_some hX
          refine TL.p (C := cx) (gc := true) (p_iaL (xs := have1) kd22 ty23 rfl rfl rfl (fun _ => he133)) rfl rfl ?_
          refine TL.p (C := cx) (gc := true) (p_ldE (xs := have1) (a := e133) (e133 : (List UInt8)) ty23 rfl rfl (fun _ => he133) rfl rfl rfl) rfl rfl ?_
          refine TL.p (C := cx) (gc := true) (p_lenL (xs := e133) kd23 rfl) rfl rfl ?_
          refine TL.p (C := cx) (gc := true) (p_mv rfl) rfl rfl ?_
          refine TL.nil ?_
          refine hK132 _ _ ?_
          refine TK.reg ?_
          refine TL.p (C := cx) (gc := true) (p_mv rfl) rfl rfl ?_
          refine TL.p (C := cx) (gc := true) (p_mv rfl) rfl rfl ?_
          refine TL.lit (C := cx) ([i16] : List Int) kd46 ty3 rfl ⟨⟨rfl, rfl⟩, trivial⟩ rfl rfl rfl ?_
          obtain ⟨u134, hu134, hX⟩ := bind_some hX
          refine TL.appO (C := cx) nd kd46 bo46 ty3 rfl rfl (j := 0) rfl rfl (Src_L _) (by decide) (need_t hu134) rfl fun nd => ?_
          refine TL.p (C := cx) (gc := true) (p_mv rfl) rfl rfl ?_
          refine TL.nil ?_
          exact J121 (at14 ++ ([i16] : List Int)) (e133.length : Int) _ _ ⟨b13, rfl, (Nd.pick nd (is := [0]) (by decide)), (HSub.pick nd (is := [0]) (by decide))⟩ hX
    · have hX := ite_f hc hX
      refine TK.exit ?_
      obtain rfl := hR12 _ (some_in hX).symm
      exact E12 at14 size15 _ _ ⟨b13, rfl, (Nd.pick nd (is := [0]) (by decide)), (HSub.pick nd (is := [0]) (by decide))⟩ hA12

/-- cartridge/cartridgeref1.SameRows -/
theorem ok_cartridgeref1_SameRows (a1 : (List (List UInt8))) (b2 : (List (List UInt8))) (r : Bool) (hX : X.cartridgeref1_SameRows a1 b2 = some r) : Fun Try.prog 28 [Enc.v (a1 : (List (List UInt8))), Enc.v (b2 : (List (List UInt8)))] (· = Enc.v (r : Bool)) := by
  refine Fun.of b28 (Nat.le_of_ble_eq_true rfl) (allVal.mem ⟨(by exact (v_val _)), (by exact (v_val _)), trivial⟩) ?_
  unfold k28
  have nd : Nd [] := Nd_nil
  unfold X.cartridgeref1_SameRows at hX
  refine TK.seq_k fun K3 hK3 => ?_
  refine TK.reg ?_
  refine TL.p (C := cx) (gc := true) (p_mv rfl) rfl rfl ?_
  refine TL.nil ?_
  refine hK3 _ _ ?_
  refine TK.seq_k fun K4 hK4 => ?_
  refine TK.seq_k fun K5 hK5 => ?_
  refine TK.reg ?_
  refine TL.p (C := cx) (gc := true) (p_mv rfl) rfl rfl ?_
  refine TL.p (C := cx) (gc := true) (p_lenL (xs := a1) kd22 rfl) rfl rfl ?_
  refine TL.p (C := cx) (gc := true) (p_mv rfl) rfl rfl ?_
  refine TL.p (C := cx) (gc := true) (p_lenL (xs := b2) kd22 rfl) rfl rfl ?_
  refine TL.p (C := cx) (gc := true) (p_neq rfl rfl) rfl rfl ?_
  refine TL.nil ?_
  refine hK5 _ _ ?_
  refine TK.cond (b := ((a1.length : Int) != (b2.length : Int))) rfl (fun hc => ?_) (fun hc => ?_)
  · have hX := ite_t hc hX
    refine TK.seq_k fun K6 hK6 => ?_
    refine TK.reg ?_
    refine TL.p (C := cx) (gc := true) (p_mv rfl) rfl rfl ?_
    refine TL.nil ?_
    refine hK6 _ _ ?_
    refine TK.ret ?_
    try dsimp only [thenQ]
    exact ret1 (v := Enc.v (false : Bool)) rfl (by obtain rfl := some_in hX; rfl) (v_val _)
  · have hX := ite_f hc hX
    refine TK.skip ?_
    refine hK4 _ _ ?_
    refine TK.seq_k fun K7 hK7 => ?_
    refine TK.seq_k fun K8 hK8 => ?_
    refine TK.reg ?_
    refine TL.p (C := cx) (gc := true) (p_mv rfl) rfl rfl ?_
    refine TL.nil ?_
    refine hK8 _ _ ?_
    refine TK.block ?_
    obtain ⟨o9, hO9, hA9⟩ := bind_some hX
    have E9 : ∀ (env : Env) (h : Hp), (∃ _u : Unit, keepE [] env = [] ∧ Nd [] ∧ HSub [] h) → X.cartridgeref1_SameRows_e9 = some r → K7 env h := by
      intro  env h hE hX
      obtain ⟨_u, henv, nd, hs⟩ := hE
      unfold X.cartridgeref1_SameRows_e9 at hX
      refine hK7 _ _ (TK.keep [] ?_)
      rw [henv]
      refine TK.subH hs ?_
      refine TK.seq_k fun K11 hK11 => ?_
      refine TK.reg ?_
      refine TL.p (C := cx) (gc := true) (p_mv rfl) rfl rfl ?_
      refine TL.nil ?_
      refine hK11 _ _ ?_
      refine TK.ret ?_
      try dsimp only [thenQ]
      exact ret1 (v := Enc.v (true : Bool)) rfl (by obtain rfl := some_in hX; rfl) (v_val _)
    refine TK.iter [0, 1, 5] (fun s env h => match s with | i10 => ∃ _u : Unit, env = [(0, true, Enc.v (a1 : (List (List UInt8)))), (1, true, Enc.v (b2 : (List (List UInt8)))), (5, true, Enc.v (i10 : Int))] ∧ Nd [] ∧ HSub [] h) hO9 ⟨(), rfl, Nd_nil, HSub.refl _⟩ ?_
    rintro i10 env h x9x ⟨_u, rfl, nd, hs⟩ hX hR9
    refine TK.subH hs ?_
    unfold X.cartridgeref1_SameRows_s9 at hX
    try dsimp only at hX
    refine TK.seq_k fun K12 hK12 => ?_
    refine TK.seq_k fun K13 hK13 => ?_
    refine TK.reg ?_
    refine TL.p (C := cx) (gc := true) (p_mv rfl) rfl rfl ?_
    refine TL.p (C := cx) (gc := true) (p_mv rfl) rfl rfl ?_
    refine TL.p (C := cx) (gc := true) (p_lenL (xs := a1) kd22 rfl) rfl rfl ?_
    refine TL.p (C := cx) (gc := true) (p_lss rfl rfl) rfl rfl ?_
    refine TL.nil ?_
    refine hK13 _ _ ?_
    refine TK.cond (b := (decide (i10 < (a1.length : Int)))) rfl (fun hc => ?_) (fun hc => ?_)
    · have hX := ite_t hc hX
      refine TK.skip ?_
      refine hK12 _ _ ?_
      refine TK.seq_k fun K14 hK14 => ?_
      refine TK.block ?_
      refine TK.seq_k fun K15 hK15 => ?_
      have ndS : Nd [] := Nd.pick nd (is := []) (by decide)
      refine TK.drwX (h := []) (hS := []) [(0, 0), (0, 1), (0, 2), (0, 3), (0, 4), (0, 5), (0, 6), (0, 7), (0, 8), (0, 9), (0, 10)] mixed (by kernel_rfl) (HSub_app nd) ?_
      refine DR0 (gc := true) rfl (vok_p (C := cx) (p_mv rfl)) rfl rfl ?_
      refine DR0 (gc := true) rfl (vok_p (C := cx) (p_mv rfl)) rfl rfl ?_
      obtain ⟨e16, he16, hX⟩ := bind_some hX
      refine DR0 (gc := true) rfl (vok_p (C := cx) (p_iaL (xs := a1) kd22 ty23 rfl rfl rfl (fun _ => he16))) rfl rfl ?_
      refine DR0 (gc := true) rfl (vok_p (C := cx) (p_ldE (xs := a1) (a := e16) (e16 : (List UInt8)) ty23 rfl rfl (fun _ => he16) rfl rfl rfl)) rfl rfl ?_
      refine DR0 (gc := true) rfl (vok_cvtBS (C := cx) (gc := true) (xs := e16) kd23 kd5 kd9 rfl (look_v (v := Enc.v (e16 : (List UInt8))) (v_val _))) rfl rfl ?_
      refine DR0 (gc := true) rfl (vok_p (C := cx) (p_mv rfl)) rfl rfl ?_
      refine DR0 (gc := true) rfl (vok_p (C := cx) (p_mv rfl)) rfl rfl ?_
      obtain ⟨e17, he17, hX⟩ := bind_some hX
      refine DR0 (gc := true) rfl (vok_p (C := cx) (p_iaL (xs := b2) kd22 ty23 rfl rfl rfl (fun _ => he17))) rfl rfl ?_
      refine DR0 (gc := true) rfl (vok_p (C := cx) (p_ldE (xs := b2) (a := e17) (e17 : (List UInt8)) ty23 rfl rfl (fun _ => he17) rfl rfl rfl)) rfl rfl ?_
      refine DR0 (gc := true) rfl (vok_cvtBS (C := cx) (gc := true) (xs := e17) kd23 kd5 kd9 rfl (look_v (v := Enc.v (e17 : (List UInt8))) (v_val _))) rfl rfl ?_
      refine DR0 (gc := true) rfl (vok_p (C := cx) (ps_neq (s := (Str.mk e16)) (r := (Str.mk e17)) rfl rfl)) rfl rfl ?_
      refine DRend ?_
      refine hK15 _ _ ?_
      refine TK.cond (b := (!((Str.mk e16).l == (Str.mk e17).l))) rfl (fun hc => ?_) (fun hc => ?_)
      · have hX := ite_t hc hX
        refine TK.seq_k fun K18 hK18 => ?_
        refine TK.reg ?_
        refine TL.p (C := cx) (gc := true) (p_mv rfl) rfl rfl ?_
        refine TL.nil ?_
        refine hK18 _ _ ?_
        refine TK.ret ?_
        obtain rfl := hR9 _ (some_in hX).symm
        replace hX := hA9
        try dsimp only [thenQ]
        exact ret1 (v := Enc.v (false : Bool)) rfl (by obtain rfl := some_in hX; rfl) (v_val _)
      · have hX := ite_f hc hX
        refine TK.skip ?_
        refine hK14 _ _ ?_
        refine TK.reg ?_
        refine TL.p (C := cx) (gc := true) (p_mv rfl) rfl rfl ?_
        refine TL.p (C := cx) (gc := true) (p_add rfl rfl) rfl rfl ?_
        refine TL.p (C := cx) (gc := true) (p_mv rfl) rfl rfl ?_
        refine TL.nil ?_
        exact ⟨_, (some_in hX).symm, (), rfl, Nd_nil, HSub.refl _⟩
    · have hX := ite_f hc hX
      refine TK.exit ?_
      obtain rfl := hR9 _ (some_in hX).symm
      exact E9 _ _ ⟨(), rfl, Nd_nil, HSub.refl _⟩ hA9

end Go.Proofs.Ytgkbjnhpmlfgdaa
