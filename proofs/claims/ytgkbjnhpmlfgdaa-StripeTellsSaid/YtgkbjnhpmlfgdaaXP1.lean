import Derived.Test.YtgkbjnhpmlfgdaaXFn
import Derived.Test.YtgkbjnhpmlfgdaaXS
import Derived.Test.YtgkbjnhpmlfgdaaAmK0
import Derived.Test.YtgkbjnhpmlfgdaaXP0
/- That they do. -/
namespace Go.Proofs.Ytgkbjnhpmlfgdaa
open Go.AM Go.AX
set_option linter.unusedVariables false
set_option maxRecDepth 20000

/-- cartridge/cartridgeref10.Row -/
theorem ok_cartridgeref10_Row (l1 : (List Tape_api)) (n2 : Int) (r : (List (List UInt8))) (hX : X.cartridgeref10_Row l1 n2 = some r) : Fun Try.prog 30 [Enc.v (l1 : (List Tape_api)), Enc.v (n2 : Int)] (· = Enc.v (r : (List (List UInt8)))) := by
  refine Fun.of b30 (Nat.le_of_ble_eq_true rfl) (allVal.mem ⟨(by exact (v_val _)), (by exact (v_val _)), trivial⟩) ?_
  unfold k30
  have nd : Nd [] := Nd_nil
  unfold X.cartridgeref10_Row at hX
  refine TK.seq_k fun K3 hK3 => ?_
  refine TK.reg ?_
  refine TL.p (C := cx) (gc := true) (p_mv rfl) rfl rfl ?_
  refine TL.nil ?_
  refine hK3 _ _ ?_
  refine TK.seq_k fun K4 hK4 => ?_
  refine TK.reg ?_
  refine TL.p (C := cx) (gc := true) (p_mv rfl) rfl rfl ?_
  refine TL.nil ?_
  refine hK4 _ _ ?_
  refine TK.ownL (α := (List UInt8)) 5 23 nd rfl (.inl rfl) fun b5 nd => ?_
  refine TK.seq_k fun K6 hK6 => ?_
  refine TK.seq_k fun K7 hK7 => ?_
  refine TK.reg ?_
  refine TL.p (C := cx) (gc := true) (p_mv rfl) rfl rfl ?_
  refine TL.nil ?_
  refine hK7 _ _ ?_
  refine TK.block ?_
  obtain ⟨o8, hO8, hA8⟩ := bind_some hX
  have E8 : ∀ (l13 : List (List UInt8)) (env : Env) (h : Hp), (∃ b12, keepE [5] env = [(5, true, OL (α := (List UInt8)) b12 l13)] ∧ Nd [(b12, RL (α := (List UInt8)) 23 l13)] ∧ HSub [(b12, RL (α := (List UInt8)) 23 l13)] h) → X.cartridgeref10_Row_e8 l13 = some r → K6 env h := by
    intro l13 env h hE hX
    obtain ⟨b12, henv, nd, hs⟩ := hE
    unfold X.cartridgeref10_Row_e8 at hX
    refine hK6 _ _ (TK.keep [5] ?_)
    rw [henv]
    refine TK.subH hs ?_
    refine TK.seq_k fun K14 hK14 => ?_
    refine TK.reg ?_
    refine TL.p (C := cx) (gc := true) (p_mv rfl) rfl rfl ?_
    refine TL.p (C := cx) (gc := true) (p_mv rfl) rfl rfl ?_
    refine TL.nil ?_
    refine hK14 _ _ ?_
    refine TK.lay [(4, L l13)] nd (j := 0) rfl ⟨⟨_, rfl, fix_OL nd (j := 0) rfl, rfl⟩, trivial⟩ fun nd => ?_
    refine TK.ret ?_
    try dsimp only [thenQ]
    exact ret1 (v := Enc.v (l13 : (List (List UInt8)))) rfl (by obtain rfl := some_in hX; rfl) (v_val _)
  refine TK.iter [0, 1, 5, 6] (fun s env h => match s with | (out10, i11) => ∃ b9, env = [(0, true, Enc.v (l1 : (List Tape_api))), (1, true, Enc.v (n2 : Int)), (5, true, OL (α := (List UInt8)) b9 out10), (6, true, Enc.v (i11 : Int))] ∧ Nd [(b9, RL (α := (List UInt8)) 23 out10)] ∧ HSub [(b9, RL (α := (List UInt8)) 23 out10)] h) hO8 ⟨b5, rfl, (Nd.pick nd (is := [0]) (by decide)), (HSub.pick nd (is := [0]) (by decide))⟩ ?_
  rintro ⟨out10, i11⟩ env h x8x ⟨b9, rfl, nd, hs⟩ hX hR8
  refine TK.subH hs ?_
  unfold X.cartridgeref10_Row_s8 at hX
  try dsimp only at hX
  refine TK.seq_k fun K15 hK15 => ?_
  refine TK.seq_k fun K16 hK16 => ?_
  refine TK.reg ?_
  refine TL.p (C := cx) (gc := true) (p_mv rfl) rfl rfl ?_
  refine TL.p (C := cx) (gc := true) (p_mv rfl) rfl rfl ?_
  refine TL.p (C := cx) (gc := true) (p_lenL (xs := l1) kd35 rfl) rfl rfl ?_
  refine TL.p (C := cx) (gc := true) (p_lss rfl rfl) rfl rfl ?_
  refine TL.nil ?_
  refine hK16 _ _ ?_
  refine TK.cond (b := (decide (i11 < (l1.length : Int)))) rfl (fun hc => ?_) (fun hc => ?_)
  · have hX := ite_t hc hX
    refine TK.skip ?_
    refine hK15 _ _ ?_
    refine TK.seq_k fun K17 hK17 => ?_
    have J17 : ∀ (l19 : List (List UInt8)) (env : Env) (h : Hp), (∃ b18, keepE [0, 1, 5, 6] env = [(0, true, Enc.v (l1 : (List Tape_api))), (1, true, Enc.v (n2 : Int)), (5, true, OL (α := (List UInt8)) b18 l19), (6, true, Enc.v (i11 : Int))] ∧ Nd [(b18, RL (α := (List UInt8)) 23 l19)] ∧ HSub [(b18, RL (α := (List UInt8)) 23 l19)] h) → X.cartridgeref10_Row_j17 i11 l19 = some x8x → K17 env h := by
      intro l19 env h hE hX
      obtain ⟨b18, henv, nd, hs⟩ := hE
      unfold X.cartridgeref10_Row_j17 at hX
      refine hK17 _ _ (TK.keep [0, 1, 5, 6] ?_)
      rw [henv]
      refine TK.subH hs ?_
      refine TK.reg ?_
      refine TL.p (C := cx) (gc := true) (p_mv rfl) rfl rfl ?_
      refine TL.p (C := cx) (gc := true) (p_add rfl rfl) rfl rfl ?_
      refine TL.p (C := cx) (gc := true) (p_mv rfl) rfl rfl ?_
      refine TL.nil ?_
      exact ⟨_, (some_in hX).symm, b18, rfl, (Nd.pick nd (is := [0]) (by decide)), (HSub.pick nd (is := [0]) (by decide))⟩
    refine TK.block ?_
    refine TK.block ?_
    refine TK.seq_k fun K20 hK20 => ?_
    refine TK.reg ?_
    refine TL.p (C := cx) (gc := true) (p_mv rfl) rfl rfl ?_
    refine TL.p (C := cx) (gc := true) (p_mv rfl) rfl rfl ?_
    obtain ⟨e21, he21, hX⟩ := bind_some hX
    refine TL.p (C := cx) (gc := true) (p_iaL (xs := l1) kd35 ty48 rfl rfl rfl (fun _ => he21)) rfl rfl ?_
    refine TL.p (C := cx) (gc := true) (p_faE fs48_3 (by decide) rfl) rfl rfl ?_
    refine TL.p (C := cx) (gc := true) (p_ldE (xs := l1) (a := e21) (e21.Lost : Bool) ty4 rfl rfl (fun _ => he21) rfl rfl rfl) rfl rfl ?_
    refine TL.p (C := cx) (gc := true) (p_mv rfl) rfl rfl ?_
    refine TL.p (C := cx) (gc := (!(e21.Lost))) (p_mv rfl (hg := fun e => rfl)) (gcF1 rfl) rfl ?_
    refine TL.p (C := cx) (gc := (!(e21.Lost))) (p_lss rfl rfl (hg := fun e => ⟨e, rfl⟩)) (gcF1 rfl) rfl ?_
    refine TL.p (C := cx) (gc := true) (p_or rfl rfl (fun e => ⟨rfl, fun h => (not_t h)⟩)) rfl rfl ?_
    refine TL.p (C := cx) (gc := true) (p_mv rfl) rfl rfl ?_
    refine TL.p (C := cx) (gc := (!((e21.Lost || (decide (n2 < (0 : Int))))))) (p_mv rfl (hg := fun e => rfl)) (gcF1 rfl) rfl ?_
    refine TL.p (C := cx) (gc := (!((e21.Lost || (decide (n2 < (0 : Int))))))) (p_mv rfl (hg := fun e => rfl)) (gcF1 rfl) rfl ?_
    refine TL.p (C := cx) (gc := (!((e21.Lost || (decide (n2 < (0 : Int))))))) (p_mv rfl (hg := fun e => rfl)) (gcF1 rfl) rfl ?_
    obtain ⟨e22, he22, hX⟩ := bind_some hX
    refine TL.p (C := cx) (gc := (!((e21.Lost || (decide (n2 < (0 : Int))))))) (p_iaL (xs := l1) kd35 ty48 rfl rfl rfl (fun e => optG_t he22 e) (hg := fun e => ⟨e, e⟩)) (gcF1 rfl) rfl ?_
    refine TL.p (C := cx) (gc := (!((e21.Lost || (decide (n2 < (0 : Int))))))) (p_faE fs48_2 (by decide) rfl (hg := fun e => e)) (gcF1 rfl) rfl ?_
    refine TL.p (C := cx) (gc := (!((e21.Lost || (decide (n2 < (0 : Int))))))) (p_ldE (xs := l1) (a := e22) (e22.Blocks : (List (List UInt8))) ty22 rfl rfl (fun e => optG_t he22 e) rfl rfl rfl (hg := fun e => e)) (gcF1 rfl) rfl ?_
    refine TL.p (C := cx) (gc := (!((e21.Lost || (decide (n2 < (0 : Int))))))) (p_lenL (xs := e22.Blocks) kd22 rfl (hg := fun e => e)) (gcF1 rfl) rfl ?_
    refine TL.p (C := cx) (gc := (!((e21.Lost || (decide (n2 < (0 : Int))))))) (p_geq rfl rfl (hg := fun e => ⟨e, e⟩)) (gcF1 rfl) rfl ?_
    refine TL.p (C := cx) (gc := true) (p_or rfl rfl (fun e => ⟨rfl, fun h => (not_t h)⟩)) rfl rfl ?_
    refine TL.p (C := cx) (gc := true) (p_mv rfl) rfl rfl ?_
    refine TL.nil ?_
    refine hK20 _ _ ?_
    refine TK.cond (b := ((e21.Lost || (decide (n2 < (0 : Int)))) || (decide (n2 ≥ (e22.Blocks.length : Int))))) rfl (fun hc => ?_) (fun hc => ?_)
    · have hX := ite_t hc hX
      refine TK.reg ?_
      refine TL.p (C := cx) (gc := true) (p_mv rfl) rfl rfl ?_
      obtain ⟨u23, hu23, hX⟩ := bind_some hX
      refine TL.mkV (C := cx) nd (0 : UInt8) kd23 ty5 rfl (fun j hj => by (have : j = 0 := by simpa [Enc.sz] using hj); subst this; rfl) rfl rfl (by decide) (need_t hu23) rfl ?_
      refine TL.lit (C := cx) ([(List.replicate (79 : Int).toNat (0 : UInt8))] : List (List UInt8)) kd22 ty23 rfl ⟨⟨rfl, rfl⟩, trivial⟩ rfl rfl rfl ?_
      obtain ⟨u24, hu24, hX⟩ := bind_some hX
      refine TL.appO (C := cx) nd kd22 bo22 ty23 rfl rfl (j := 0) rfl rfl (Src_L _) (by decide) (need_t hu24) rfl fun nd => ?_
      refine TL.p (C := cx) (gc := true) (p_mv rfl) rfl rfl ?_
      refine TL.nil ?_
      exact J17 (out10 ++ ([(List.replicate (79 : Int).toNat (0 : UInt8))] : List (List UInt8))) _ _ ⟨b9, rfl, (Nd.pick nd (is := [0]) (by decide)), (HSub.pick nd (is := [0]) (by decide))⟩ hX
    · have hX := ite_f hc hX
      refine TK.seq_k fun K25 hK25 => ?_
      refine TK.reg ?_
      refine TL.p (C := cx) (gc := true) (p_mv rfl) rfl rfl ?_
      refine TL.p (C := cx) (gc := true) (p_mv rfl) rfl rfl ?_
      obtain ⟨e26, he26, hX⟩ := bind_some hX
      refine TL.p (C := cx) (gc := true) (p_iaL (xs := l1) kd35 ty48 rfl rfl rfl (fun _ => he26)) rfl rfl ?_
      refine TL.p (C := cx) (gc := true) (p_faE fs48_2 (by decide) rfl) rfl rfl ?_
      refine TL.p (C := cx) (gc := true) (p_ldE (xs := l1) (a := e26) (e26.Blocks : (List (List UInt8))) ty22 rfl rfl (fun _ => he26) rfl rfl rfl) rfl rfl ?_
      refine TL.p (C := cx) (gc := true) (p_mv rfl) rfl rfl ?_
      obtain ⟨e27, he27, hX⟩ := bind_some hX
      refine TL.p (C := cx) (gc := true) (p_iaL (xs := e26.Blocks) kd22 ty23 rfl rfl rfl (fun _ => he27)) rfl rfl ?_
      refine TL.p (C := cx) (gc := true) (p_ldE (xs := e26.Blocks) (a := e27) (e27 : (List UInt8)) ty23 rfl rfl (fun _ => he27) rfl rfl rfl) rfl rfl ?_
      refine TL.p (C := cx) (gc := true) (p_lenL (xs := e27) kd23 rfl) rfl rfl ?_
      refine TL.p (C := cx) (gc := true) (p_eql rfl rfl) rfl rfl ?_
      refine TL.p (C := cx) (gc := true) (p_mv rfl) rfl rfl ?_
      refine TL.nil ?_
      refine hK25 _ _ ?_
      refine TK.cond (b := ((e27.length : Int) == (79 : Int))) rfl (fun hc => ?_) (fun hc => ?_)
      · have hX := ite_t hc hX
        refine TK.reg ?_
        refine TL.p (C := cx) (gc := true) (p_mv rfl) rfl rfl ?_
        refine TL.p (C := cx) (gc := true) (p_mv rfl) rfl rfl ?_
        refine TL.p (C := cx) (gc := true) (p_mv rfl) rfl rfl ?_
        obtain ⟨e28, he28, hX⟩ := bind_some hX
        refine TL.p (C := cx) (gc := true) (p_iaL (xs := l1) kd35 ty48 rfl rfl rfl (fun _ => he28)) rfl rfl ?_
        refine TL.p (C := cx) (gc := true) (p_faE fs48_2 (by decide) rfl) rfl rfl ?_
        refine TL.p (C := cx) (gc := true) (p_ldE (xs := l1) (a := e28) (e28.Blocks : (List (List UInt8))) ty22 rfl rfl (fun _ => he28) rfl rfl rfl) rfl rfl ?_
        refine TL.p (C := cx) (gc := true) (p_mv rfl) rfl rfl ?_
        obtain ⟨e29, he29, hX⟩ := bind_some hX
        refine TL.p (C := cx) (gc := true) (p_iaL (xs := e28.Blocks) kd22 ty23 rfl rfl rfl (fun _ => he29)) rfl rfl ?_
        refine TL.p (C := cx) (gc := true) (p_ldE (xs := e28.Blocks) (a := e29) (e29 : (List UInt8)) ty23 rfl rfl (fun _ => he29) rfl rfl rfl) rfl rfl ?_
        obtain ⟨u30, hu30, hX⟩ := bind_some hX
        refine TL.appN (C := cx) nd kd23 bo23 ty5 rfl rfl (.inl rfl) rfl (Src_L _) (by decide) (need_t hu30) rfl fun b31 nd => ?_
        refine TL.lay [(60, L e29)] nd (j := 0) rfl ⟨⟨_, rfl, fix_OL nd (j := 0) rfl, rfl⟩, trivial⟩ fun nd => ?_
        refine TL.lit (C := cx) ([e29] : List (List UInt8)) kd22 ty23 rfl ⟨⟨rfl, rfl⟩, trivial⟩ rfl rfl rfl ?_
        obtain ⟨u32, hu32, hX⟩ := bind_some hX
        refine TL.appO (C := cx) nd kd22 bo22 ty23 rfl rfl (j := 0) rfl rfl (Src_L _) (by decide) (need_t hu32) rfl fun nd => ?_
        refine TL.p (C := cx) (gc := true) (p_mv rfl) rfl rfl ?_
        refine TL.nil ?_
        exact J17 (out10 ++ ([e29] : List (List UInt8))) _ _ ⟨b9, rfl, (Nd.pick nd (is := [0]) (by decide)), (HSub.pick nd (is := [0]) (by decide))⟩ hX
      · have hX := ite_f hc hX
        refine TK.reg ?_
        refine TL.p (C := cx) (gc := true) (p_mv rfl) rfl rfl ?_
        refine TL.litN (C := cx) ([([] : (List UInt8))] : List (List UInt8)) kd22 ty23 rfl ⟨⟨rfl, _, rfl, .inr ⟨rfl, rfl⟩⟩, trivial⟩ rfl rfl rfl ?_
        obtain ⟨u33, hu33, hX⟩ := bind_some hX
        refine TL.appO (C := cx) nd kd22 bo22 ty23 rfl rfl (j := 0) rfl rfl (Src_L _) (by decide) (need_t hu33) rfl fun nd => ?_
        refine TL.p (C := cx) (gc := true) (p_mv rfl) rfl rfl ?_
        refine TL.nil ?_
        exact J17 (out10 ++ ([([] : (List UInt8))] : List (List UInt8))) _ _ ⟨b9, rfl, (Nd.pick nd (is := [0]) (by decide)), (HSub.pick nd (is := [0]) (by decide))⟩ hX
  · have hX := ite_f hc hX
    refine TK.exit ?_
    obtain rfl := hR8 _ (some_in hX).symm
    exact E8 out10 _ _ ⟨b9, rfl, (Nd.pick nd (is := [0]) (by decide)), (HSub.pick nd (is := [0]) (by decide))⟩ hA8

/-- cartridge/cartridgeref1.Mul -/
theorem ok_cartridgeref1_Mul (a1 : UInt8) (b2 : UInt8) (r : UInt8) (hX : X.cartridgeref1_Mul a1 b2 = some r) : Fun Try.prog 20 [Enc.v (a1 : UInt8), Enc.v (b2 : UInt8)] (· = Enc.v (r : UInt8)) := by
  refine Fun.of b20 (Nat.le_of_ble_eq_true rfl) (allVal.mem ⟨(by exact (v_val _)), (by exact (v_val _)), trivial⟩) ?_
  unfold k20
  have nd : Nd [] := Nd_nil
  unfold X.cartridgeref1_Mul at hX
  refine TK.seq_k fun K3 hK3 => ?_
  refine TK.reg ?_
  refine TL.p (C := cx) (gc := true) (p_mv rfl) rfl rfl ?_
  refine TL.nil ?_
  refine hK3 _ _ ?_
  refine TK.seq_k fun K4 hK4 => ?_
  refine TK.reg ?_
  refine TL.p (C := cx) (gc := true) (p_mv rfl) rfl rfl ?_
  refine TL.nil ?_
  refine hK4 _ _ ?_
  refine TK.seq_k fun K5 hK5 => ?_
  refine TK.seq_k fun K6 hK6 => ?_
  refine TK.reg ?_
  refine TL.p (C := cx) (gc := true) (p_mv rfl) rfl rfl ?_
  refine TL.nil ?_
  refine hK6 _ _ ?_
  refine TK.block ?_
  obtain ⟨o7, hO7, hA7⟩ := bind_some hX
  have E7 : ∀ (x10 : Int) (env : Env) (h : Hp), (∃ _u : Unit, keepE [5] env = [(5, true, Enc.v (x10 : Int))] ∧ Nd [] ∧ HSub [] h) → X.cartridgeref1_Mul_e7 x10 = some r → K5 env h := by
    intro x10 env h hE hX
    obtain ⟨_u, henv, nd, hs⟩ := hE
    unfold X.cartridgeref1_Mul_e7 at hX
    refine hK5 _ _ (TK.keep [5] ?_)
    rw [henv]
    refine TK.subH hs ?_
    refine TK.seq_k fun K11 hK11 => ?_
    refine TK.seq_k fun K12 hK12 => ?_
    refine TK.reg ?_
    refine TL.p (C := cx) (gc := true) (p_mv rfl) rfl rfl ?_
    refine TL.nil ?_
    refine hK12 _ _ ?_
    refine TK.block ?_
    obtain ⟨o13, hO13, hA13⟩ := bind_some hX
    have E13 : ∀ (x16 : Int) (env : Env) (h : Hp), (∃ _u : Unit, keepE [5] env = [(5, true, Enc.v (x16 : Int))] ∧ Nd [] ∧ HSub [] h) → X.cartridgeref1_Mul_e13 x16 = some r → K11 env h := by
      intro x16 env h hE hX
      obtain ⟨_u, henv, nd, hs⟩ := hE
      unfold X.cartridgeref1_Mul_e13 at hX
      refine hK11 _ _ (TK.keep [5] ?_)
      rw [henv]
      refine TK.subH hs ?_
      refine TK.seq_k fun K17 hK17 => ?_
      refine TK.reg ?_
      refine TL.p (C := cx) (gc := true) (p_mv rfl) rfl rfl ?_
      refine TL.p (C := cx) (gc := true) (p_cvt src3 kd5 rfl (cv_u8 _)) rfl rfl ?_
      refine TL.p (C := cx) (gc := true) (p_mv rfl) rfl rfl ?_
      refine TL.nil ?_
      refine hK17 _ _ ?_
      refine TK.ret ?_
      try dsimp only [thenQ]
      exact ret1 (v := Enc.v ((u8 x16) : UInt8)) rfl (by obtain rfl := some_in hX; rfl) (v_val _)
    refine TK.iter [5, 7] (fun s env h => match s with | (x14, i15) => ∃ _u : Unit, env = [(5, true, Enc.v (x14 : Int)), (7, true, Enc.v (i15 : Int))] ∧ Nd [] ∧ HSub [] h) hO13 ⟨(), rfl, Nd_nil, HSub.refl _⟩ ?_
    rintro ⟨x14, i15⟩ env h x13x ⟨_u, rfl, nd, hs⟩ hX hR13
    refine TK.subH hs ?_
    unfold X.cartridgeref1_Mul_s13 at hX
    try dsimp only at hX
    refine TK.seq_k fun K18 hK18 => ?_
    refine TK.seq_k fun K19 hK19 => ?_
    refine TK.reg ?_
    refine TL.p (C := cx) (gc := true) (p_mv rfl) rfl rfl ?_
    refine TL.p (C := cx) (gc := true) (p_geq rfl rfl) rfl rfl ?_
    refine TL.nil ?_
    refine hK19 _ _ ?_
    refine TK.cond (b := (decide (i15 ≥ (8 : Int)))) rfl (fun hc => ?_) (fun hc => ?_)
    · have hX := ite_t hc hX
      refine TK.skip ?_
      refine hK18 _ _ ?_
      refine TK.seq_k fun K20 hK20 => ?_
      have J20 : ∀ (x21 : Int) (env : Env) (h : Hp), (∃ _u : Unit, keepE [5, 7] env = [(5, true, Enc.v (x21 : Int)), (7, true, Enc.v (i15 : Int))] ∧ Nd [] ∧ HSub [] h) → X.cartridgeref1_Mul_j20 i15 x21 = some x13x → K20 env h := by
        intro x21 env h hE hX
        obtain ⟨_u, henv, nd, hs⟩ := hE
        unfold X.cartridgeref1_Mul_j20 at hX
        refine hK20 _ _ (TK.keep [5, 7] ?_)
        rw [henv]
        refine TK.subH hs ?_
        refine TK.reg ?_
        refine TL.p (C := cx) (gc := true) (p_mv rfl) rfl rfl ?_
        refine TL.p (C := cx) (gc := true) (p_sub rfl rfl) rfl rfl ?_
        refine TL.p (C := cx) (gc := true) (p_mv rfl) rfl rfl ?_
        refine TL.nil ?_
        exact ⟨_, (some_in hX).symm, (), rfl, Nd_nil, HSub.refl _⟩
      refine TK.block ?_
      refine TK.seq_k fun K22 hK22 => ?_
      refine TK.reg ?_
      refine TL.p (C := cx) (gc := true) (p_mv rfl) rfl rfl ?_
      refine TL.p (C := cx) (gc := true) (p_mv rfl) rfl rfl ?_
      refine TL.p (C := cx) (gc := true) (p_cvt src3 kd97 rfl (cv_u64 _)) rfl rfl ?_
      refine TL.p (C := cx) (gc := true) (p_shr rfl rfl (fun _ => by omega)) rfl rfl ?_
      refine TL.p (C := cx) (gc := true) (p_and64 rfl rfl) rfl rfl ?_
      refine TL.p (C := cx) (gc := true) (p_eql rfl rfl) rfl rfl ?_
      refine TL.nil ?_
      refine hK22 _ _ ?_
      refine TK.cond (b := ((and64 (shr64 x14 ((u64 i15).toNat : Int)) (1 : Int)) == (1 : Int))) rfl (fun hc => ?_) (fun hc => ?_)
      · have hX := ite_t hc hX
        refine TK.reg ?_
        refine TL.p (C := cx) (gc := true) (p_mv rfl) rfl rfl ?_
        refine TL.p (C := cx) (gc := true) (p_mv rfl) rfl rfl ?_
        refine TL.p (C := cx) (gc := true) (p_sub rfl rfl) rfl rfl ?_
        refine TL.p (C := cx) (gc := true) (p_cvt src3 kd97 rfl (cv_u64 _)) rfl rfl ?_
        refine TL.p (C := cx) (gc := true) (p_shl rfl rfl (fun _ => by omega)) rfl rfl ?_
        refine TL.p (C := cx) (gc := true) (p_xor64 rfl rfl) rfl rfl ?_
        refine TL.p (C := cx) (gc := true) (p_mv rfl) rfl rfl ?_
        refine TL.nil ?_
        exact J20 (xor64 x14 (shl64 (285 : Int) ((u64 (wr (i15 - (8 : Int)))).toNat : Int))) _ _ ⟨(), rfl, Nd_nil, HSub.refl _⟩ hX
      · have hX := ite_f hc hX
        refine TK.skip ?_
        exact J20 x14 _ _ ⟨(), rfl, Nd_nil, HSub.refl _⟩ hX
    · have hX := ite_f hc hX
      refine TK.exit ?_
      obtain rfl := hR13 _ (some_in hX).symm
      exact E13 x14 _ _ ⟨(), rfl, Nd_nil, HSub.refl _⟩ hA13
  refine TK.iter [0, 1, 5, 6] (fun s env h => match s with | (x8, i9) => ∃ _u : Unit, env = [(0, true, Enc.v (a1 : UInt8)), (1, true, Enc.v (b2 : UInt8)), (5, true, Enc.v (x8 : Int)), (6, true, Enc.v (i9 : Int))] ∧ Nd [] ∧ HSub [] h) hO7 ⟨(), rfl, Nd_nil, HSub.refl _⟩ ?_
  rintro ⟨x8, i9⟩ env h x7x ⟨_u, rfl, nd, hs⟩ hX hR7
  refine TK.subH hs ?_
  unfold X.cartridgeref1_Mul_s7 at hX
  try dsimp only at hX
  refine TK.seq_k fun K23 hK23 => ?_
  refine TK.seq_k fun K24 hK24 => ?_
  refine TK.reg ?_
  refine TL.p (C := cx) (gc := true) (p_mv rfl) rfl rfl ?_
  refine TL.p (C := cx) (gc := true) (p_lss rfl rfl) rfl rfl ?_
  refine TL.nil ?_
  refine hK24 _ _ ?_
  refine TK.cond (b := (decide (i9 < (8 : Int)))) rfl (fun hc => ?_) (fun hc => ?_)
  · have hX := ite_t hc hX
    refine TK.skip ?_
    refine hK23 _ _ ?_
    refine TK.seq_k fun K25 hK25 => ?_
    have J25 : ∀ (x26 : Int) (env : Env) (h : Hp), (∃ _u : Unit, keepE [0, 1, 5, 6] env = [(0, true, Enc.v (a1 : UInt8)), (1, true, Enc.v (b2 : UInt8)), (5, true, Enc.v (x26 : Int)), (6, true, Enc.v (i9 : Int))] ∧ Nd [] ∧ HSub [] h) → X.cartridgeref1_Mul_j25 i9 x26 = some x7x → K25 env h := by
      intro x26 env h hE hX
      obtain ⟨_u, henv, nd, hs⟩ := hE
      unfold X.cartridgeref1_Mul_j25 at hX
      refine hK25 _ _ (TK.keep [0, 1, 5, 6] ?_)
      rw [henv]
      refine TK.subH hs ?_
      refine TK.reg ?_
      refine TL.p (C := cx) (gc := true) (p_mv rfl) rfl rfl ?_
      refine TL.p (C := cx) (gc := true) (p_add rfl rfl) rfl rfl ?_
      refine TL.p (C := cx) (gc := true) (p_mv rfl) rfl rfl ?_
      refine TL.nil ?_
      exact ⟨_, (some_in hX).symm, (), rfl, Nd_nil, HSub.refl _⟩
    refine TK.block ?_
    refine TK.seq_k fun K27 hK27 => ?_
    refine TK.reg ?_
    refine TL.p (C := cx) (gc := true) (p_mv rfl) rfl rfl ?_
    refine TL.p (C := cx) (gc := true) (p_mv rfl) rfl rfl ?_
    refine TL.p (C := cx) (gc := true) (p_cvt src3 kd97 rfl (cv_u64 _)) rfl rfl ?_
    refine TL.p (C := cx) (gc := true) (p8_shr (a := b2) (b := (u64 i9).toNat) rfl rfl) rfl rfl ?_
    refine TL.p (C := cx) (gc := true) (p8_and (a := (shr8 b2 (u64 i9).toNat)) (b := (1 : UInt8)) rfl rfl) rfl rfl ?_
    refine TL.p (C := cx) (gc := true) (p8_eql (a := ((shr8 b2 (u64 i9).toNat) &&& (1 : UInt8))) (b := (1 : UInt8)) rfl rfl) rfl rfl ?_
    refine TL.nil ?_
    refine hK27 _ _ ?_
    refine TK.cond (b := (((shr8 b2 (u64 i9).toNat) &&& (1 : UInt8)) == (1 : UInt8))) rfl (fun hc => ?_) (fun hc => ?_)
    · have hX := ite_t hc hX
      refine TK.reg ?_
      refine TL.p (C := cx) (gc := true) (p_mv rfl) rfl rfl ?_
      refine TL.p (C := cx) (gc := true) (p_mv rfl) rfl rfl ?_
      refine TL.p (C := cx) (gc := true) (p_cvt src5 kd3 rfl (cv_8 a1)) rfl rfl ?_
      refine TL.p (C := cx) (gc := true) (p_mv rfl) rfl rfl ?_
      refine TL.p (C := cx) (gc := true) (p_cvt src3 kd97 rfl (cv_u64 _)) rfl rfl ?_
      refine TL.p (C := cx) (gc := true) (p_shl rfl rfl (fun _ => by omega)) rfl rfl ?_
      refine TL.p (C := cx) (gc := true) (p_xor64 rfl rfl) rfl rfl ?_
      refine TL.p (C := cx) (gc := true) (p_mv rfl) rfl rfl ?_
      refine TL.nil ?_
      exact J25 (xor64 x8 (shl64 (a1.toNat : Int) ((u64 i9).toNat : Int))) _ _ ⟨(), rfl, Nd_nil, HSub.refl _⟩ hX
    · have hX := ite_f hc hX
      refine TK.skip ?_
      exact J25 x8 _ _ ⟨(), rfl, Nd_nil, HSub.refl _⟩ hX
  · have hX := ite_f hc hX
    refine TK.exit ?_
    obtain rfl := hR7 _ (some_in hX).symm
    exact E7 x8 _ _ ⟨(), rfl, Nd_nil, HSub.refl _⟩ hA7

/-- cartridge/cartridgeref1.Inv -/
theorem ok_cartridgeref1_Inv (a1 : UInt8) (r : UInt8) (hX : X.cartridgeref1_Inv a1 = some r) : Fun Try.prog 72 [Enc.v (a1 : UInt8)] (· = Enc.v (r : UInt8)) := by
  refine Fun.of b72 (Nat.le_of_ble_eq_true rfl) (allVal.mem ⟨(by exact (v_val _)), trivial⟩) ?_
  unfold k72
  have nd : Nd [] := Nd_nil
  unfold X.cartridgeref1_Inv at hX
  refine TK.seq_k fun K2 hK2 => ?_
  refine TK.reg ?_
  refine TL.p (C := cx) (gc := true) (p_mv rfl) rfl rfl ?_
  refine TL.nil ?_
  refine hK2 _ _ ?_
  refine TK.seq_k fun K3 hK3 => ?_
  refine TK.reg ?_
  refine TL.p (C := cx) (gc := true) (p_mv rfl) rfl rfl ?_
  refine TL.nil ?_
  refine hK3 _ _ ?_
  refine TK.seq_k fun K4 hK4 => ?_
  refine TK.seq_k fun K5 hK5 => ?_
  refine TK.reg ?_
  refine TL.p (C := cx) (gc := true) (p_mv rfl) rfl rfl ?_
  refine TL.nil ?_
  refine hK5 _ _ ?_
  refine TK.block ?_
  obtain ⟨o6, hO6, hA6⟩ := bind_some hX
  have E6 : ∀ (x9 : UInt8) (env : Env) (h : Hp), (∃ _u : Unit, keepE [3] env = [(3, true, Enc.v (x9 : UInt8))] ∧ Nd [] ∧ HSub [] h) → X.cartridgeref1_Inv_e6 x9 = some r → K4 env h := by
    intro x9 env h hE hX
    obtain ⟨_u, henv, nd, hs⟩ := hE
    unfold X.cartridgeref1_Inv_e6 at hX
    refine hK4 _ _ (TK.keep [3] ?_)
    rw [henv]
    refine TK.subH hs ?_
    refine TK.seq_k fun K10 hK10 => ?_
    refine TK.reg ?_
    refine TL.p (C := cx) (gc := true) (p_mv rfl) rfl rfl ?_
    refine TL.p (C := cx) (gc := true) (p_mv rfl) rfl rfl ?_
    refine TL.nil ?_
    refine hK10 _ _ ?_
    refine TK.ret ?_
    try dsimp only [thenQ]
    exact ret1 (v := Enc.v (x9 : UInt8)) rfl (by obtain rfl := some_in hX; rfl) (v_val _)
  refine TK.iter [0, 3, 4] (fun s env h => match s with | (x7, i8) => ∃ _u : Unit, env = [(0, true, Enc.v (a1 : UInt8)), (3, true, Enc.v (x7 : UInt8)), (4, true, Enc.v (i8 : Int))] ∧ Nd [] ∧ HSub [] h) hO6 ⟨(), rfl, Nd_nil, HSub.refl _⟩ ?_
  rintro ⟨x7, i8⟩ env h x6x ⟨_u, rfl, nd, hs⟩ hX hR6
  refine TK.subH hs ?_
  unfold X.cartridgeref1_Inv_s6 at hX
  try dsimp only at hX
  refine TK.seq_k fun K11 hK11 => ?_
  refine TK.seq_k fun K12 hK12 => ?_
  refine TK.reg ?_
  refine TL.p (C := cx) (gc := true) (p_mv rfl) rfl rfl ?_
  refine TL.p (C := cx) (gc := true) (p_lss rfl rfl) rfl rfl ?_
  refine TL.nil ?_
  refine hK12 _ _ ?_
  refine TK.cond (b := (decide (i8 < (254 : Int)))) rfl (fun hc => ?_) (fun hc => ?_)
  · have hX := ite_t hc hX
    refine TK.skip ?_
    refine hK11 _ _ ?_
    refine TK.seq_k fun K13 hK13 => ?_
    refine TK.block ?_
    refine TK.reg ?_
    refine TL.p (C := cx) (gc := true) (p_mv rfl) rfl rfl ?_
    refine TL.p (C := cx) (gc := true) (p_mv rfl) rfl rfl ?_
    obtain ⟨r14, hr14, hX⟩ := bind_some hX
    refine TL.cvX rfl rfl rfl (fun _ => ⟨rfl, ⟨rfl, ⟨rfl, trivial⟩⟩⟩) (fun e => ok_cartridgeref1_Mul x7 a1 _ hr14) ?_
    refine TL.p (C := cx) (gc := true) (p_mv rfl) rfl rfl ?_
    refine TL.nil ?_
    refine hK13 _ _ ?_
    refine TK.reg ?_
    refine TL.p (C := cx) (gc := true) (p_mv rfl) rfl rfl ?_
    refine TL.p (C := cx) (gc := true) (p_add rfl rfl) rfl rfl ?_
    refine TL.p (C := cx) (gc := true) (p_mv rfl) rfl rfl ?_
    refine TL.nil ?_
    exact ⟨_, (some_in hX).symm, (), rfl, Nd_nil, HSub.refl _⟩
  · have hX := ite_f hc hX
    refine TK.exit ?_
    obtain rfl := hR6 _ (some_in hX).symm
    exact E6 x7 _ _ ⟨(), rfl, Nd_nil, HSub.refl _⟩ hA6

/-- cartridge/cartridgeref1.Cauchy -/
theorem ok_cartridgeref1_Cauchy (data1 : Int) (parity2 : Int) (r : ((List (List UInt8)) × Int)) (hX : X.cartridgeref1_Cauchy data1 parity2 = some r) : Fun Try.prog 38 [Enc.v (data1 : Int), Enc.v (parity2 : Int)] (· = .tup 2 (ofL [Enc.v r.1, Enc.v r.2])) := by
  refine Fun.of b38 (Nat.le_of_ble_eq_true rfl) (allVal.mem ⟨(by exact (v_val _)), (by exact (v_val _)), trivial⟩) ?_
  unfold k38
  have nd : Nd [] := Nd_nil
  unfold X.cartridgeref1_Cauchy at hX
  refine TK.seq_k fun K3 hK3 => ?_
  refine TK.reg ?_
  refine TL.p (C := cx) (gc := true) (p_mv rfl) rfl rfl ?_
  refine TL.p (C := cx) (gc := true) (p_mv rfl) rfl rfl ?_
  refine TL.nil ?_
  refine hK3 _ _ ?_
  refine TK.seq_k fun K4 hK4 => ?_
  refine TK.seq_k fun K5 hK5 => ?_
  refine TK.reg ?_
  refine TL.p (C := cx) (gc := true) (p_mv rfl) rfl rfl ?_
  refine TL.p (C := cx) (gc := true) (p_lss rfl rfl) rfl rfl ?_
  refine TL.p (C := cx) (gc := true) (p_mv rfl) rfl rfl ?_
  refine TL.p (C := cx) (gc := (!((decide (data1 < (1 : Int)))))) (p_mv rfl (hg := fun e => rfl)) (gcF1 rfl) rfl ?_
  refine TL.p (C := cx) (gc := (!((decide (data1 < (1 : Int)))))) (p_lss rfl rfl (hg := fun e => ⟨e, rfl⟩)) (gcF1 rfl) rfl ?_
  refine TL.p (C := cx) (gc := true) (p_or rfl rfl (fun e => ⟨rfl, fun h => (not_t h)⟩)) rfl rfl ?_
  refine TL.p (C := cx) (gc := true) (p_mv rfl) rfl rfl ?_
  refine TL.p (C := cx) (gc := (!(((decide (data1 < (1 : Int))) || (decide (parity2 < (1 : Int))))))) (p_mv rfl (hg := fun e => rfl)) (gcF1 rfl) rfl ?_
  refine TL.p (C := cx) (gc := (!(((decide (data1 < (1 : Int))) || (decide (parity2 < (1 : Int))))))) (p_gtr rfl rfl (hg := fun e => ⟨e, rfl⟩)) (gcF1 rfl) rfl ?_
  refine TL.p (C := cx) (gc := true) (p_or rfl rfl (fun e => ⟨rfl, fun h => (not_t h)⟩)) rfl rfl ?_
  refine TL.p (C := cx) (gc := true) (p_mv rfl) rfl rfl ?_
  refine TL.p (C := cx) (gc := (!((((decide (data1 < (1 : Int))) || (decide (parity2 < (1 : Int)))) || (decide (data1 > (255 : Int))))))) (p_mv rfl (hg := fun e => rfl)) (gcF1 rfl) rfl ?_
  refine TL.p (C := cx) (gc := (!((((decide (data1 < (1 : Int))) || (decide (parity2 < (1 : Int)))) || (decide (data1 > (255 : Int))))))) (p_gtr rfl rfl (hg := fun e => ⟨e, rfl⟩)) (gcF1 rfl) rfl ?_
  refine TL.p (C := cx) (gc := true) (p_or rfl rfl (fun e => ⟨rfl, fun h => (not_t h)⟩)) rfl rfl ?_
  refine TL.p (C := cx) (gc := true) (p_mv rfl) rfl rfl ?_
  refine TL.p (C := cx) (gc := (!(((((decide (data1 < (1 : Int))) || (decide (parity2 < (1 : Int)))) || (decide (data1 > (255 : Int)))) || (decide (parity2 > (255 : Int))))))) (p_mv rfl (hg := fun e => rfl)) (gcF1 rfl) rfl ?_
  refine TL.p (C := cx) (gc := (!(((((decide (data1 < (1 : Int))) || (decide (parity2 < (1 : Int)))) || (decide (data1 > (255 : Int)))) || (decide (parity2 > (255 : Int))))))) (p_mv rfl (hg := fun e => rfl)) (gcF1 rfl) rfl ?_
  refine TL.p (C := cx) (gc := (!(((((decide (data1 < (1 : Int))) || (decide (parity2 < (1 : Int)))) || (decide (data1 > (255 : Int)))) || (decide (parity2 > (255 : Int))))))) (p_add rfl rfl (hg := fun e => ⟨e, e⟩)) (gcF1 rfl) rfl ?_
  refine TL.p (C := cx) (gc := (!(((((decide (data1 < (1 : Int))) || (decide (parity2 < (1 : Int)))) || (decide (data1 > (255 : Int)))) || (decide (parity2 > (255 : Int))))))) (p_gtr rfl rfl (hg := fun e => ⟨e, rfl⟩)) (gcF1 rfl) rfl ?_
  refine TL.p (C := cx) (gc := true) (p_or rfl rfl (fun e => ⟨rfl, fun h => (not_t h)⟩)) rfl rfl ?_
  refine TL.nil ?_
  refine hK5 _ _ ?_
  refine TK.cond (b := (((((decide (data1 < (1 : Int))) || (decide (parity2 < (1 : Int)))) || (decide (data1 > (255 : Int)))) || (decide (parity2 > (255 : Int)))) || (decide ((wr (data1 + parity2)) > (255 : Int))))) rfl (fun hc => ?_) (fun hc => ?_)
  · have hX := ite_t hc hX
    refine TK.seq_k fun K6 hK6 => ?_
    refine TK.reg ?_
    refine TL.p (C := cx) (gc := true) (p_mv rfl) rfl rfl ?_
    refine TL.p (C := cx) (gc := true) (p_mv rfl) rfl rfl ?_
    refine TL.nil ?_
    refine hK6 _ _ ?_
    refine TK.wk 4 (L ([] : (List (List UInt8)))) rfl Wk_nil ?_
    refine TK.ret ?_
    try dsimp only [thenQ]
    exact retN (vs := [Enc.v (([] : (List (List UInt8))) : (List (List UInt8))), Enc.v ((1 : Int) : Int)]) ⟨rfl, rfl, trivial⟩ (by obtain rfl := some_in hX; rfl) (allVal.mem ⟨v_val _, v_val _, trivial⟩)
  · have hX := ite_f hc hX
    refine TK.skip ?_
    refine hK4 _ _ ?_
    refine TK.seq_k fun K7 hK7 => ?_
    refine TK.reg ?_
    refine TL.p (C := cx) (gc := true) (p_mv rfl) rfl rfl ?_
    refine TL.nil ?_
    refine hK7 _ _ ?_
    refine TK.ownL (α := (List UInt8)) 6 23 nd rfl (.inl rfl) fun b8 nd => ?_
    refine TK.seq_k fun K9 hK9 => ?_
    refine TK.seq_k fun K10 hK10 => ?_
    refine TK.reg ?_
    refine TL.p (C := cx) (gc := true) (p_mv rfl) rfl rfl ?_
    refine TL.nil ?_
    refine hK10 _ _ ?_
    refine TK.block ?_
    obtain ⟨o11, hO11, hA11⟩ := bind_some hX
    have E11 : ∀ (l16 : List (List UInt8)) (env : Env) (h : Hp), (∃ b15, keepE [6] env = [(6, true, OL (α := (List UInt8)) b15 l16)] ∧ Nd [(b15, RL (α := (List UInt8)) 23 l16)] ∧ HSub [(b15, RL (α := (List UInt8)) 23 l16)] h) → X.cartridgeref1_Cauchy_e11 l16 = some r → K9 env h := by
      intro l16 env h hE hX
      obtain ⟨b15, henv, nd, hs⟩ := hE
      unfold X.cartridgeref1_Cauchy_e11 at hX
      refine hK9 _ _ (TK.keep [6] ?_)
      rw [henv]
      refine TK.subH hs ?_
      refine TK.seq_k fun K17 hK17 => ?_
      refine TK.reg ?_
      refine TL.p (C := cx) (gc := true) (p_mv rfl) rfl rfl ?_
      refine TL.p (C := cx) (gc := true) (p_mv rfl) rfl rfl ?_
      refine TL.p (C := cx) (gc := true) (p_mv rfl) rfl rfl ?_
      refine TL.nil ?_
      refine hK17 _ _ ?_
      refine TK.lay [(4, L l16)] nd (j := 0) rfl ⟨⟨_, rfl, fix_OL nd (j := 0) rfl, rfl⟩, trivial⟩ fun nd => ?_
      refine TK.ret ?_
      try dsimp only [thenQ]
      exact retN (vs := [Enc.v (l16 : (List (List UInt8))), Enc.v ((0 : Int) : Int)]) ⟨rfl, rfl, trivial⟩ (by obtain rfl := some_in hX; rfl) (allVal.mem ⟨v_val _, v_val _, trivial⟩)
    refine TK.iter [0, 1, 6, 7] (fun s env h => match s with | (out13, i14) => ∃ b12, env = [(0, true, Enc.v (data1 : Int)), (1, true, Enc.v (parity2 : Int)), (6, true, OL (α := (List UInt8)) b12 out13), (7, true, Enc.v (i14 : Int))] ∧ Nd [(b12, RL (α := (List UInt8)) 23 out13)] ∧ HSub [(b12, RL (α := (List UInt8)) 23 out13)] h) hO11 ⟨b8, rfl, (Nd.pick nd (is := [0]) (by decide)), (HSub.pick nd (is := [0]) (by decide))⟩ ?_
    rintro ⟨out13, i14⟩ env h x11x ⟨b12, rfl, nd, hs⟩ hX hR11
    refine TK.subH hs ?_
    unfold X.cartridgeref1_Cauchy_s11 at hX
    try dsimp only at hX
    refine TK.seq_k fun K18 hK18 => ?_
    refine TK.seq_k fun K19 hK19 => ?_
    refine TK.reg ?_
    refine TL.p (C := cx) (gc := true) (p_mv rfl) rfl rfl ?_
    refine TL.p (C := cx) (gc := true) (p_mv rfl) rfl rfl ?_
    refine TL.p (C := cx) (gc := true) (p_lss rfl rfl) rfl rfl ?_
    refine TL.nil ?_
    refine hK19 _ _ ?_
    refine TK.cond (b := (decide (i14 < parity2))) rfl (fun hc => ?_) (fun hc => ?_)
    · have hX := ite_t hc hX
      refine TK.skip ?_
      refine hK18 _ _ ?_
      refine TK.seq_k fun K20 hK20 => ?_
      refine TK.block ?_
      refine TK.seq_k fun K21 hK21 => ?_
      refine TK.reg ?_
      refine TL.p (C := cx) (gc := true) (p_mv rfl) rfl rfl ?_
      refine TL.nil ?_
      refine hK21 _ _ ?_
      refine TK.ownL (α := UInt8) 8 5 nd rfl (.inl rfl) fun b22 nd => ?_
      refine TK.seq_k fun K23 hK23 => ?_
      refine TK.seq_k fun K24 hK24 => ?_
      refine TK.reg ?_
      refine TL.p (C := cx) (gc := true) (p_mv rfl) rfl rfl ?_
      refine TL.nil ?_
      refine hK24 _ _ ?_
      refine TK.block ?_
      obtain ⟨o25, hO25, hA25⟩ := bind_some hX
      have E25 : ∀ (l32 : List UInt8) (env : Env) (h : Hp), (∃ b30 b31, keepE [0, 1, 6, 7, 8] env = [(0, true, Enc.v (data1 : Int)), (1, true, Enc.v (parity2 : Int)), (6, true, OL (α := (List UInt8)) b30 out13), (7, true, Enc.v (i14 : Int)), (8, true, OL (α := UInt8) b31 l32)] ∧ Nd [(b30, RL (α := (List UInt8)) 23 out13), (b31, RL (α := UInt8) 5 l32)] ∧ HSub [(b30, RL (α := (List UInt8)) 23 out13), (b31, RL (α := UInt8) 5 l32)] h) → X.cartridgeref1_Cauchy_e25 out13 i14 l32 = some x11x → K23 env h := by
        intro l32 env h hE hX
        obtain ⟨b30, b31, henv, nd, hs⟩ := hE
        unfold X.cartridgeref1_Cauchy_e25 at hX
        refine hK23 _ _ (TK.keep [0, 1, 6, 7, 8] ?_)
        rw [henv]
        refine TK.subH hs ?_
        refine TK.reg ?_
        refine TL.p (C := cx) (gc := true) (p_mv rfl) rfl rfl ?_
        refine TL.p (C := cx) (gc := true) (p_mv rfl) rfl rfl ?_
        refine TL.lay [(52, L l32)] nd (j := 1) rfl ⟨⟨_, rfl, fix_OL nd (j := 1) rfl, rfl⟩, trivial⟩ fun nd => ?_
        refine TL.lit (C := cx) ([l32] : List (List UInt8)) kd22 ty23 rfl ⟨⟨rfl, rfl⟩, trivial⟩ rfl rfl rfl ?_
        obtain ⟨u33, hu33, hX⟩ := bind_some hX
        refine TL.appO (C := cx) nd kd22 bo22 ty23 rfl rfl (j := 0) rfl rfl (Src_L _) (by decide) (need_t hu33) rfl fun nd => ?_
        refine TL.p (C := cx) (gc := true) (p_mv rfl) rfl rfl ?_
        refine TL.nil ?_
        refine hK20 _ _ ?_
        refine TK.reg ?_
        refine TL.p (C := cx) (gc := true) (p_mv rfl) rfl rfl ?_
        refine TL.p (C := cx) (gc := true) (p_add rfl rfl) rfl rfl ?_
        refine TL.p (C := cx) (gc := true) (p_mv rfl) rfl rfl ?_
        refine TL.nil ?_
        exact ⟨_, (some_in hX).symm, b30, rfl, (Nd.pick nd (is := [0]) (by decide)), (HSub.pick nd (is := [0]) (by decide))⟩
      refine TK.iter [0, 1, 6, 7, 8, 9] (fun s env h => match s with | (row28, j29) => ∃ b26 b27, env = [(0, true, Enc.v (data1 : Int)), (1, true, Enc.v (parity2 : Int)), (6, true, OL (α := (List UInt8)) b26 out13), (7, true, Enc.v (i14 : Int)), (8, true, OL (α := UInt8) b27 row28), (9, true, Enc.v (j29 : Int))] ∧ Nd [(b26, RL (α := (List UInt8)) 23 out13), (b27, RL (α := UInt8) 5 row28)] ∧ HSub [(b26, RL (α := (List UInt8)) 23 out13), (b27, RL (α := UInt8) 5 row28)] h) hO25 ⟨b12, b22, rfl, (Nd.pick nd (is := [1, 0]) (by decide)), (HSub.pick nd (is := [1, 0]) (by decide))⟩ ?_
      rintro ⟨row28, j29⟩ env h x25x ⟨b26, b27, rfl, nd, hs⟩ hX hR25
      refine TK.subH hs ?_
      unfold X.cartridgeref1_Cauchy_s25 at hX
      try dsimp only at hX
      refine TK.seq_k fun K34 hK34 => ?_
      refine TK.seq_k fun K35 hK35 => ?_
      refine TK.reg ?_
      refine TL.p (C := cx) (gc := true) (p_mv rfl) rfl rfl ?_
      refine TL.p (C := cx) (gc := true) (p_mv rfl) rfl rfl ?_
      refine TL.p (C := cx) (gc := true) (p_lss rfl rfl) rfl rfl ?_
      refine TL.nil ?_
      refine hK35 _ _ ?_
      refine TK.cond (b := (decide (j29 < data1))) rfl (fun hc => ?_) (fun hc => ?_)
      · have hX := ite_t hc hX
        refine TK.skip ?_
        refine hK34 _ _ ?_
        refine TK.seq_k fun K36 hK36 => ?_
        refine TK.block ?_
        refine TK.reg ?_
        refine TL.p (C := cx) (gc := true) (p_mv rfl) rfl rfl ?_
        refine TL.p (C := cx) (gc := true) (p_mv rfl) rfl rfl ?_
        refine TL.p (C := cx) (gc := true) (p_cvt src3 kd5 rfl (cv_u8 _)) rfl rfl ?_
        refine TL.p (C := cx) (gc := true) (p_mv rfl) rfl rfl ?_
        refine TL.p (C := cx) (gc := true) (p_mv rfl) rfl rfl ?_
        refine TL.p (C := cx) (gc := true) (p_add rfl rfl) rfl rfl ?_
        refine TL.p (C := cx) (gc := true) (p_cvt src3 kd5 rfl (cv_u8 _)) rfl rfl ?_
        refine TL.p (C := cx) (gc := true) (p8_xor (a := (u8 i14)) (b := (u8 (wr (parity2 + j29)))) rfl rfl) rfl rfl ?_
        obtain ⟨r37, hr37, hX⟩ := bind_some hX
        refine TL.cvX rfl rfl rfl (fun _ => ⟨rfl, ⟨rfl, trivial⟩⟩) (fun e => ok_cartridgeref1_Inv ((u8 i14) ^^^ (u8 (wr (parity2 + j29)))) _ hr37) ?_
        refine TL.lit (C := cx) ([r37] : List UInt8) kd23 ty5 rfl ⟨⟨rfl, rfl⟩, trivial⟩ rfl rfl rfl ?_
        obtain ⟨u38, hu38, hX⟩ := bind_some hX
        refine TL.appO (C := cx) nd kd23 bo23 ty5 rfl rfl (j := 1) rfl rfl (Src_L _) (by decide) (need_t hu38) rfl fun nd => ?_
        refine TL.p (C := cx) (gc := true) (p_mv rfl) rfl rfl ?_
        refine TL.nil ?_
        refine hK36 _ _ ?_
        refine TK.reg ?_
        refine TL.p (C := cx) (gc := true) (p_mv rfl) rfl rfl ?_
        refine TL.p (C := cx) (gc := true) (p_add rfl rfl) rfl rfl ?_
        refine TL.p (C := cx) (gc := true) (p_mv rfl) rfl rfl ?_
        refine TL.nil ?_
        exact ⟨_, (some_in hX).symm, b26, b27, rfl, (Nd.pick nd (is := [0, 1]) (by decide)), (HSub.pick nd (is := [0, 1]) (by decide))⟩
      · have hX := ite_f hc hX
        refine TK.exit ?_
        obtain rfl := hR25 _ (some_in hX).symm
        exact E25 row28 _ _ ⟨b26, b27, rfl, (Nd.pick nd (is := [0, 1]) (by decide)), (HSub.pick nd (is := [0, 1]) (by decide))⟩ hA25
    · have hX := ite_f hc hX
      refine TK.exit ?_
      obtain rfl := hR11 _ (some_in hX).symm
      exact E11 out13 _ _ ⟨b12, rfl, (Nd.pick nd (is := [0]) (by decide)), (HSub.pick nd (is := [0]) (by decide))⟩ hA11

/-- cartridge/cartridgeref1.Encode -/
theorem ok_cartridgeref1_Encode (data1 : (List (List UInt8))) (parity2 : Int) (r : ((List (List UInt8)) × Int)) (hX : X.cartridgeref1_Encode data1 parity2 = some r) : Fun Try.prog 56 [Enc.v (data1 : (List (List UInt8))), Enc.v (parity2 : Int)] (· = .tup 2 (ofL [Enc.v r.1, Enc.v r.2])) := by
  refine Fun.of b56 (Nat.le_of_ble_eq_true rfl) (allVal.mem ⟨(by exact (v_val _)), (by exact (v_val _)), trivial⟩) ?_
  unfold k56
  have nd : Nd [] := Nd_nil
  unfold X.cartridgeref1_Encode at hX
  refine TK.seq_k fun K3 hK3 => ?_
  refine TK.reg ?_
  refine TL.p (C := cx) (gc := true) (p_mv rfl) rfl rfl ?_
  refine TL.p (C := cx) (gc := true) (p_mv rfl) rfl rfl ?_
  refine TL.nil ?_
  refine hK3 _ _ ?_
  refine TK.seq_k fun K4 hK4 => ?_
  refine TK.seq_k fun K5 hK5 => ?_
  refine TK.reg ?_
  refine TL.p (C := cx) (gc := true) (p_mv rfl) rfl rfl ?_
  refine TL.p (C := cx) (gc := true) (p_lenL (xs := data1) kd22 rfl) rfl rfl ?_
  refine TL.p (C := cx) (gc := true) (p_lss rfl rfl) rfl rfl ?_
  refine TL.p (C := cx) (gc := true) (p_mv rfl) rfl rfl ?_
  refine TL.p (C := cx) (gc := (!((decide ((data1.length : Int) < (1 : Int)))))) (p_mv rfl (hg := fun e => rfl)) (gcF1 rfl) rfl ?_
  refine TL.p (C := cx) (gc := (!((decide ((data1.length : Int) < (1 : Int)))))) (p_lss rfl rfl (hg := fun e => ⟨e, rfl⟩)) (gcF1 rfl) rfl ?_
  refine TL.p (C := cx) (gc := true) (p_or rfl rfl (fun e => ⟨rfl, fun h => (not_t h)⟩)) rfl rfl ?_
  refine TL.p (C := cx) (gc := true) (p_mv rfl) rfl rfl ?_
  refine TL.p (C := cx) (gc := (!(((decide ((data1.length : Int) < (1 : Int))) || (decide (parity2 < (0 : Int))))))) (p_mv rfl (hg := fun e => rfl)) (gcF1 rfl) rfl ?_
  refine TL.p (C := cx) (gc := (!(((decide ((data1.length : Int) < (1 : Int))) || (decide (parity2 < (0 : Int))))))) (p_gtr rfl rfl (hg := fun e => ⟨e, rfl⟩)) (gcF1 rfl) rfl ?_
  refine TL.p (C := cx) (gc := true) (p_or rfl rfl (fun e => ⟨rfl, fun h => (not_t h)⟩)) rfl rfl ?_
  refine TL.p (C := cx) (gc := true) (p_mv rfl) rfl rfl ?_
  refine TL.p (C := cx) (gc := (!((((decide ((data1.length : Int) < (1 : Int))) || (decide (parity2 < (0 : Int)))) || (decide (parity2 > (255 : Int))))))) (p_mv rfl (hg := fun e => rfl)) (gcF1 rfl) rfl ?_
  refine TL.p (C := cx) (gc := (!((((decide ((data1.length : Int) < (1 : Int))) || (decide (parity2 < (0 : Int)))) || (decide (parity2 > (255 : Int))))))) (p_lenL (xs := data1) kd22 rfl (hg := fun e => e)) (gcF1 rfl) rfl ?_
  refine TL.p (C := cx) (gc := (!((((decide ((data1.length : Int) < (1 : Int))) || (decide (parity2 < (0 : Int)))) || (decide (parity2 > (255 : Int))))))) (p_mv rfl (hg := fun e => rfl)) (gcF1 rfl) rfl ?_
  refine TL.p (C := cx) (gc := (!((((decide ((data1.length : Int) < (1 : Int))) || (decide (parity2 < (0 : Int)))) || (decide (parity2 > (255 : Int))))))) (p_add rfl rfl (hg := fun e => ⟨e, e⟩)) (gcF1 rfl) rfl ?_
  refine TL.p (C := cx) (gc := (!((((decide ((data1.length : Int) < (1 : Int))) || (decide (parity2 < (0 : Int)))) || (decide (parity2 > (255 : Int))))))) (p_gtr rfl rfl (hg := fun e => ⟨e, rfl⟩)) (gcF1 rfl) rfl ?_
  refine TL.p (C := cx) (gc := true) (p_or rfl rfl (fun e => ⟨rfl, fun h => (not_t h)⟩)) rfl rfl ?_
  refine TL.nil ?_
  refine hK5 _ _ ?_
  refine TK.cond (b := ((((decide ((data1.length : Int) < (1 : Int))) || (decide (parity2 < (0 : Int)))) || (decide (parity2 > (255 : Int)))) || (decide ((wr ((data1.length : Int) + parity2)) > (255 : Int))))) rfl (fun hc => ?_) (fun hc => ?_)
  · have hX := ite_t hc hX
    refine TK.seq_k fun K6 hK6 => ?_
    refine TK.reg ?_
    refine TL.p (C := cx) (gc := true) (p_mv rfl) rfl rfl ?_
    refine TL.p (C := cx) (gc := true) (p_mv rfl) rfl rfl ?_
    refine TL.nil ?_
    refine hK6 _ _ ?_
    refine TK.wk 4 (L ([] : (List (List UInt8)))) rfl Wk_nil ?_
    refine TK.ret ?_
    try dsimp only [thenQ]
    exact retN (vs := [Enc.v (([] : (List (List UInt8))) : (List (List UInt8))), Enc.v ((1 : Int) : Int)]) ⟨rfl, rfl, trivial⟩ (by obtain rfl := some_in hX; rfl) (allVal.mem ⟨v_val _, v_val _, trivial⟩)
  · have hX := ite_f hc hX
    refine TK.skip ?_
    refine hK4 _ _ ?_
    refine TK.seq_k fun K7 hK7 => ?_
    refine TK.seq_k fun K8 hK8 => ?_
    refine TK.reg ?_
    refine TL.p (C := cx) (gc := true) (p_mv rfl) rfl rfl ?_
    refine TL.nil ?_
    refine hK8 _ _ ?_
    refine TK.block ?_
    obtain ⟨o9, hO9, hA9⟩ := bind_some hX
    have E9 : ∀ (env : Env) (h : Hp), (∃ _u : Unit, keepE [0, 1] env = [(0, true, Enc.v (data1 : (List (List UInt8)))), (1, true, Enc.v (parity2 : Int))] ∧ Nd [] ∧ HSub [] h) → X.cartridgeref1_Encode_e9 parity2 data1 = some r → K7 env h := by
      intro  env h hE hX
      obtain ⟨_u, henv, nd, hs⟩ := hE
      unfold X.cartridgeref1_Encode_e9 at hX
      refine hK7 _ _ (TK.keep [0, 1] ?_)
      rw [henv]
      refine TK.subH hs ?_
      refine TK.seq_k fun K11 hK11 => ?_
      refine TK.seq_k fun K12 hK12 => ?_
      refine TK.reg ?_
      refine TL.p (C := cx) (gc := true) (p_mv rfl) rfl rfl ?_
      refine TL.p (C := cx) (gc := true) (p_eql rfl rfl) rfl rfl ?_
      refine TL.nil ?_
      refine hK12 _ _ ?_
      refine TK.cond (b := (parity2 == (0 : Int))) rfl (fun hc => ?_) (fun hc => ?_)
      · have hX := ite_t hc hX
        refine TK.seq_k fun K13 hK13 => ?_
        refine TK.reg ?_
        refine TL.p (C := cx) (gc := true) (p_mv rfl) rfl rfl ?_
        refine TL.p (C := cx) (gc := true) (p_mv rfl) rfl rfl ?_
        refine TL.nil ?_
        refine hK13 _ _ ?_
        refine TK.wk 4 (L ([] : (List (List UInt8)))) rfl Wk_nil ?_
        refine TK.ret ?_
        try dsimp only [thenQ]
        exact retN (vs := [Enc.v (([] : (List (List UInt8))) : (List (List UInt8))), Enc.v ((0 : Int) : Int)]) ⟨rfl, rfl, trivial⟩ (by obtain rfl := some_in hX; rfl) (allVal.mem ⟨v_val _, v_val _, trivial⟩)
      · have hX := ite_f hc hX
        refine TK.skip ?_
        refine hK11 _ _ ?_
        refine TK.seq_k fun K14 hK14 => ?_
        refine TK.reg ?_
        refine TL.p (C := cx) (gc := true) (p_mv rfl) rfl rfl ?_
        refine TL.p (C := cx) (gc := true) (p_lenL (xs := data1) kd22 rfl) rfl rfl ?_
        refine TL.p (C := cx) (gc := true) (p_mv rfl) rfl rfl ?_
        obtain ⟨r15, hr15, hX⟩ := bind_some hX
        refine TL.cvX rfl rfl rfl (fun _ => ⟨rfl, ⟨rfl, ⟨rfl, trivial⟩⟩⟩) (fun e => ok_cartridgeref1_Cauchy (data1.length : Int) parity2 _ hr15) ?_
        refine TL.p (C := cx) (gc := true) (p_mv rfl) rfl rfl ?_
        refine TL.p (C := cx) (gc := true) (p_ex rfl rfl (by decide)) rfl rfl ?_
        refine TL.p (C := cx) (gc := true) (p_ex rfl rfl (by decide)) rfl rfl ?_
        refine TL.p (C := cx) (gc := true) (p_mv rfl) rfl rfl ?_
        refine TL.p (C := cx) (gc := true) (p_mv rfl) rfl rfl ?_
        refine TL.nil ?_
        refine hK14 _ _ ?_
        refine TK.seq_k fun K16 hK16 => ?_
        refine TK.reg ?_
        refine TL.p (C := cx) (gc := true) (p_mv rfl) rfl rfl ?_
        refine TL.nil ?_
        refine hK16 _ _ ?_
        refine TK.ownL (α := (List UInt8)) 9 23 nd rfl (.inl rfl) fun b17 nd => ?_
        refine TK.seq_k fun K18 hK18 => ?_
        refine TK.seq_k fun K19 hK19 => ?_
        refine TK.reg ?_
        refine TL.p (C := cx) (gc := true) (p_mv rfl) rfl rfl ?_
        refine TL.nil ?_
        refine hK19 _ _ ?_
        refine TK.block ?_
        obtain ⟨o20, hO20, hA20⟩ := bind_some hX
        have E20 : ∀ (l25 : List (List UInt8)) (env : Env) (h : Hp), (∃ b24, keepE [9] env = [(9, true, OL (α := (List UInt8)) b24 l25)] ∧ Nd [(b24, RL (α := (List UInt8)) 23 l25)] ∧ HSub [(b24, RL (α := (List UInt8)) 23 l25)] h) → X.cartridgeref1_Encode_e20 l25 = some r → K18 env h := by
          intro l25 env h hE hX
          obtain ⟨b24, henv, nd, hs⟩ := hE
          unfold X.cartridgeref1_Encode_e20 at hX
          refine hK18 _ _ (TK.keep [9] ?_)
          rw [henv]
          refine TK.subH hs ?_
          refine TK.seq_k fun K26 hK26 => ?_
          refine TK.reg ?_
          refine TL.p (C := cx) (gc := true) (p_mv rfl) rfl rfl ?_
          refine TL.p (C := cx) (gc := true) (p_mv rfl) rfl rfl ?_
          refine TL.p (C := cx) (gc := true) (p_mv rfl) rfl rfl ?_
          refine TL.nil ?_
          refine hK26 _ _ ?_
          refine TK.lay [(4, L l25)] nd (j := 0) rfl ⟨⟨_, rfl, fix_OL nd (j := 0) rfl, rfl⟩, trivial⟩ fun nd => ?_
          refine TK.ret ?_
          try dsimp only [thenQ]
          exact retN (vs := [Enc.v (l25 : (List (List UInt8))), Enc.v ((0 : Int) : Int)]) ⟨rfl, rfl, trivial⟩ (by obtain rfl := some_in hX; rfl) (allVal.mem ⟨v_val _, v_val _, trivial⟩)
        refine TK.iter [0, 1, 7, 9, 10] (fun s env h => match s with | (out22, i23) => ∃ b21, env = [(0, true, Enc.v (data1 : (List (List UInt8)))), (1, true, Enc.v (parity2 : Int)), (7, true, Enc.v (r15.1 : (List (List UInt8)))), (9, true, OL (α := (List UInt8)) b21 out22), (10, true, Enc.v (i23 : Int))] ∧ Nd [(b21, RL (α := (List UInt8)) 23 out22)] ∧ HSub [(b21, RL (α := (List UInt8)) 23 out22)] h) hO20 ⟨b17, rfl, (Nd.pick nd (is := [0]) (by decide)), (HSub.pick nd (is := [0]) (by decide))⟩ ?_
        rintro ⟨out22, i23⟩ env h x20x ⟨b21, rfl, nd, hs⟩ hX hR20
        refine TK.subH hs ?_
        unfold X.cartridgeref1_Encode_s20 at hX
        try dsimp only at hX
        refine TK.seq_k fun K27 hK27 => ?_
        refine TK.seq_k fun K28 hK28 => ?_
        refine TK.reg ?_
        refine TL.p (C := cx) (gc := true) (p_mv rfl) rfl rfl ?_
        refine TL.p (C := cx) (gc := true) (p_mv rfl) rfl rfl ?_
        refine TL.p (C := cx) (gc := true) (p_lss rfl rfl) rfl rfl ?_
        refine TL.nil ?_
        refine hK28 _ _ ?_
        refine TK.cond (b := (decide (i23 < parity2))) rfl (fun hc => ?_) (fun hc => ?_)
        · have hX := ite_t hc hX
          refine TK.skip ?_
          refine hK27 _ _ ?_
          refine TK.seq_k fun K29 hK29 => ?_
          refine TK.block ?_
          refine TK.seq_k fun K30 hK30 => ?_
          refine TK.reg ?_
          refine TL.p (C := cx) (gc := true) (p_mv rfl) rfl rfl ?_
          obtain ⟨e31, he31, hX⟩ := bind_some hX
          refine TL.p (C := cx) (gc := true) (p_iaL (xs := data1) kd22 ty23 rfl rfl rfl (fun _ => he31)) rfl rfl ?_
          refine TL.p (C := cx) (gc := true) (p_ldE (xs := data1) (a := e31) (e31 : (List UInt8)) ty23 rfl rfl (fun _ => he31) rfl rfl rfl) rfl rfl ?_
          refine TL.p (C := cx) (gc := true) (p_lenL (xs := e31) kd23 rfl) rfl rfl ?_
          obtain ⟨u32, hu32, hX⟩ := bind_some hX
          refine TL.mkO (C := cx) nd (0 : UInt8) kd23 ty5 rfl (fun j hj => by (have : j = 0 := by simpa [Enc.sz] using hj); subst this; rfl) rfl rfl (by decide) (need_t hu32) rfl fun b33 nd => ?_
          refine TL.p (C := cx) (gc := true) (p_mv rfl) rfl rfl ?_
          refine TL.nil ?_
          refine hK30 _ _ ?_
          refine TK.seq_k fun K34 hK34 => ?_
          refine TK.seq_k fun K35 hK35 => ?_
          refine TK.reg ?_
          refine TL.p (C := cx) (gc := true) (p_mv rfl) rfl rfl ?_
          refine TL.nil ?_
          refine hK35 _ _ ?_
          refine TK.block ?_
          obtain ⟨o36, hO36, hA36⟩ := bind_some hX
          have E36 : ∀ (l43 : List UInt8) (env : Env) (h : Hp), (∃ b41 b42, keepE [0, 1, 7, 9, 10, 11] env = [(0, true, Enc.v (data1 : (List (List UInt8)))), (1, true, Enc.v (parity2 : Int)), (7, true, Enc.v (r15.1 : (List (List UInt8)))), (9, true, OL (α := (List UInt8)) b41 out22), (10, true, Enc.v (i23 : Int)), (11, true, OL (α := UInt8) b42 l43)] ∧ Nd [(b41, RL (α := (List UInt8)) 23 out22), (b42, RL (α := UInt8) 5 l43)] ∧ HSub [(b41, RL (α := (List UInt8)) 23 out22), (b42, RL (α := UInt8) 5 l43)] h) → X.cartridgeref1_Encode_e36 out22 i23 l43 = some x20x → K34 env h := by
            intro l43 env h hE hX
            obtain ⟨b41, b42, henv, nd, hs⟩ := hE
            unfold X.cartridgeref1_Encode_e36 at hX
            refine hK34 _ _ (TK.keep [0, 1, 7, 9, 10, 11] ?_)
            rw [henv]
            refine TK.subH hs ?_
            refine TK.reg ?_
            refine TL.p (C := cx) (gc := true) (p_mv rfl) rfl rfl ?_
            refine TL.p (C := cx) (gc := true) (p_mv rfl) rfl rfl ?_
            refine TL.lay [(103, L l43)] nd (j := 1) rfl ⟨⟨_, rfl, fix_OL nd (j := 1) rfl, rfl⟩, trivial⟩ fun nd => ?_
            refine TL.lit (C := cx) ([l43] : List (List UInt8)) kd22 ty23 rfl ⟨⟨rfl, rfl⟩, trivial⟩ rfl rfl rfl ?_
            obtain ⟨u44, hu44, hX⟩ := bind_some hX
            refine TL.appO (C := cx) nd kd22 bo22 ty23 rfl rfl (j := 0) rfl rfl (Src_L _) (by decide) (need_t hu44) rfl fun nd => ?_
            refine TL.p (C := cx) (gc := true) (p_mv rfl) rfl rfl ?_
            refine TL.nil ?_
            refine hK29 _ _ ?_
            refine TK.reg ?_
            refine TL.p (C := cx) (gc := true) (p_mv rfl) rfl rfl ?_
            refine TL.p (C := cx) (gc := true) (p_add rfl rfl) rfl rfl ?_
            refine TL.p (C := cx) (gc := true) (p_mv rfl) rfl rfl ?_
            refine TL.nil ?_
            exact ⟨_, (some_in hX).symm, b41, rfl, (Nd.pick nd (is := [0]) (by decide)), (HSub.pick nd (is := [0]) (by decide))⟩
          refine TK.iter [0, 1, 7, 9, 10, 11, 12] (fun s env h => match s with | (row39, k40) => ∃ b37 b38, env = [(0, true, Enc.v (data1 : (List (List UInt8)))), (1, true, Enc.v (parity2 : Int)), (7, true, Enc.v (r15.1 : (List (List UInt8)))), (9, true, OL (α := (List UInt8)) b37 out22), (10, true, Enc.v (i23 : Int)), (11, true, OL (α := UInt8) b38 row39), (12, true, Enc.v (k40 : Int))] ∧ Nd [(b37, RL (α := (List UInt8)) 23 out22), (b38, RL (α := UInt8) 5 row39)] ∧ HSub [(b37, RL (α := (List UInt8)) 23 out22), (b38, RL (α := UInt8) 5 row39)] h) hO36 ⟨b21, b33, rfl, (Nd.pick nd (is := [1, 0]) (by decide)), (HSub.pick nd (is := [1, 0]) (by decide))⟩ ?_
          rintro ⟨row39, k40⟩ env h x36x ⟨b37, b38, rfl, nd, hs⟩ hX hR36
          refine TK.subH hs ?_
          unfold X.cartridgeref1_Encode_s36 at hX
          try dsimp only at hX
          refine TK.seq_k fun K45 hK45 => ?_
          refine TK.seq_k fun K46 hK46 => ?_
          refine TK.reg ?_
          refine TL.p (C := cx) (gc := true) (p_mv rfl) rfl rfl ?_
          refine TL.p (C := cx) (gc := true) (p_mv rfl) rfl rfl ?_
          refine TL.p (C := cx) (gc := true) (p_lenR kd23 rfl (fun _ => refOK_of nd (j := 1) rfl rfl)) rfl rfl ?_
          refine TL.p (C := cx) (gc := true) (p_lss rfl rfl) rfl rfl ?_
          refine TL.nil ?_
          refine hK46 _ _ ?_
          refine TK.cond (b := (decide (k40 < (row39.length : Int)))) rfl (fun hc => ?_) (fun hc => ?_)
          · have hX := ite_t hc hX
            refine TK.skip ?_
            refine hK45 _ _ ?_
            refine TK.seq_k fun K47 hK47 => ?_
            refine TK.block ?_
            refine TK.seq_k fun K48 hK48 => ?_
            refine TK.reg ?_
            refine TL.p (C := cx) (gc := true) (p_mv rfl) rfl rfl ?_
            refine TL.nil ?_
            refine hK48 _ _ ?_
            refine TK.block ?_
            obtain ⟨o49, hO49, hA49⟩ := bind_some hX
            have E49 : ∀ (l56 : List UInt8) (env : Env) (h : Hp), (∃ b54 b55, keepE [0, 1, 7, 9, 10, 11, 12] env = [(0, true, Enc.v (data1 : (List (List UInt8)))), (1, true, Enc.v (parity2 : Int)), (7, true, Enc.v (r15.1 : (List (List UInt8)))), (9, true, OL (α := (List UInt8)) b54 out22), (10, true, Enc.v (i23 : Int)), (11, true, OL (α := UInt8) b55 l56), (12, true, Enc.v (k40 : Int))] ∧ Nd [(b54, RL (α := (List UInt8)) 23 out22), (b55, RL (α := UInt8) 5 l56)] ∧ HSub [(b54, RL (α := (List UInt8)) 23 out22), (b55, RL (α := UInt8) 5 l56)] h) → X.cartridgeref1_Encode_e49 k40 l56 = some x36x → K47 env h := by
              intro l56 env h hE hX
              obtain ⟨b54, b55, henv, nd, hs⟩ := hE
              unfold X.cartridgeref1_Encode_e49 at hX
              refine hK47 _ _ (TK.keep [0, 1, 7, 9, 10, 11, 12] ?_)
              rw [henv]
              refine TK.subH hs ?_
              refine TK.reg ?_
              refine TL.p (C := cx) (gc := true) (p_mv rfl) rfl rfl ?_
              refine TL.p (C := cx) (gc := true) (p_add rfl rfl) rfl rfl ?_
              refine TL.p (C := cx) (gc := true) (p_mv rfl) rfl rfl ?_
              refine TL.nil ?_
              exact ⟨_, (some_in hX).symm, b54, b55, rfl, (Nd.pick nd (is := [0, 1]) (by decide)), (HSub.pick nd (is := [0, 1]) (by decide))⟩
            refine TK.iter [0, 1, 7, 9, 10, 11, 12, 13] (fun s env h => match s with | (row52, j53) => ∃ b50 b51, env = [(0, true, Enc.v (data1 : (List (List UInt8)))), (1, true, Enc.v (parity2 : Int)), (7, true, Enc.v (r15.1 : (List (List UInt8)))), (9, true, OL (α := (List UInt8)) b50 out22), (10, true, Enc.v (i23 : Int)), (11, true, OL (α := UInt8) b51 row52), (12, true, Enc.v (k40 : Int)), (13, true, Enc.v (j53 : Int))] ∧ Nd [(b50, RL (α := (List UInt8)) 23 out22), (b51, RL (α := UInt8) 5 row52)] ∧ HSub [(b50, RL (α := (List UInt8)) 23 out22), (b51, RL (α := UInt8) 5 row52)] h) hO49 ⟨b37, b38, rfl, (Nd.pick nd (is := [0, 1]) (by decide)), (HSub.pick nd (is := [0, 1]) (by decide))⟩ ?_
            rintro ⟨row52, j53⟩ env h x49x ⟨b50, b51, rfl, nd, hs⟩ hX hR49
            refine TK.subH hs ?_
            unfold X.cartridgeref1_Encode_s49 at hX
            try dsimp only at hX
            refine TK.seq_k fun K57 hK57 => ?_
            refine TK.seq_k fun K58 hK58 => ?_
            refine TK.reg ?_
            refine TL.p (C := cx) (gc := true) (p_mv rfl) rfl rfl ?_
            refine TL.p (C := cx) (gc := true) (p_mv rfl) rfl rfl ?_
            refine TL.p (C := cx) (gc := true) (p_lenL (xs := data1) kd22 rfl) rfl rfl ?_
            refine TL.p (C := cx) (gc := true) (p_lss rfl rfl) rfl rfl ?_
            refine TL.nil ?_
            refine hK58 _ _ ?_
            refine TK.cond (b := (decide (j53 < (data1.length : Int)))) rfl (fun hc => ?_) (fun hc => ?_)
            · have hX := ite_t hc hX
              refine TK.skip ?_
              refine hK57 _ _ ?_
              refine TK.seq_k fun K59 hK59 => ?_
              refine TK.block ?_
              refine TK.pick [1, 0] nd (by decide) fun nd => ?_
              have ndS : Nd [(b50, RL (α := (List UInt8)) 23 out22)] := Nd.pick nd (is := [1]) (by decide)
              refine TK.endK fun KD hKD => ?_
              refine TK.drwX (h := [(b51, RL (α := UInt8) 5 row52)]) (hS := [(b50, RL (α := (List UInt8)) 23 out22)]) [(0, 0), (0, 1), (0, 2), (0, 3), (1, 4), (1, 5), (0, 6), (0, 7), (0, 8), (0, 9), (0, 10), (0, 11), (0, 12), (0, 13), (0, 14), (0, 15), (0, 16), (0, 17), (0, 18), (0, 19), (0, 20), (0, 21), (1, 22), (2, 23)] mixed (by kernel_rfl) (HSub_app nd) ?_
              refine DR0 (gc := true) rfl (vok_p (C := cx) (p_mv rfl)) rfl rfl ?_
              refine DR0 (gc := true) rfl (vok_p (C := cx) (p_mv rfl)) rfl rfl ?_
              refine DR0 (gc := true) rfl (vok_p (C := cx) (p_mv rfl)) rfl rfl ?_
              refine DR0 (gc := true) rfl (vok_p (C := cx) (p_mv rfl)) rfl rfl ?_
              obtain ⟨e60, he60, hX⟩ := bind_some hX
              refine DR1 (gc := true) rfl (vok_p (C := cx) (p_iaO (xs := row52) kd23 ty5 rfl rfl rfl nd (j := 0) rfl (fun _ => he60))) rfl rfl ?_
              refine DR1 (gc := true) rfl (vok_p (C := cx) (p_ldO (xs := row52) (a := e60) (e60 : UInt8) ty5 rfl rfl nd (j := 0) rfl (fun _ => he60) rfl rfl rfl)) rfl rfl ?_
              refine DR0 (gc := true) rfl (vok_p (C := cx) (p_mv rfl)) rfl rfl ?_
              refine DR0 (gc := true) rfl (vok_p (C := cx) (p_mv rfl)) rfl rfl ?_
              obtain ⟨e61, he61, hX⟩ := bind_some hX
              refine DR0 (gc := true) rfl (vok_p (C := cx) (p_iaL (xs := r15.1) kd22 ty23 rfl rfl rfl (fun _ => he61))) rfl rfl ?_
              refine DR0 (gc := true) rfl (vok_p (C := cx) (p_ldE (xs := r15.1) (a := e61) (e61 : (List UInt8)) ty23 rfl rfl (fun _ => he61) rfl rfl rfl)) rfl rfl ?_
              refine DR0 (gc := true) rfl (vok_p (C := cx) (p_mv rfl)) rfl rfl ?_
              obtain ⟨e62, he62, hX⟩ := bind_some hX
              refine DR0 (gc := true) rfl (vok_p (C := cx) (p_iaL (xs := e61) kd23 ty5 rfl rfl rfl (fun _ => he62))) rfl rfl ?_
              refine DR0 (gc := true) rfl (vok_p (C := cx) (p_ldE (xs := e61) (a := e62) (e62 : UInt8) ty5 rfl rfl (fun _ => he62) rfl rfl rfl)) rfl rfl ?_
              refine DR0 (gc := true) rfl (vok_p (C := cx) (p_mv rfl)) rfl rfl ?_
              refine DR0 (gc := true) rfl (vok_p (C := cx) (p_mv rfl)) rfl rfl ?_
              obtain ⟨e63, he63, hX⟩ := bind_some hX
              refine DR0 (gc := true) rfl (vok_p (C := cx) (p_iaL (xs := data1) kd22 ty23 rfl rfl rfl (fun _ => he63))) rfl rfl ?_
              refine DR0 (gc := true) rfl (vok_p (C := cx) (p_ldE (xs := data1) (a := e63) (e63 : (List UInt8)) ty23 rfl rfl (fun _ => he63) rfl rfl rfl)) rfl rfl ?_
              refine DR0 (gc := true) rfl (vok_p (C := cx) (p_mv rfl)) rfl rfl ?_
              obtain ⟨e64, he64, hX⟩ := bind_some hX
              refine DR0 (gc := true) rfl (vok_p (C := cx) (p_iaL (xs := e63) kd23 ty5 rfl rfl rfl (fun _ => he64))) rfl rfl ?_
              refine DR0 (gc := true) rfl (vok_p (C := cx) (p_ldE (xs := e63) (a := e64) (e64 : UInt8) ty5 rfl rfl (fun _ => he64) rfl rfl rfl)) rfl rfl ?_
              obtain ⟨r65, hr65, hX⟩ := bind_some hX
              refine DR0 (gc := true) rfl (vok_c rfl (fun _ => ⟨rfl, ⟨rfl, ⟨rfl, trivial⟩⟩⟩) (fun e => ok_cartridgeref1_Mul e62 e64 _ hr65)) rfl rfl ?_
              refine DR0 (gc := true) rfl (vok_p (C := cx) (p8_xor (a := e60) (b := r65) rfl rfl)) rfl rfl ?_
              obtain ⟨e66, he66, hX⟩ := bind_some hX
              refine DR1 (gc := true) rfl (vok_p (C := cx) (p_iaO (xs := row52) kd23 ty5 rfl rfl rfl nd (j := 0) rfl (fun _ => he66))) rfl rfl ?_
              refine DR2n rfl ?_
              refine TL.stW (C := cx) (xs := row52) (i := k40) (lu := Enc.cl ((e60 ^^^ r65) : UInt8)) (a' := (e60 ^^^ r65)) nd ty5 rfl (j := 0) rfl (by simp [Enc.sz]) (inb_of he66 (by simp)) rfl (Cells_v ((e60 ^^^ r65) : UInt8)) rfl (WkL_refl _) fun nd => ?_
              refine TL.nil ⟨.nilp, [(b51, RL (α := UInt8) 5 (row52.set k40.toNat (e60 ^^^ r65)))], rfl, rfl, HSub_app nd, ?_⟩
              refine DRend ?_
              refine hKD _ _ ?_
              refine TL.cv 11 (OL (α := UInt8) b51 (row52.set k40.toNat (e60 ^^^ r65))) rfl (Wk_eq (OL_len (by simp))) ?_
              refine TL.nil ?_
              refine hK59 _ _ ?_
              refine TK.reg ?_
              refine TL.p (C := cx) (gc := true) (p_mv rfl) rfl rfl ?_
              refine TL.p (C := cx) (gc := true) (p_add rfl rfl) rfl rfl ?_
              refine TL.p (C := cx) (gc := true) (p_mv rfl) rfl rfl ?_
              refine TL.nil ?_
              exact ⟨_, (some_in hX).symm, b50, b51, rfl, (Nd.pick nd (is := [1, 0]) (by decide)), (HSub.pick nd (is := [1, 0]) (by decide))⟩
            · have hX := ite_f hc hX
              refine TK.exit ?_
              obtain rfl := hR49 _ (some_in hX).symm
              exact E49 row52 _ _ ⟨b50, b51, rfl, (Nd.pick nd (is := [0, 1]) (by decide)), (HSub.pick nd (is := [0, 1]) (by decide))⟩ hA49
          · have hX := ite_f hc hX
            refine TK.exit ?_
            obtain rfl := hR36 _ (some_in hX).symm
            exact E36 row39 _ _ ⟨b37, b38, rfl, (Nd.pick nd (is := [0, 1]) (by decide)), (HSub.pick nd (is := [0, 1]) (by decide))⟩ hA36
        · have hX := ite_f hc hX
          refine TK.exit ?_
          obtain rfl := hR20 _ (some_in hX).symm
          exact E20 out22 _ _ ⟨b21, rfl, (Nd.pick nd (is := [0]) (by decide)), (HSub.pick nd (is := [0]) (by decide))⟩ hA20
    refine TK.iter [0, 1, 6] (fun s env h => match s with | i10 => ∃ _u : Unit, env = [(0, true, Enc.v (data1 : (List (List UInt8)))), (1, true, Enc.v (parity2 : Int)), (6, true, Enc.v (i10 : Int))] ∧ Nd [] ∧ HSub [] h) hO9 ⟨(), rfl, Nd_nil, HSub.refl _⟩ ?_
    rintro i10 env h x9x ⟨_u, rfl, nd, hs⟩ hX hR9
    refine TK.subH hs ?_
    unfold X.cartridgeref1_Encode_s9 at hX
    try dsimp only at hX
    refine TK.seq_k fun K67 hK67 => ?_
    refine TK.seq_k fun K68 hK68 => ?_
    refine TK.reg ?_
    refine TL.p (C := cx) (gc := true) (p_mv rfl) rfl rfl ?_
    refine TL.p (C := cx) (gc := true) (p_mv rfl) rfl rfl ?_
    refine TL.p (C := cx) (gc := true) (p_lenL (xs := data1) kd22 rfl) rfl rfl ?_
    refine TL.p (C := cx) (gc := true) (p_lss rfl rfl) rfl rfl ?_
    refine TL.nil ?_
    refine hK68 _ _ ?_
    refine TK.cond (b := (decide (i10 < (data1.length : Int)))) rfl (fun hc => ?_) (fun hc => ?_)
    · have hX := ite_t hc hX
      refine TK.skip ?_
      refine hK67 _ _ ?_
      refine TK.seq_k fun K69 hK69 => ?_
      refine TK.block ?_
      refine TK.seq_k fun K70 hK70 => ?_
      have ndS : Nd [] := Nd.pick nd (is := []) (by decide)
      refine TK.drwX (h := []) (hS := []) [(0, 0), (0, 1), (0, 2), (0, 3), (0, 4), (0, 5), (0, 6), (0, 7), (0, 8), (0, 9)] mixed (by kernel_rfl) (HSub_app nd) ?_
      refine DR0 (gc := true) rfl (vok_p (C := cx) (p_mv rfl)) rfl rfl ?_
      refine DR0 (gc := true) rfl (vok_p (C := cx) (p_mv rfl)) rfl rfl ?_
      obtain ⟨e71, he71, hX⟩ := bind_some hX
      refine DR0 (gc := true) rfl (vok_p (C := cx) (p_iaL (xs := data1) kd22 ty23 rfl rfl rfl (fun _ => he71))) rfl rfl ?_
      refine DR0 (gc := true) rfl (vok_p (C := cx) (p_ldE (xs := data1) (a := e71) (e71 : (List UInt8)) ty23 rfl rfl (fun _ => he71) rfl rfl rfl)) rfl rfl ?_
      refine DR0 (gc := true) rfl (vok_p (C := cx) (p_lenL (xs := e71) kd23 rfl)) rfl rfl ?_
      refine DR0 (gc := true) rfl (vok_p (C := cx) (p_mv rfl)) rfl rfl ?_
      obtain ⟨e72, he72, hX⟩ := bind_some hX
      refine DR0 (gc := true) rfl (vok_p (C := cx) (p_iaL (xs := data1) kd22 ty23 rfl rfl rfl (fun _ => he72))) rfl rfl ?_
      refine DR0 (gc := true) rfl (vok_p (C := cx) (p_ldE (xs := data1) (a := e72) (e72 : (List UInt8)) ty23 rfl rfl (fun _ => he72) rfl rfl rfl)) rfl rfl ?_
      refine DR0 (gc := true) rfl (vok_p (C := cx) (p_lenL (xs := e72) kd23 rfl)) rfl rfl ?_
      refine DR0 (gc := true) rfl (vok_p (C := cx) (p_neq rfl rfl)) rfl rfl ?_
      refine DRend ?_
      refine hK70 _ _ ?_
      refine TK.cond (b := ((e71.length : Int) != (e72.length : Int))) rfl (fun hc => ?_) (fun hc => ?_)
      · have hX := ite_t hc hX
        refine TK.seq_k fun K73 hK73 => ?_
        refine TK.reg ?_
        refine TL.p (C := cx) (gc := true) (p_mv rfl) rfl rfl ?_
        refine TL.p (C := cx) (gc := true) (p_mv rfl) rfl rfl ?_
        refine TL.nil ?_
        refine hK73 _ _ ?_
        refine TK.wk 4 (L ([] : (List (List UInt8)))) rfl Wk_nil ?_
        refine TK.ret ?_
        obtain rfl := hR9 _ (some_in hX).symm
        replace hX := hA9
        try dsimp only [thenQ]
        exact retN (vs := [Enc.v (([] : (List (List UInt8))) : (List (List UInt8))), Enc.v ((1 : Int) : Int)]) ⟨rfl, rfl, trivial⟩ (by obtain rfl := some_in hX; rfl) (allVal.mem ⟨v_val _, v_val _, trivial⟩)
      · have hX := ite_f hc hX
        refine TK.skip ?_
        refine hK69 _ _ ?_
        refine TK.reg ?_
        refine TL.p (C := cx) (gc := true) (p_mv rfl) rfl rfl ?_
        refine TL.p (C := cx) (gc := true) (p_add rfl rfl) rfl rfl ?_
        refine TL.p (C := cx) (gc := true) (p_mv rfl) rfl rfl ?_
        refine TL.nil ?_
        exact ⟨_, (some_in hX).symm, (), rfl, Nd_nil, HSub.refl _⟩
    · have hX := ite_f hc hX
      refine TK.exit ?_
      obtain rfl := hR9 _ (some_in hX).symm
      exact E9 _ _ ⟨(), rfl, Nd_nil, HSub.refl _⟩ hA9

/-- cartridge/cartridgeref10.Parity -/
theorem ok_cartridgeref10_Parity (l1 : (List Tape_api)) (parity2 : Int) (r : ((List (List (List UInt8))) × Int)) (hX : X.cartridgeref10_Parity l1 parity2 = some r) : Fun Try.prog 24 [Enc.v (l1 : (List Tape_api)), Enc.v (parity2 : Int)] (· = .tup 2 (ofL [Enc.v r.1, Enc.v r.2])) := by
  refine Fun.of b24 (Nat.le_of_ble_eq_true rfl) (allVal.mem ⟨(by exact (v_val _)), (by exact (v_val _)), trivial⟩) ?_
  unfold k24
  have nd : Nd [] := Nd_nil
  unfold X.cartridgeref10_Parity at hX
  refine TK.seq_k fun K3 hK3 => ?_
  refine TK.reg ?_
  refine TL.p (C := cx) (gc := true) (p_mv rfl) rfl rfl ?_
  refine TL.p (C := cx) (gc := true) (p_mv rfl) rfl rfl ?_
  refine TL.nil ?_
  refine hK3 _ _ ?_
  refine TK.seq_k fun K4 hK4 => ?_
  refine TK.seq_k fun K5 hK5 => ?_
  refine TK.reg ?_
  refine TL.p (C := cx) (gc := true) (p_mv rfl) rfl rfl ?_
  refine TL.p (C := cx) (gc := true) (p_lenL (xs := l1) kd35 rfl) rfl rfl ?_
  refine TL.p (C := cx) (gc := true) (p_lss rfl rfl) rfl rfl ?_
  refine TL.p (C := cx) (gc := true) (p_mv rfl) rfl rfl ?_
  refine TL.p (C := cx) (gc := (!((decide ((l1.length : Int) < (1 : Int)))))) (p_mv rfl (hg := fun e => rfl)) (gcF1 rfl) rfl ?_
  refine TL.p (C := cx) (gc := (!((decide ((l1.length : Int) < (1 : Int)))))) (p_lss rfl rfl (hg := fun e => ⟨e, rfl⟩)) (gcF1 rfl) rfl ?_
  refine TL.p (C := cx) (gc := true) (p_or rfl rfl (fun e => ⟨rfl, fun h => (not_t h)⟩)) rfl rfl ?_
  refine TL.p (C := cx) (gc := true) (p_mv rfl) rfl rfl ?_
  refine TL.p (C := cx) (gc := (!(((decide ((l1.length : Int) < (1 : Int))) || (decide (parity2 < (0 : Int))))))) (p_mv rfl (hg := fun e => rfl)) (gcF1 rfl) rfl ?_
  refine TL.p (C := cx) (gc := (!(((decide ((l1.length : Int) < (1 : Int))) || (decide (parity2 < (0 : Int))))))) (p_gtr rfl rfl (hg := fun e => ⟨e, rfl⟩)) (gcF1 rfl) rfl ?_
  refine TL.p (C := cx) (gc := true) (p_or rfl rfl (fun e => ⟨rfl, fun h => (not_t h)⟩)) rfl rfl ?_
  refine TL.p (C := cx) (gc := true) (p_mv rfl) rfl rfl ?_
  refine TL.p (C := cx) (gc := (!((((decide ((l1.length : Int) < (1 : Int))) || (decide (parity2 < (0 : Int)))) || (decide (parity2 > (255 : Int))))))) (p_mv rfl (hg := fun e => rfl)) (gcF1 rfl) rfl ?_
  refine TL.p (C := cx) (gc := (!((((decide ((l1.length : Int) < (1 : Int))) || (decide (parity2 < (0 : Int)))) || (decide (parity2 > (255 : Int))))))) (p_lenL (xs := l1) kd35 rfl (hg := fun e => e)) (gcF1 rfl) rfl ?_
  refine TL.p (C := cx) (gc := (!((((decide ((l1.length : Int) < (1 : Int))) || (decide (parity2 < (0 : Int)))) || (decide (parity2 > (255 : Int))))))) (p_mv rfl (hg := fun e => rfl)) (gcF1 rfl) rfl ?_
  refine TL.p (C := cx) (gc := (!((((decide ((l1.length : Int) < (1 : Int))) || (decide (parity2 < (0 : Int)))) || (decide (parity2 > (255 : Int))))))) (p_add rfl rfl (hg := fun e => ⟨e, e⟩)) (gcF1 rfl) rfl ?_
  refine TL.p (C := cx) (gc := (!((((decide ((l1.length : Int) < (1 : Int))) || (decide (parity2 < (0 : Int)))) || (decide (parity2 > (255 : Int))))))) (p_gtr rfl rfl (hg := fun e => ⟨e, rfl⟩)) (gcF1 rfl) rfl ?_
  refine TL.p (C := cx) (gc := true) (p_or rfl rfl (fun e => ⟨rfl, fun h => (not_t h)⟩)) rfl rfl ?_
  refine TL.nil ?_
  refine hK5 _ _ ?_
  refine TK.cond (b := ((((decide ((l1.length : Int) < (1 : Int))) || (decide (parity2 < (0 : Int)))) || (decide (parity2 > (255 : Int)))) || (decide ((wr ((l1.length : Int) + parity2)) > (255 : Int))))) rfl (fun hc => ?_) (fun hc => ?_)
  · have hX := ite_t hc hX
    refine TK.seq_k fun K6 hK6 => ?_
    refine TK.reg ?_
    refine TL.p (C := cx) (gc := true) (p_mv rfl) rfl rfl ?_
    refine TL.p (C := cx) (gc := true) (p_mv rfl) rfl rfl ?_
    refine TL.nil ?_
    refine hK6 _ _ ?_
    refine TK.wk 4 (L ([] : (List (List (List UInt8))))) rfl Wk_nil ?_
    refine TK.ret ?_
    try dsimp only [thenQ]
    exact retN (vs := [Enc.v (([] : (List (List (List UInt8)))) : (List (List (List UInt8)))), Enc.v ((1 : Int) : Int)]) ⟨rfl, rfl, trivial⟩ (by obtain rfl := some_in hX; rfl) (allVal.mem ⟨v_val _, v_val _, trivial⟩)
  · have hX := ite_f hc hX
    refine TK.skip ?_
    refine hK4 _ _ ?_
    refine TK.seq_k fun K7 hK7 => ?_
    refine TK.reg ?_
    refine TL.p (C := cx) (gc := true) (p_mv rfl) rfl rfl ?_
    refine TL.nil ?_
    refine hK7 _ _ ?_
    refine TK.ownG (α := (List UInt8)) 6 22 nd rfl (.inl rfl) fun b8 nd => ?_
    refine TK.seq_k fun K9 hK9 => ?_
    refine TK.seq_k fun K10 hK10 => ?_
    refine TK.reg ?_
    refine TL.p (C := cx) (gc := true) (p_mv rfl) rfl rfl ?_
    refine TL.nil ?_
    refine hK10 _ _ ?_
    refine TK.block ?_
    obtain ⟨o11, hO11, hA11⟩ := bind_some hX
    have E11 : ∀ (l16 : List (List (List UInt8))) (env : Env) (h : Hp), (∃ b15 T15 cs15, keepE [0, 1, 6] env = [(0, true, Enc.v (l1 : (List Tape_api))), (1, true, Enc.v (parity2 : Int)), (6, true, OL (α := (List (List UInt8))) b15 l16)] ∧ Nd ((b15, RV 22 cs15) :: T15) ∧ HSub ((b15, RV 22 cs15) :: T15) h ∧ Grid (α := (List UInt8)) 23 T15 cs15 l16) → X.cartridgeref10_Parity_e11 l1 parity2 l16 = some r → K9 env h := by
      intro l16 env h hE hX
      obtain ⟨b15, T15, cs15, henv, nd, hs, hG15⟩ := hE
      unfold X.cartridgeref10_Parity_e11 at hX
      refine hK9 _ _ (TK.keep [0, 1, 6] ?_)
      rw [henv]
      refine TK.subH hs ?_
      refine TK.seq_k fun K17 hK17 => ?_
      refine TK.seq_k fun K18 hK18 => ?_
      refine TK.reg ?_
      refine TL.p (C := cx) (gc := true) (p_mv rfl) rfl rfl ?_
      refine TL.nil ?_
      refine hK18 _ _ ?_
      refine TK.block ?_
      obtain ⟨o19, hO19, hA19⟩ := bind_some hX
      have E19 : ∀ (l24 : List (List (List UInt8))) (env : Env) (h : Hp), (∃ b23 T23 cs23, keepE [6] env = [(6, true, OL (α := (List (List UInt8))) b23 l24)] ∧ Nd ((b23, RV 22 cs23) :: T23) ∧ HSub ((b23, RV 22 cs23) :: T23) h ∧ Grid (α := (List UInt8)) 23 T23 cs23 l24) → X.cartridgeref10_Parity_e19 l24 = some r → K17 env h := by
        intro l24 env h hE hX
        obtain ⟨b23, T23, cs23, henv, nd, hs, hG23⟩ := hE
        unfold X.cartridgeref10_Parity_e19 at hX
        refine hK17 _ _ (TK.keep [6] ?_)
        rw [henv]
        refine TK.subH hs ?_
        refine TK.seq_k fun K25 hK25 => ?_
        refine TK.reg ?_
        refine TL.p (C := cx) (gc := true) (p_mv rfl) rfl rfl ?_
        refine TL.p (C := cx) (gc := true) (p_mv rfl) rfl rfl ?_
        refine TL.p (C := cx) (gc := true) (p_mv rfl) rfl rfl ?_
        refine TL.nil ?_
        refine hK25 _ _ ?_
        refine TK.layG (α := (List UInt8)) [(b23, RV 22 cs23)] T23 nd (j := 0) rfl hG23 fun nd => ?_
        refine TK.lay [(4, L l24)] nd (j := 0) rfl ⟨⟨_, rfl, fix_OL nd (j := 0) rfl, rfl⟩, trivial⟩ fun nd => ?_
        refine TK.ret ?_
        try dsimp only [thenQ]
        exact retN (vs := [Enc.v (l24 : (List (List (List UInt8)))), Enc.v ((0 : Int) : Int)]) ⟨rfl, rfl, trivial⟩ (by obtain rfl := some_in hX; rfl) (allVal.mem ⟨v_val _, v_val _, trivial⟩)
      refine TK.iter [0, 1, 6, 8] (fun s env h => match s with | (out21, n22) => ∃ b20 T20 cs20, env = [(0, true, Enc.v (l1 : (List Tape_api))), (1, true, Enc.v (parity2 : Int)), (6, true, OL (α := (List (List UInt8))) b20 out21), (8, true, Enc.v (n22 : Int))] ∧ Nd ((b20, RV 22 cs20) :: T20) ∧ HSub ((b20, RV 22 cs20) :: T20) h ∧ Grid (α := (List UInt8)) 23 T20 cs20 out21) hO19 ⟨b15, T15, cs15, rfl, (Nd.pickT nd 1 (is := [0]) (by decide) (by decide) (len_geF [_] _)), (HSub.pickT nd 1 (is := [0]) (by decide) (by decide) (len_geF [_] _)), hG15⟩ ?_
      rintro ⟨out21, n22⟩ env h x19x ⟨b20, T20, cs20, rfl, nd, hs, hG20⟩ hX hR19
      refine TK.subH hs ?_
      unfold X.cartridgeref10_Parity_s19 at hX
      try dsimp only at hX
      refine TK.seq_k fun K26 hK26 => ?_
      refine TK.seq_k fun K27 hK27 => ?_
      refine TK.reg ?_
      refine TL.p (C := cx) (gc := true) (p_mv rfl) rfl rfl ?_
      refine TL.p (C := cx) (gc := true) (p_mv rfl) rfl rfl ?_
      obtain ⟨r28, hr28, hX⟩ := bind_some hX
      refine TL.cvX rfl rfl rfl (fun _ => ⟨rfl, ⟨rfl, trivial⟩⟩) (fun e => ok_cartridgeref10_StripeLen l1 _ hr28) ?_
      refine TL.p (C := cx) (gc := true) (p_lss rfl rfl) rfl rfl ?_
      refine TL.nil ?_
      refine hK27 _ _ ?_
      refine TK.cond (b := (decide (n22 < r28))) rfl (fun hc => ?_) (fun hc => ?_)
      · have hX := ite_t hc hX
        refine TK.skip ?_
        refine hK26 _ _ ?_
        refine TK.seq_k fun K29 hK29 => ?_
        refine TK.block ?_
        refine TK.seq_k fun K30 hK30 => ?_
        refine TK.reg ?_
        refine TL.p (C := cx) (gc := true) (p_mv rfl) rfl rfl ?_
        refine TL.p (C := cx) (gc := true) (p_mv rfl) rfl rfl ?_
        obtain ⟨r31, hr31, hX⟩ := bind_some hX
        refine TL.cvX rfl rfl rfl (fun _ => ⟨rfl, ⟨rfl, ⟨rfl, trivial⟩⟩⟩) (fun e => ok_cartridgeref10_Row l1 n22 _ hr31) ?_
        refine TL.p (C := cx) (gc := true) (p_mv rfl) rfl rfl ?_
        refine TL.nil ?_
        refine hK30 _ _ ?_
        refine TK.seq_k fun K32 hK32 => ?_
        refine TK.seq_k fun K33 hK33 => ?_
        refine TK.reg ?_
        refine TL.p (C := cx) (gc := true) (p_mv rfl) rfl rfl ?_
        refine TL.nil ?_
        refine hK33 _ _ ?_
        refine TK.block ?_
        obtain ⟨o34, hO34, hA34⟩ := bind_some hX
        have E34 : ∀ (env : Env) (h : Hp), (∃ b37 T37 cs37, keepE [0, 1, 6, 8, 9] env = [(0, true, Enc.v (l1 : (List Tape_api))), (1, true, Enc.v (parity2 : Int)), (6, true, OL (α := (List (List UInt8))) b37 out21), (8, true, Enc.v (n22 : Int)), (9, true, Enc.v (r31 : (List (List UInt8))))] ∧ Nd ((b37, RV 22 cs37) :: T37) ∧ HSub ((b37, RV 22 cs37) :: T37) h ∧ Grid (α := (List UInt8)) 23 T37 cs37 out21) → X.cartridgeref10_Parity_e34 r31 parity2 out21 n22 = some x19x → K32 env h := by
          intro  env h hE hX
          obtain ⟨b37, T37, cs37, henv, nd, hs, hG37⟩ := hE
          unfold X.cartridgeref10_Parity_e34 at hX
          refine hK32 _ _ (TK.keep [0, 1, 6, 8, 9] ?_)
          rw [henv]
          refine TK.subH hs ?_
          refine TK.seq_k fun K38 hK38 => ?_
          refine TK.reg ?_
          refine TL.p (C := cx) (gc := true) (p_mv rfl) rfl rfl ?_
          refine TL.p (C := cx) (gc := true) (p_mv rfl) rfl rfl ?_
          obtain ⟨r39, hr39, hX⟩ := bind_some hX
          refine TL.cvX rfl rfl rfl (fun _ => ⟨rfl, ⟨rfl, ⟨rfl, trivial⟩⟩⟩) (fun e => ok_cartridgeref1_Encode r31 parity2 _ hr39) ?_
          refine TL.p (C := cx) (gc := true) (p_mv rfl) rfl rfl ?_
          refine TL.p (C := cx) (gc := true) (p_ex rfl rfl (by decide)) rfl rfl ?_
          refine TL.p (C := cx) (gc := true) (p_ex rfl rfl (by decide)) rfl rfl ?_
          refine TL.p (C := cx) (gc := true) (p_mv rfl) rfl rfl ?_
          refine TL.p (C := cx) (gc := true) (p_mv rfl) rfl rfl ?_
          refine TL.nil ?_
          refine hK38 _ _ ?_
          refine TK.seq_k fun K40 hK40 => ?_
          refine TK.seq_k fun K41 hK41 => ?_
          refine TK.reg ?_
          refine TL.p (C := cx) (gc := true) (p_mv rfl) rfl rfl ?_
          refine TL.p (C := cx) (gc := true) (p_neq rfl rfl) rfl rfl ?_
          refine TL.nil ?_
          refine hK41 _ _ ?_
          refine TK.cond (b := (r39.2 != (0 : Int))) rfl (fun hc => ?_) (fun hc => ?_)
          · have hX := ite_t hc hX
            refine TK.seq_k fun K42 hK42 => ?_
            refine TK.reg ?_
            refine TL.p (C := cx) (gc := true) (p_mv rfl) rfl rfl ?_
            refine TL.p (C := cx) (gc := true) (p_mv rfl) rfl rfl ?_
            refine TL.p (C := cx) (gc := true) (p_mv rfl) rfl rfl ?_
            refine TL.nil ?_
            refine hK42 _ _ ?_
            refine TK.wk 4 (L ([] : (List (List (List UInt8))))) rfl Wk_nil ?_
            refine TK.ret ?_
            obtain rfl := hR19 _ (some_in hX).symm
            replace hX := hA19
            try dsimp only [thenQ]
            exact retN (vs := [Enc.v (([] : (List (List (List UInt8)))) : (List (List (List UInt8)))), Enc.v (r39.2 : Int)]) ⟨rfl, rfl, trivial⟩ (by obtain rfl := some_in hX; rfl) (allVal.mem ⟨v_val _, v_val _, trivial⟩)
          · have hX := ite_f hc hX
            refine TK.skip ?_
            refine hK40 _ _ ?_
            refine TK.seq_k fun K43 hK43 => ?_
            refine TK.reg ?_
            refine TL.p (C := cx) (gc := true) (p_mv rfl) rfl rfl ?_
            refine TL.nil ?_
            refine hK43 _ _ ?_
            refine TK.block ?_
            obtain ⟨o44, hO44, hA44⟩ := bind_some hX
            have E44 : ∀ (l49 : List (List (List UInt8))) (env : Env) (h : Hp), (∃ b48 T48 cs48, keepE [0, 1, 6, 8] env = [(0, true, Enc.v (l1 : (List Tape_api))), (1, true, Enc.v (parity2 : Int)), (6, true, OL (α := (List (List UInt8))) b48 l49), (8, true, Enc.v (n22 : Int))] ∧ Nd ((b48, RV 22 cs48) :: T48) ∧ HSub ((b48, RV 22 cs48) :: T48) h ∧ Grid (α := (List UInt8)) 23 T48 cs48 l49) → X.cartridgeref10_Parity_e44 n22 l49 = some x19x → K29 env h := by
              intro l49 env h hE hX
              obtain ⟨b48, T48, cs48, henv, nd, hs, hG48⟩ := hE
              unfold X.cartridgeref10_Parity_e44 at hX
              refine hK29 _ _ (TK.keep [0, 1, 6, 8] ?_)
              rw [henv]
              refine TK.subH hs ?_
              refine TK.reg ?_
              refine TL.p (C := cx) (gc := true) (p_mv rfl) rfl rfl ?_
              refine TL.p (C := cx) (gc := true) (p_add rfl rfl) rfl rfl ?_
              refine TL.p (C := cx) (gc := true) (p_mv rfl) rfl rfl ?_
              refine TL.nil ?_
              exact ⟨_, (some_in hX).symm, b48, T48, cs48, rfl, (Nd.pickT nd 1 (is := [0]) (by decide) (by decide) (len_geF [_] _)), (HSub.pickT nd 1 (is := [0]) (by decide) (by decide) (len_geF [_] _)), hG48⟩
            refine TK.iter [0, 1, 6, 8, 11, 13] (fun s env h => match s with | (out46, j47) => ∃ b45 T45 cs45, env = [(0, true, Enc.v (l1 : (List Tape_api))), (1, true, Enc.v (parity2 : Int)), (6, true, OL (α := (List (List UInt8))) b45 out46), (8, true, Enc.v (n22 : Int)), (11, true, Enc.v (r39.1 : (List (List UInt8)))), (13, true, Enc.v (j47 : Int))] ∧ Nd ((b45, RV 22 cs45) :: T45) ∧ HSub ((b45, RV 22 cs45) :: T45) h ∧ Grid (α := (List UInt8)) 23 T45 cs45 out46) hO44 ⟨b37, T37, cs37, rfl, (Nd.pickT nd 1 (is := [0]) (by decide) (by decide) (len_geF [_] _)), (HSub.pickT nd 1 (is := [0]) (by decide) (by decide) (len_geF [_] _)), hG37⟩ ?_
            rintro ⟨out46, j47⟩ env h x44x ⟨b45, T45, cs45, rfl, nd, hs, hG45⟩ hX hR44
            refine TK.subH hs ?_
            unfold X.cartridgeref10_Parity_s44 at hX
            try dsimp only at hX
            refine TK.seq_k fun K50 hK50 => ?_
            refine TK.seq_k fun K51 hK51 => ?_
            refine TK.reg ?_
            refine TL.p (C := cx) (gc := true) (p_mv rfl) rfl rfl ?_
            refine TL.p (C := cx) (gc := true) (p_mv rfl) rfl rfl ?_
            refine TL.p (C := cx) (gc := true) (p_lss rfl rfl) rfl rfl ?_
            refine TL.nil ?_
            refine hK51 _ _ ?_
            refine TK.cond (b := (decide (j47 < parity2))) rfl (fun hc => ?_) (fun hc => ?_)
            · have hX := ite_t hc hX
              refine TK.skip ?_
              refine hK50 _ _ ?_
              refine TK.seq_k fun K52 hK52 => ?_
              refine TK.block ?_
              refine TK.endK fun KD hKD => ?_
              refine TK.drwXe [(0, 0), (0, 1), (0, 2), (0, 3), (1, 4), (1, 5), (0, 6), (0, 7), (0, 8), (0, 9), (0, 10), (2, 11), (1, 12), (2, 13)] mixed (by kernel_rfl) ?_
              refine DR0 (gc := true) rfl (vok_p (C := cx) (p_mv rfl)) rfl rfl ?_
              refine DR0 (gc := true) rfl (vok_p (C := cx) (p_mv rfl)) rfl rfl ?_
              refine DR0 (gc := true) rfl (vok_p (C := cx) (p_mv rfl)) rfl rfl ?_
              refine DR0 (gc := true) rfl (vok_p (C := cx) (p_mv rfl)) rfl rfl ?_
              obtain ⟨e53, he53, hX⟩ := bind_some hX
              refine DR1e (gc := true) rfl (vok_p (C := cx) (p_iaG hG45 kd37 ty22 rfl rfl rfl nd (j := 0) rfl (fun _ => he53))) rfl rfl ?_
              obtain ⟨nm54, hT54, hc54⟩ := gridAt (i := j47) hG45 he53
              refine DR1e (gc := true) rfl (vok_p (C := cx) (p_ldG ty22 rfl rfl nd (j := 0) rfl hc54 rfl rfl)) rfl rfl ?_
              refine DR0 (gc := true) rfl (vok_p (C := cx) (p_mv rfl)) rfl rfl ?_
              refine DR0 (gc := true) rfl (vok_p (C := cx) (p_mv rfl)) rfl rfl ?_
              obtain ⟨e55, he55, hX⟩ := bind_some hX
              refine DR0 (gc := true) rfl (vok_p (C := cx) (p_iaL (xs := r39.1) kd22 ty23 rfl rfl rfl (fun _ => he55))) rfl rfl ?_
              refine DR0 (gc := true) rfl (vok_p (C := cx) (p_ldE (xs := r39.1) (a := e55) (e55 : (List UInt8)) ty23 rfl rfl (fun _ => he55) rfl rfl rfl)) rfl rfl ?_
              refine DR0 (gc := true) rfl (vok_lit (C := cx) ([e55] : List (List UInt8)) kd22 ty23 rfl ⟨⟨rfl, rfl⟩, trivial⟩ rfl rfl) rfl rfl ?_
              obtain ⟨u56, hu56, hX⟩ := bind_some hX
              refine DR2e rfl rfl ?_
              refine TL.appG (C := cx) (F := [(b45, RV 22 cs45)]) (T := T45) (k := (j47 : Int).toNat) nd kd22 bo22 ty23 rfl rfl hT54 rfl (Src_L _) (by decide) (need_t hu56) rfl fun nd => ?_
              refine TL.nil ⟨_, rfl, ?_⟩
              obtain ⟨e57, he57, hX⟩ := bind_some hX
              refine DR1e (gc := true) rfl (vok_p (C := cx) (p_iaG hG45 kd37 ty22 rfl rfl rfl nd (j := 0) rfl (fun _ => he57))) rfl rfl ?_
              refine DR2en rfl ?_
              refine TL.stG (C := cx) (F := [(b45, RV 22 cs45)]) (T := (T45.set (j47 : Int).toNat (nm54, RL (α := (List UInt8)) 23 (e53 ++ ([e55] : List (List UInt8)))))) (i := j47) nd ty22 rfl (j := 0) rfl hc54 rfl (setAt hT54) rfl fun nd => ?_
              refine TL.nil ⟨rfl, ?_⟩
              refine DRende ?_
              refine hKD _ _ ?_
              refine TL.cv 6 (OL (α := (List (List UInt8))) b45 (out46.set j47.toNat (e53 ++ ([e55] : List (List UInt8))))) rfl (Wk_eq (OL_len (by simp))) ?_
              refine TL.nil ?_
              refine hK52 _ _ ?_
              refine TK.reg ?_
              refine TL.p (C := cx) (gc := true) (p_mv rfl) rfl rfl ?_
              refine TL.p (C := cx) (gc := true) (p_add rfl rfl) rfl rfl ?_
              refine TL.p (C := cx) (gc := true) (p_mv rfl) rfl rfl ?_
              refine TL.nil ?_
              exact ⟨_, (some_in hX).symm, b45, (T45.set (j47 : Int).toNat (nm54, RL (α := (List UInt8)) 23 (e53 ++ ([e55] : List (List UInt8))))), (cs45.set (j47 : Int).toNat (OL (α := (List UInt8)) nm54 (e53 ++ ([e55] : List (List UInt8))))), rfl, (Nd.pickT nd 1 (is := [0]) (by decide) (by decide) (len_geF [_] _)), (HSub.pickT nd 1 (is := [0]) (by decide) (by decide) (len_geF [_] _)), (Grid.set hG45 hT54)⟩
            · have hX := ite_f hc hX
              refine TK.exit ?_
              obtain rfl := hR44 _ (some_in hX).symm
              exact E44 out46 _ _ ⟨b45, T45, cs45, rfl, (Nd.pickT nd 1 (is := [0]) (by decide) (by decide) (len_geF [_] _)), (HSub.pickT nd 1 (is := [0]) (by decide) (by decide) (len_geF [_] _)), hG45⟩ hA44
        refine TK.iter [0, 1, 6, 8, 9, 10] (fun s env h => match s with | i36 => ∃ b35 T35 cs35, env = [(0, true, Enc.v (l1 : (List Tape_api))), (1, true, Enc.v (parity2 : Int)), (6, true, OL (α := (List (List UInt8))) b35 out21), (8, true, Enc.v (n22 : Int)), (9, true, Enc.v (r31 : (List (List UInt8)))), (10, true, Enc.v (i36 : Int))] ∧ Nd ((b35, RV 22 cs35) :: T35) ∧ HSub ((b35, RV 22 cs35) :: T35) h ∧ Grid (α := (List UInt8)) 23 T35 cs35 out21) hO34 ⟨b20, T20, cs20, rfl, (Nd.pickT nd 1 (is := [0]) (by decide) (by decide) (len_geF [_] _)), (HSub.pickT nd 1 (is := [0]) (by decide) (by decide) (len_geF [_] _)), hG20⟩ ?_
        rintro i36 env h x34x ⟨b35, T35, cs35, rfl, nd, hs, hG35⟩ hX hR34
        refine TK.subH hs ?_
        unfold X.cartridgeref10_Parity_s34 at hX
        try dsimp only at hX
        refine TK.seq_k fun K58 hK58 => ?_
        refine TK.seq_k fun K59 hK59 => ?_
        refine TK.reg ?_
        refine TL.p (C := cx) (gc := true) (p_mv rfl) rfl rfl ?_
        refine TL.p (C := cx) (gc := true) (p_mv rfl) rfl rfl ?_
        refine TL.p (C := cx) (gc := true) (p_lenL (xs := r31) kd22 rfl) rfl rfl ?_
        refine TL.p (C := cx) (gc := true) (p_lss rfl rfl) rfl rfl ?_
        refine TL.nil ?_
        refine hK59 _ _ ?_
        refine TK.cond (b := (decide (i36 < (r31.length : Int)))) rfl (fun hc => ?_) (fun hc => ?_)
        · have hX := ite_t hc hX
          refine TK.skip ?_
          refine hK58 _ _ ?_
          refine TK.seq_k fun K60 hK60 => ?_
          refine TK.block ?_
          refine TK.seq_k fun K61 hK61 => ?_
          refine TK.reg ?_
          refine TL.p (C := cx) (gc := true) (p_mv rfl) rfl rfl ?_
          refine TL.p (C := cx) (gc := true) (p_mv rfl) rfl rfl ?_
          obtain ⟨e62, he62, hX⟩ := bind_some hX
          refine TL.p (C := cx) (gc := true) (p_iaL (xs := r31) kd22 ty23 rfl rfl rfl (fun _ => he62)) rfl rfl ?_
          refine TL.p (C := cx) (gc := true) (p_ldE (xs := r31) (a := e62) (e62 : (List UInt8)) ty23 rfl rfl (fun _ => he62) rfl rfl rfl) rfl rfl ?_
          refine TL.p (C := cx) (gc := true) (p_lenL (xs := e62) kd23 rfl) rfl rfl ?_
          refine TL.p (C := cx) (gc := true) (p_eql rfl rfl) rfl rfl ?_
          refine TL.nil ?_
          refine hK61 _ _ ?_
          refine TK.cond (b := ((e62.length : Int) == (0 : Int))) rfl (fun hc => ?_) (fun hc => ?_)
          · have hX := ite_t hc hX
            refine TK.seq_k fun K63 hK63 => ?_
            refine TK.reg ?_
            refine TL.p (C := cx) (gc := true) (p_mv rfl) rfl rfl ?_
            refine TL.p (C := cx) (gc := true) (p_mv rfl) rfl rfl ?_
            refine TL.nil ?_
            refine hK63 _ _ ?_
            refine TK.wk 4 (L ([] : (List (List (List UInt8))))) rfl Wk_nil ?_
            refine TK.ret ?_
            obtain rfl := hR34 _ (some_in hX).symm
            replace hX := hA34
            obtain rfl := hR19 _ (some_in hX).symm
            replace hX := hA19
            try dsimp only [thenQ]
            exact retN (vs := [Enc.v (([] : (List (List (List UInt8)))) : (List (List (List UInt8)))), Enc.v ((1 : Int) : Int)]) ⟨rfl, rfl, trivial⟩ (by obtain rfl := some_in hX; rfl) (allVal.mem ⟨v_val _, v_val _, trivial⟩)
          · have hX := ite_f hc hX
            refine TK.skip ?_
            refine hK60 _ _ ?_
            refine TK.reg ?_
            refine TL.p (C := cx) (gc := true) (p_mv rfl) rfl rfl ?_
            refine TL.p (C := cx) (gc := true) (p_add rfl rfl) rfl rfl ?_
            refine TL.p (C := cx) (gc := true) (p_mv rfl) rfl rfl ?_
            refine TL.nil ?_
            exact ⟨_, (some_in hX).symm, b35, T35, cs35, rfl, (Nd.pickT nd 1 (is := [0]) (by decide) (by decide) (len_geF [_] _)), (HSub.pickT nd 1 (is := [0]) (by decide) (by decide) (len_geF [_] _)), hG35⟩
        · have hX := ite_f hc hX
          refine TK.exit ?_
          obtain rfl := hR34 _ (some_in hX).symm
          exact E34 _ _ ⟨b35, T35, cs35, rfl, (Nd.pickT nd 1 (is := [0]) (by decide) (by decide) (len_geF [_] _)), (HSub.pickT nd 1 (is := [0]) (by decide) (by decide) (len_geF [_] _)), hG35⟩ hA34
      · have hX := ite_f hc hX
        refine TK.exit ?_
        obtain rfl := hR19 _ (some_in hX).symm
        exact E19 out21 _ _ ⟨b20, T20, cs20, rfl, (Nd.pickT nd 1 (is := [0]) (by decide) (by decide) (len_geF [_] _)), (HSub.pickT nd 1 (is := [0]) (by decide) (by decide) (len_geF [_] _)), hG20⟩ hA19
    refine TK.iter [0, 1, 6, 7] (fun s env h => match s with | (out13, j14) => ∃ b12 T12 cs12, env = [(0, true, Enc.v (l1 : (List Tape_api))), (1, true, Enc.v (parity2 : Int)), (6, true, OL (α := (List (List UInt8))) b12 out13), (7, true, Enc.v (j14 : Int))] ∧ Nd ((b12, RV 22 cs12) :: T12) ∧ HSub ((b12, RV 22 cs12) :: T12) h ∧ Grid (α := (List UInt8)) 23 T12 cs12 out13) hO11 ⟨b8, [], [], rfl, (Nd.pickT nd 1 (is := [0]) (by decide) (by decide) (len_geF [_] _)), (HSub.pickT nd 1 (is := [0]) (by decide) (by decide) (len_geF [_] _)), trivial⟩ ?_
    rintro ⟨out13, j14⟩ env h x11x ⟨b12, T12, cs12, rfl, nd, hs, hG12⟩ hX hR11
    refine TK.subH hs ?_
    unfold X.cartridgeref10_Parity_s11 at hX
    try dsimp only at hX
    refine TK.seq_k fun K64 hK64 => ?_
    refine TK.seq_k fun K65 hK65 => ?_
    refine TK.reg ?_
    refine TL.p (C := cx) (gc := true) (p_mv rfl) rfl rfl ?_
    refine TL.p (C := cx) (gc := true) (p_mv rfl) rfl rfl ?_
    refine TL.p (C := cx) (gc := true) (p_lss rfl rfl) rfl rfl ?_
    refine TL.nil ?_
    refine hK65 _ _ ?_
    refine TK.cond (b := (decide (j14 < parity2))) rfl (fun hc => ?_) (fun hc => ?_)
    · have hX := ite_t hc hX
      refine TK.skip ?_
      refine hK64 _ _ ?_
      refine TK.seq_k fun K66 hK66 => ?_
      refine TK.block ?_
      refine TK.reg ?_
      refine TL.p (C := cx) (gc := true) (p_mv rfl) rfl rfl ?_
      refine TL.lit1 (C := cx) kd37 ty22 rfl rfl rfl ?_
      obtain ⟨u67, hu67, hX⟩ := bind_some hX
      refine TL.appGN (C := cx) (F := [(b12, RV 22 cs12)]) (T := T12) nd kd37 bo37 ty22 rfl rfl (j := 0) rfl hG12 rfl (by decide) (need_t hu67) rfl fun b68 nd => ?_
      refine TL.p (C := cx) (gc := true) (p_mv rfl) rfl rfl ?_
      refine TL.nil ?_
      refine hK66 _ _ ?_
      refine TK.reg ?_
      refine TL.p (C := cx) (gc := true) (p_mv rfl) rfl rfl ?_
      refine TL.p (C := cx) (gc := true) (p_add rfl rfl) rfl rfl ?_
      refine TL.p (C := cx) (gc := true) (p_mv rfl) rfl rfl ?_
      refine TL.nil ?_
      exact ⟨_, (some_in hX).symm, b12, (T12 ++ [(b68, RL (α := (List UInt8)) 23 [])]), (cs12 ++ [OL (α := (List UInt8)) b68 []]), rfl, (Nd.pickT nd 1 (is := [0]) (by decide) (by decide) (len_geF [_] _)), (HSub.pickT nd 1 (is := [0]) (by decide) (by decide) (len_geF [_] _)), (Grid.push hG12)⟩
    · have hX := ite_f hc hX
      refine TK.exit ?_
      obtain rfl := hR11 _ (some_in hX).symm
      exact E11 out13 _ _ ⟨b12, T12, cs12, rfl, (Nd.pickT nd 1 (is := [0]) (by decide) (by decide) (len_geF [_] _)), (HSub.pickT nd 1 (is := [0]) (by decide) (by decide) (len_geF [_] _)), hG12⟩ hA11

/-- cartridge/cartridgeref1.SameRows -/
theorem ok_cartridgeref1_SameRows (a1 : (List (List UInt8))) (b2 : (List (List UInt8))) (r : Bool) (hX : X.cartridgeref1_SameRows a1 b2 = some r) : Fun Try.prog 28 [Enc.v (a1 : (List (List UInt8))), Enc.v (b2 : (List (List UInt8)))] (· = Enc.v (r : Bool)) := by
  refine Fun.of b28 (Nat.le_of_ble_eq_true rfl) (allVal.mem ⟨(by exact (v_val _)), (by exact (v_val _)), trivial⟩) ?_
  unfold k28
  have nd : Nd [] := Nd_nil
  unfold X.cartridgeref1_SameRows at hX
  refine TK.seq_k fun K3 hK3 => ?_
  refine TK.reg ?_
  refine TL.p (C := cx) (gc := true) (p_mv rfl) rfl rfl ?_
  refine TL.nil ?_
  refine hK3 _ _ ?_
  refine TK.seq_k fun K4 hK4 => ?_
  refine TK.seq_k fun K5 hK5 => ?_
  refine TK.reg ?_
  refine TL.p (C := cx) (gc := true) (p_mv rfl) rfl rfl ?_
  refine TL.p (C := cx) (gc := true) (p_lenL (xs := a1) kd22 rfl) rfl rfl ?_
  refine TL.p (C := cx) (gc := true) (p_mv rfl) rfl rfl ?_
  refine TL.p (C := cx) (gc := true) (p_lenL (xs := b2) kd22 rfl) rfl rfl ?_
  refine TL.p (C := cx) (gc := true) (p_neq rfl rfl) rfl rfl ?_
  refine TL.nil ?_
  refine hK5 _ _ ?_
  refine TK.cond (b := ((a1.length : Int) != (b2.length : Int))) rfl (fun hc => ?_) (fun hc => ?_)
  · have hX := ite_t hc hX
    refine TK.seq_k fun K6 hK6 => ?_
    refine TK.reg ?_
    refine TL.p (C := cx) (gc := true) (p_mv rfl) rfl rfl ?_
    refine TL.nil ?_
    refine hK6 _ _ ?_
    refine TK.ret ?_
    try dsimp only [thenQ]
    exact ret1 (v := Enc.v (false : Bool)) rfl (by obtain rfl := some_in hX; rfl) (v_val _)
  · have hX := ite_f hc hX
    refine TK.skip ?_
    refine hK4 _ _ ?_
    refine TK.seq_k fun K7 hK7 => ?_
    refine TK.seq_k fun K8 hK8 => ?_
    refine TK.reg ?_
    refine TL.p (C := cx) (gc := true) (p_mv rfl) rfl rfl ?_
    refine TL.nil ?_
    refine hK8 _ _ ?_
    refine TK.block ?_
    obtain ⟨o9, hO9, hA9⟩ := bind_some hX
    have E9 : ∀ (env : Env) (h : Hp), (∃ _u : Unit, keepE [] env = [] ∧ Nd [] ∧ HSub [] h) → X.cartridgeref1_SameRows_e9 = some r → K7 env h := by
      intro  env h hE hX
      obtain ⟨_u, henv, nd, hs⟩ := hE
      unfold X.cartridgeref1_SameRows_e9 at hX
      refine hK7 _ _ (TK.keep [] ?_)
      rw [henv]
      refine TK.subH hs ?_
      refine TK.seq_k fun K11 hK11 => ?_
      refine TK.reg ?_
      refine TL.p (C := cx) (gc := true) (p_mv rfl) rfl rfl ?_
      refine TL.nil ?_
      refine hK11 _ _ ?_
      refine TK.ret ?_
      try dsimp only [thenQ]
      exact ret1 (v := Enc.v (true : Bool)) rfl (by obtain rfl := some_in hX; rfl) (v_val _)
    refine TK.iter [0, 1, 5] (fun s env h => match s with | i10 => ∃ _u : Unit, env = [(0, true, Enc.v (a1 : (List (List UInt8)))), (1, true, Enc.v (b2 : (List (List UInt8)))), (5, true, Enc.v (i10 : Int))] ∧ Nd [] ∧ HSub [] h) hO9 ⟨(), rfl, Nd_nil, HSub.refl _⟩ ?_
    rintro i10 env h x9x ⟨_u, rfl, nd, hs⟩ hX hR9
    refine TK.subH hs ?_
    unfold X.cartridgeref1_SameRows_s9 at hX
    try dsimp only at hX
    refine TK.seq_k fun K12 hK12 => ?_
    refine TK.seq_k fun K13 hK13 => ?_
    refine TK.reg ?_
    refine TL.p (C := cx) (gc := true) (p_mv rfl) rfl rfl ?_
    refine TL.p (C := cx) (gc := true) (p_mv rfl) rfl rfl ?_
    refine TL.p (C := cx) (gc := true) (p_lenL (xs := a1) kd22 rfl) rfl rfl ?_
    refine TL.p (C := cx) (gc := true) (p_lss rfl rfl) rfl rfl ?_
    refine TL.nil ?_
    refine hK13 _ _ ?_
    refine TK.cond (b := (decide (i10 < (a1.length : Int)))) rfl (fun hc => ?_) (fun hc => ?_)
    · have hX := ite_t hc hX
      refine TK.skip ?_
      refine hK12 _ _ ?_
      refine TK.seq_k fun K14 hK14 => ?_
      refine TK.block ?_
      refine TK.seq_k fun K15 hK15 => ?_
      have ndS : Nd [] := Nd.pick nd (is := []) (by decide)
      refine TK.drwX (h := []) (hS := []) [(0, 0), (0, 1), (0, 2), (0, 3), (0, 4), (0, 5), (0, 6), (0, 7), (0, 8), (0, 9), (0, 10)] mixed (by kernel_rfl) (HSub_app nd) ?_
      refine DR0 (gc := true) rfl (vok_p (C := cx) (p_mv rfl)) rfl rfl ?_
      refine DR0 (gc := true) rfl (vok_p (C := cx) (p_mv rfl)) rfl rfl ?_
      obtain ⟨e16, he16, hX⟩ := bind_some hX
      refine DR0 (gc := true) rfl (vok_p (C := cx) (p_iaL (xs := a1) kd22 ty23 rfl rfl rfl (fun _ => he16))) rfl rfl ?_
      refine DR0 (gc := true) rfl (vok_p (C := cx) (p_ldE (xs := a1) (a := e16) (e16 : (List UInt8)) ty23 rfl rfl (fun _ => he16) rfl rfl rfl)) rfl rfl ?_
      refine DR0 (gc := true) rfl (vok_cvtBS (C := cx) (gc := true) (xs := e16) kd23 kd5 kd9 rfl (look_v (v := Enc.v (e16 : (List UInt8))) (v_val _))) rfl rfl ?_
      refine DR0 (gc := true) rfl (vok_p (C := cx) (p_mv rfl)) rfl rfl ?_
      refine DR0 (gc := true) rfl (vok_p (C := cx) (p_mv rfl)) rfl rfl ?_
      obtain ⟨e17, he17, hX⟩ := bind_some hX
      refine DR0 (gc := true) rfl (vok_p (C := cx) (p_iaL (xs := b2) kd22 ty23 rfl rfl rfl (fun _ => he17))) rfl rfl ?_
      refine DR0 (gc := true) rfl (vok_p (C := cx) (p_ldE (xs := b2) (a := e17) (e17 : (List UInt8)) ty23 rfl rfl (fun _ => he17) rfl rfl rfl)) rfl rfl ?_
      refine DR0 (gc := true) rfl (vok_cvtBS (C := cx) (gc := true) (xs := e17) kd23 kd5 kd9 rfl (look_v (v := Enc.v (e17 : (List UInt8))) (v_val _))) rfl rfl ?_
      refine DR0 (gc := true) rfl (vok_p (C := cx) (ps_neq (s := (Str.mk e16)) (r := (Str.mk e17)) rfl rfl)) rfl rfl ?_
      refine DRend ?_
      refine hK15 _ _ ?_
      refine TK.cond (b := (!((Str.mk e16).l == (Str.mk e17).l))) rfl (fun hc => ?_) (fun hc => ?_)
      · have hX := ite_t hc hX
        refine TK.seq_k fun K18 hK18 => ?_
        refine TK.reg ?_
        refine TL.p (C := cx) (gc := true) (p_mv rfl) rfl rfl ?_
        refine TL.nil ?_
        refine hK18 _ _ ?_
        refine TK.ret ?_
        obtain rfl := hR9 _ (some_in hX).symm
        replace hX := hA9
        try dsimp only [thenQ]
        exact ret1 (v := Enc.v (false : Bool)) rfl (by obtain rfl := some_in hX; rfl) (v_val _)
      · have hX := ite_f hc hX
        refine TK.skip ?_
        refine hK14 _ _ ?_
        refine TK.reg ?_
        refine TL.p (C := cx) (gc := true) (p_mv rfl) rfl rfl ?_
        refine TL.p (C := cx) (gc := true) (p_add rfl rfl) rfl rfl ?_
        refine TL.p (C := cx) (gc := true) (p_mv rfl) rfl rfl ?_
        refine TL.nil ?_
        exact ⟨_, (some_in hX).symm, (), rfl, Nd_nil, HSub.refl _⟩
    · have hX := ite_f hc hX
      refine TK.exit ?_
      obtain rfl := hR9 _ (some_in hX).symm
      exact E9 _ _ ⟨(), rfl, Nd_nil, HSub.refl _⟩ hA9

/-- cartridge/cartridgelaw13.StripeTells -/
theorem ok_cartridgelaw13_StripeTells (l1 : (List Tape_api)) (n2 : Int) (parity3 : Int) (r : Bool) (hX : X.cartridgelaw13_StripeTells l1 n2 parity3 = some r) : Fun Try.prog 5 [Enc.v (l1 : (List Tape_api)), Enc.v (n2 : Int), Enc.v (parity3 : Int)] (· = Enc.v (r : Bool)) := by
  refine Fun.of b5 (Nat.le_of_ble_eq_true rfl) (allVal.mem ⟨(by exact (v_val _)), (by exact (v_val _)), (by exact (v_val _)), trivial⟩) ?_
  unfold k5
  have nd : Nd [] := Nd_nil
  unfold X.cartridgelaw13_StripeTells at hX
  refine TK.seq_k fun K4 hK4 => ?_
  refine TK.reg ?_
  refine TL.p (C := cx) (gc := true) (p_mv rfl) rfl rfl ?_
  refine TL.nil ?_
  refine hK4 _ _ ?_
  refine TK.seq_k fun K5 hK5 => ?_
  refine TK.reg ?_
  obtain ⟨r6, hr6, hX⟩ := bind_some hX
  refine TL.cvX rfl rfl rfl (fun _ => ⟨rfl, trivial⟩) (fun e => ok_cartridgelaw13_alive  _ hr6) ?_
  refine TL.p (C := cx) (gc := true) (p_mv rfl) rfl rfl ?_
  refine TL.nil ?_
  refine hK5 _ _ ?_
  refine TK.seq_k fun K7 hK7 => ?_
  refine TK.seq_k fun K8 hK8 => ?_
  refine TK.reg ?_
  refine TL.p (C := cx) (gc := true) (p_mv rfl) rfl rfl ?_
  refine TL.p (C := cx) (gc := true) (p_not rfl) rfl rfl ?_
  refine TL.p (C := cx) (gc := true) (p_mv rfl) rfl rfl ?_
  refine TL.p (C := cx) (gc := (!((!r6)))) (p_mv rfl (hg := fun e => rfl)) (gcF1 rfl) rfl ?_
  obtain ⟨r9, hr9, hX⟩ := bind_some hX
  refine TL.cvX (gcF1 rfl) rfl rfl (fun e => ⟨rfl, ⟨e, trivial⟩⟩) (fun e => ok_cartridgelaw13_Few l1 _ (optG_t hr9 e)) ?_
  refine TL.p (C := cx) (gc := (!((!r6)))) (p_not rfl (hg := fun e => e)) (gcF1 rfl) rfl ?_
  refine TL.p (C := cx) (gc := true) (p_or rfl rfl (fun e => ⟨rfl, fun h => (not_t h)⟩)) rfl rfl ?_
  refine TL.p (C := cx) (gc := true) (p_mv rfl) rfl rfl ?_
  refine TL.p (C := cx) (gc := (!(((!r6) || (!r9))))) (p_mv rfl (hg := fun e => rfl)) (gcF1 rfl) rfl ?_
  refine TL.p (C := cx) (gc := (!(((!r6) || (!r9))))) (p_gtr rfl rfl (hg := fun e => ⟨e, rfl⟩)) (gcF1 rfl) rfl ?_
  refine TL.p (C := cx) (gc := true) (p_or rfl rfl (fun e => ⟨rfl, fun h => (not_t h)⟩)) rfl rfl ?_
  refine TL.nil ?_
  refine hK8 _ _ ?_
  refine TK.cond (b := (((!r6) || (!r9)) || (decide (parity3 > (10 : Int))))) rfl (fun hc => ?_) (fun hc => ?_)
  · have hX := ite_t hc hX
    refine TK.seq_k fun K10 hK10 => ?_
    refine TK.reg ?_
    refine TL.p (C := cx) (gc := true) (p_mv rfl) rfl rfl ?_
    refine TL.p (C := cx) (gc := true) (p_mv rfl) rfl rfl ?_
    refine TL.nil ?_
    refine hK10 _ _ ?_
    refine TK.ret ?_
    try dsimp only [thenQ]
    exact ret1 (v := Enc.v (r6 : Bool)) rfl (by obtain rfl := some_in hX; rfl) (v_val _)
  · have hX := ite_f hc hX
    refine TK.skip ?_
    refine hK7 _ _ ?_
    refine TK.seq_k fun K11 hK11 => ?_
    refine TK.reg ?_
    refine TL.p (C := cx) (gc := true) (p_mv rfl) rfl rfl ?_
    refine TL.p (C := cx) (gc := true) (p_mv rfl) rfl rfl ?_
    obtain ⟨r12, hr12, hX⟩ := bind_some hX
    refine TL.cvX rfl rfl rfl (fun _ => ⟨rfl, ⟨rfl, ⟨rfl, trivial⟩⟩⟩) (fun e => ok_stripe_Parity l1 parity3 _ hr12) ?_
    refine TL.p (C := cx) (gc := true) (p_mv rfl) rfl rfl ?_
    refine TL.p (C := cx) (gc := true) (p_ex rfl rfl (by decide)) rfl rfl ?_
    refine TL.p (C := cx) (gc := true) (p_ex rfl rfl (by decide)) rfl rfl ?_
    refine TL.p (C := cx) (gc := true) (p_mv rfl) rfl rfl ?_
    refine TL.p (C := cx) (gc := true) (p_mv rfl) rfl rfl ?_
    refine TL.nil ?_
    refine hK11 _ _ ?_
    refine TK.seq_k fun K13 hK13 => ?_
    refine TK.reg ?_
    refine TL.p (C := cx) (gc := true) (p_mv rfl) rfl rfl ?_
    refine TL.p (C := cx) (gc := true) (p_mv rfl) rfl rfl ?_
    obtain ⟨r14, hr14, hX⟩ := bind_some hX
    refine TL.cvX rfl rfl rfl (fun _ => ⟨rfl, ⟨rfl, ⟨rfl, trivial⟩⟩⟩) (fun e => ok_cartridgeref10_Parity l1 parity3 _ hr14) ?_
    refine TL.p (C := cx) (gc := true) (p_mv rfl) rfl rfl ?_
    refine TL.p (C := cx) (gc := true) (p_ex rfl rfl (by decide)) rfl rfl ?_
    refine TL.p (C := cx) (gc := true) (p_ex rfl rfl (by decide)) rfl rfl ?_
    refine TL.p (C := cx) (gc := true) (p_mv rfl) rfl rfl ?_
    refine TL.p (C := cx) (gc := true) (p_mv rfl) rfl rfl ?_
    refine TL.nil ?_
    refine hK13 _ _ ?_
    refine TK.seq_k fun K15 hK15 => ?_
    refine TK.seq_k fun K16 hK16 => ?_
    refine TK.reg ?_
    refine TL.p (C := cx) (gc := true) (p_mv rfl) rfl rfl ?_
    obtain ⟨r17, hr17, hX⟩ := bind_some hX
    refine TL.cvX rfl rfl rfl (fun _ => ⟨rfl, ⟨rfl, trivial⟩⟩) (fun e => ok_cartridgelaw13_num r12.2 _ hr17) ?_
    refine TL.p (C := cx) (gc := true) (p_mv rfl) rfl rfl ?_
    refine TL.p (C := cx) (gc := true) (p_neq rfl rfl) rfl rfl ?_
    refine TL.p (C := cx) (gc := true) (p_mv rfl) rfl rfl ?_
    refine TL.p (C := cx) (gc := (!((r17 != r14.2)))) (p_mv rfl (hg := fun e => rfl)) (gcF1 rfl) rfl ?_
    refine TL.p (C := cx) (gc := (!((r17 != r14.2)))) (p_lenL (xs := r12.1) kd37 rfl (hg := fun e => e)) (gcF1 rfl) rfl ?_
    refine TL.p (C := cx) (gc := (!((r17 != r14.2)))) (p_mv rfl (hg := fun e => rfl)) (gcF1 rfl) rfl ?_
    refine TL.p (C := cx) (gc := (!((r17 != r14.2)))) (p_lenL (xs := r14.1) kd37 rfl (hg := fun e => e)) (gcF1 rfl) rfl ?_
    refine TL.p (C := cx) (gc := (!((r17 != r14.2)))) (p_neq rfl rfl (hg := fun e => ⟨e, e⟩)) (gcF1 rfl) rfl ?_
    refine TL.p (C := cx) (gc := true) (p_or rfl rfl (fun e => ⟨rfl, fun h => (not_t h)⟩)) rfl rfl ?_
    refine TL.p (C := cx) (gc := true) (p_mv rfl) rfl rfl ?_
    refine TL.p (C := cx) (gc := (!(((r17 != r14.2) || ((r12.1.length : Int) != (r14.1.length : Int)))))) (p_mv rfl (hg := fun e => rfl)) (gcF1 rfl) rfl ?_
    obtain ⟨r18, hr18, hX⟩ := bind_some hX
    refine TL.cvX (gcF1 rfl) rfl rfl (fun e => ⟨rfl, ⟨e, trivial⟩⟩) (fun e => ok_stripe_Len l1 _ (optG_t hr18 e)) ?_
    refine TL.p (C := cx) (gc := (!(((r17 != r14.2) || ((r12.1.length : Int) != (r14.1.length : Int)))))) (p_mv rfl (hg := fun e => rfl)) (gcF1 rfl) rfl ?_
    obtain ⟨r19, hr19, hX⟩ := bind_some hX
    refine TL.cvX (gcF1 rfl) rfl rfl (fun e => ⟨rfl, ⟨e, trivial⟩⟩) (fun e => ok_cartridgeref10_StripeLen l1 _ (optG_t hr19 e)) ?_
    refine TL.p (C := cx) (gc := (!(((r17 != r14.2) || ((r12.1.length : Int) != (r14.1.length : Int)))))) (p_neq rfl rfl (hg := fun e => ⟨e, e⟩)) (gcF1 rfl) rfl ?_
    refine TL.p (C := cx) (gc := true) (p_or rfl rfl (fun e => ⟨rfl, fun h => (not_t h)⟩)) rfl rfl ?_
    refine TL.p (C := cx) (gc := true) (p_mv rfl) rfl rfl ?_
    refine TL.p (C := cx) (gc := (!((((r17 != r14.2) || ((r12.1.length : Int) != (r14.1.length : Int))) || (r18 != r19))))) (p_mv rfl (hg := fun e => rfl)) (gcF1 rfl) rfl ?_
    refine TL.p (C := cx) (gc := (!((((r17 != r14.2) || ((r12.1.length : Int) != (r14.1.length : Int))) || (r18 != r19))))) (p_mv rfl (hg := fun e => rfl)) (gcF1 rfl) rfl ?_
    obtain ⟨r20, hr20, hX⟩ := bind_some hX
    refine TL.cvX (gcF1 rfl) rfl rfl (fun e => ⟨rfl, ⟨e, ⟨e, trivial⟩⟩⟩) (fun e => ok_stripe_Row l1 n2 _ (optG_t hr20 e)) ?_
    refine TL.p (C := cx) (gc := (!((((r17 != r14.2) || ((r12.1.length : Int) != (r14.1.length : Int))) || (r18 != r19))))) (p_mv rfl (hg := fun e => rfl)) (gcF1 rfl) rfl ?_
    refine TL.p (C := cx) (gc := (!((((r17 != r14.2) || ((r12.1.length : Int) != (r14.1.length : Int))) || (r18 != r19))))) (p_mv rfl (hg := fun e => rfl)) (gcF1 rfl) rfl ?_
    obtain ⟨r21, hr21, hX⟩ := bind_some hX
    refine TL.cvX (gcF1 rfl) rfl rfl (fun e => ⟨rfl, ⟨e, ⟨e, trivial⟩⟩⟩) (fun e => ok_cartridgeref10_Row l1 n2 _ (optG_t hr21 e)) ?_
    obtain ⟨r22, hr22, hX⟩ := bind_some hX
    refine TL.cvX (gcF1 rfl) rfl rfl (fun e => ⟨rfl, ⟨e, ⟨e, trivial⟩⟩⟩) (fun e => ok_cartridgeref1_SameRows r20 r21 _ (optG_t hr22 e)) ?_
    refine TL.p (C := cx) (gc := (!((((r17 != r14.2) || ((r12.1.length : Int) != (r14.1.length : Int))) || (r18 != r19))))) (p_not rfl (hg := fun e => e)) (gcF1 rfl) rfl ?_
    refine TL.p (C := cx) (gc := true) (p_or rfl rfl (fun e => ⟨rfl, fun h => (not_t h)⟩)) rfl rfl ?_
    refine TL.nil ?_
    refine hK16 _ _ ?_
    refine TK.cond (b := ((((r17 != r14.2) || ((r12.1.length : Int) != (r14.1.length : Int))) || (r18 != r19)) || (!r22))) rfl (fun hc => ?_) (fun hc => ?_)
    · have hX := ite_t hc hX
      refine TK.seq_k fun K23 hK23 => ?_
      refine TK.reg ?_
      refine TL.p (C := cx) (gc := true) (p_mv rfl) rfl rfl ?_
      refine TL.nil ?_
      refine hK23 _ _ ?_
      refine TK.ret ?_
      try dsimp only [thenQ]
      exact ret1 (v := Enc.v (false : Bool)) rfl (by obtain rfl := some_in hX; rfl) (v_val _)
    · have hX := ite_f hc hX
      refine TK.skip ?_
      refine hK15 _ _ ?_
      refine TK.seq_k fun K24 hK24 => ?_
      refine TK.seq_k fun K25 hK25 => ?_
      refine TK.reg ?_
      refine TL.p (C := cx) (gc := true) (p_mv rfl) rfl rfl ?_
      refine TL.nil ?_
      refine hK25 _ _ ?_
      refine TK.block ?_
      obtain ⟨o26, hO26, hA26⟩ := bind_some hX
      have E26 : ∀ (env : Env) (h : Hp), (∃ _u : Unit, keepE [] env = [] ∧ Nd [] ∧ HSub [] h) → X.cartridgelaw13_StripeTells_e26 = some r → K24 env h := by
        intro  env h hE hX
        obtain ⟨_u, henv, nd, hs⟩ := hE
        unfold X.cartridgelaw13_StripeTells_e26 at hX
        refine hK24 _ _ (TK.keep [] ?_)
        rw [henv]
        refine TK.subH hs ?_
        refine TK.seq_k fun K28 hK28 => ?_
        refine TK.reg ?_
        refine TL.p (C := cx) (gc := true) (p_mv rfl) rfl rfl ?_
        refine TL.nil ?_
        refine hK28 _ _ ?_
        refine TK.ret ?_
        try dsimp only [thenQ]
        exact ret1 (v := Enc.v (true : Bool)) rfl (by obtain rfl := some_in hX; rfl) (v_val _)
      refine TK.iter [8, 10, 12] (fun s env h => match s with | i27 => ∃ _u : Unit, env = [(8, true, Enc.v (r12.1 : (List (List (List UInt8))))), (10, true, Enc.v (r14.1 : (List (List (List UInt8))))), (12, true, Enc.v (i27 : Int))] ∧ Nd [] ∧ HSub [] h) hO26 ⟨(), rfl, Nd_nil, HSub.refl _⟩ ?_
      rintro i27 env h x26x ⟨_u, rfl, nd, hs⟩ hX hR26
      refine TK.subH hs ?_
      unfold X.cartridgelaw13_StripeTells_s26 at hX
      try dsimp only at hX
      refine TK.seq_k fun K29 hK29 => ?_
      refine TK.seq_k fun K30 hK30 => ?_
      refine TK.reg ?_
      refine TL.p (C := cx) (gc := true) (p_mv rfl) rfl rfl ?_
      refine TL.p (C := cx) (gc := true) (p_mv rfl) rfl rfl ?_
      refine TL.p (C := cx) (gc := true) (p_lenL (xs := r12.1) kd37 rfl) rfl rfl ?_
      refine TL.p (C := cx) (gc := true) (p_lss rfl rfl) rfl rfl ?_
      refine TL.nil ?_
      refine hK30 _ _ ?_
      refine TK.cond (b := (decide (i27 < (r12.1.length : Int)))) rfl (fun hc => ?_) (fun hc => ?_)
      · have hX := ite_t hc hX
        refine TK.skip ?_
        refine hK29 _ _ ?_
        refine TK.seq_k fun K31 hK31 => ?_
        refine TK.block ?_
        refine TK.seq_k fun K32 hK32 => ?_
        have ndS : Nd [] := Nd.pick nd (is := []) (by decide)
        refine TK.drwX (h := []) (hS := []) [(0, 0), (0, 1), (0, 2), (0, 3), (0, 4), (0, 5), (0, 6), (0, 7), (0, 8), (0, 9)] mixed (by kernel_rfl) (HSub_app nd) ?_
        refine DR0 (gc := true) rfl (vok_p (C := cx) (p_mv rfl)) rfl rfl ?_
        refine DR0 (gc := true) rfl (vok_p (C := cx) (p_mv rfl)) rfl rfl ?_
        obtain ⟨e33, he33, hX⟩ := bind_some hX
        refine DR0 (gc := true) rfl (vok_p (C := cx) (p_iaL (xs := r12.1) kd37 ty22 rfl rfl rfl (fun _ => he33))) rfl rfl ?_
        refine DR0 (gc := true) rfl (vok_p (C := cx) (p_ldE (xs := r12.1) (a := e33) (e33 : (List (List UInt8))) ty22 rfl rfl (fun _ => he33) rfl rfl rfl)) rfl rfl ?_
        refine DR0 (gc := true) rfl (vok_p (C := cx) (p_mv rfl)) rfl rfl ?_
        refine DR0 (gc := true) rfl (vok_p (C := cx) (p_mv rfl)) rfl rfl ?_
        obtain ⟨e34, he34, hX⟩ := bind_some hX
        refine DR0 (gc := true) rfl (vok_p (C := cx) (p_iaL (xs := r14.1) kd37 ty22 rfl rfl rfl (fun _ => he34))) rfl rfl ?_
        refine DR0 (gc := true) rfl (vok_p (C := cx) (p_ldE (xs := r14.1) (a := e34) (e34 : (List (List UInt8))) ty22 rfl rfl (fun _ => he34) rfl rfl rfl)) rfl rfl ?_
        obtain ⟨r35, hr35, hX⟩ := bind_some hX
        refine DR0 (gc := true) rfl (vok_c rfl (fun _ => ⟨rfl, ⟨rfl, ⟨rfl, trivial⟩⟩⟩) (fun e => ok_cartridgeref1_SameRows e33 e34 _ hr35)) rfl rfl ?_
        refine DR0 (gc := true) rfl (vok_p (C := cx) (p_not rfl)) rfl rfl ?_
        refine DRend ?_
        refine hK32 _ _ ?_
        refine TK.cond (b := (!r35)) rfl (fun hc => ?_) (fun hc => ?_)
        · have hX := ite_t hc hX
          refine TK.seq_k fun K36 hK36 => ?_
          refine TK.reg ?_
          refine TL.p (C := cx) (gc := true) (p_mv rfl) rfl rfl ?_
          refine TL.nil ?_
          refine hK36 _ _ ?_
          refine TK.ret ?_
          obtain rfl := hR26 _ (some_in hX).symm
          replace hX := hA26
          try dsimp only [thenQ]
          exact ret1 (v := Enc.v (false : Bool)) rfl (by obtain rfl := some_in hX; rfl) (v_val _)
        · have hX := ite_f hc hX
          refine TK.skip ?_
          refine hK31 _ _ ?_
          refine TK.reg ?_
          refine TL.p (C := cx) (gc := true) (p_mv rfl) rfl rfl ?_
          refine TL.p (C := cx) (gc := true) (p_add rfl rfl) rfl rfl ?_
          refine TL.p (C := cx) (gc := true) (p_mv rfl) rfl rfl ?_
          refine TL.nil ?_
          exact ⟨_, (some_in hX).symm, (), rfl, Nd_nil, HSub.refl _⟩
      · have hX := ite_f hc hX
        refine TK.exit ?_
        obtain rfl := hR26 _ (some_in hX).symm
        exact E26 _ _ ⟨(), rfl, Nd_nil, HSub.refl _⟩ hA26

end Go.Proofs.Ytgkbjnhpmlfgdaa
