import Derived.Test.YtgkbjnhpmlfgdaaXFn
import Derived.Test.YtgkbjnhpmlfgdaaXS
import Derived.Test.YtgkbjnhpmlfgdaaAmK0
/- That they do. -/
namespace Go.Proofs.Ytgkbjnhpmlfgdaa
open Go.AM Go.AX
set_option linter.unusedVariables false
set_option maxRecDepth 20000

/-- slices.Clone[[]byte,byte] -/
theorem ok_slices_Clone_Lbyte_byte (s1 : (List UInt8)) (r : (List UInt8)) (hX : X.slices_Clone_Lbyte_byte s1 = some r) : Fun Try.prog 65 [Enc.v (s1 : (List UInt8))] (· = Enc.v (r : (List UInt8))) := by
  refine Fun.of b65 (Nat.le_of_ble_eq_true rfl) (allVal.mem ⟨(by exact (v_val _)), trivial⟩) ?_
  unfold k65
  have nd : Nd [] := Nd_nil
  unfold X.slices_Clone_Lbyte_byte at hX
  refine TK.seq_k fun K2 hK2 => ?_
  refine TK.reg ?_
  refine TL.p (C := cx) (gc := true) (p_mv rfl) rfl rfl ?_
  refine TL.nil ?_
  refine hK2 _ _ ?_
  refine TK.seq_k fun K3 hK3 => ?_
  refine TK.seq_k fun K4 hK4 => ?_
  refine TK.reg ?_
  refine TL.p (C := cx) (gc := true) (p_mv rfl) rfl rfl ?_
  refine TL.eqNilU (C := cx) (xs := s1) kd23 rfl rfl rfl fun z5 hbz5 => ?_
  replace hX := nilU_t hX hbz5
  refine TL.nil ?_
  refine hK4 _ _ ?_
  refine TK.cond (b := z5) rfl (fun hc => ?_) (fun hc => ?_)
  · have hX := ite_t hc hX
    refine TK.seq_k fun K6 hK6 => ?_
    refine TK.reg ?_
    refine TL.p (C := cx) (gc := true) (p_mv rfl) rfl rfl ?_
    refine TL.nil ?_
    refine hK6 _ _ ?_
    refine TK.wk 2 (L ([] : (List UInt8))) rfl Wk_nil ?_
    refine TK.ret ?_
    try dsimp only [thenQ]
    exact ret1 (v := Enc.v (([] : (List UInt8)) : (List UInt8))) rfl (by obtain rfl := some_in hX; rfl) (v_val _)
  · have hX := ite_f hc hX
    refine TK.skip ?_
    refine hK3 _ _ ?_
    refine TK.seq_k fun K7 hK7 => ?_
    refine TK.reg ?_
    refine TL.litZ (C := cx) kd23 ty5 rfl ?_
    refine TL.p (C := cx) (gc := true) (p_mv rfl) rfl rfl ?_
    obtain ⟨u8, hu8, hX⟩ := bind_some hX
    refine TL.appN (C := cx) nd kd23 bo23 ty5 rfl rfl (.inr rfl) rfl (Src_L _) (by decide) (need_t hu8) rfl fun b9 nd => ?_
    refine TL.p (C := cx) (gc := true) (p_mv rfl) rfl rfl ?_
    refine TL.nil ?_
    refine hK7 _ _ ?_
    refine TK.lay [(2, L s1)] nd (j := 0) rfl ⟨⟨_, rfl, fix_OL nd (j := 0) rfl, rfl⟩, trivial⟩ fun nd => ?_
    refine TK.ret ?_
    try dsimp only [thenQ]
    exact ret1 (v := Enc.v (s1 : (List UInt8))) rfl (by obtain rfl := some_in hX; rfl) (v_val _)

/-- cartridge/stripe.cell -/
theorem ok_stripe_cell (t1 : Tape_api) (n2 : Int) (r : (List UInt8)) (hX : X.stripe_cell t1 n2 = some r) : Fun Try.prog 70 [Enc.v (t1 : Tape_api), Enc.v (n2 : Int)] (· = Enc.v (r : (List UInt8))) := by
  refine Fun.of b70 (Nat.le_of_ble_eq_true rfl) (allVal.mem ⟨(by exact (v_val _)), (by exact (v_val _)), trivial⟩) ?_
  unfold k70
  have nd : Nd [] := Nd_nil
  unfold X.stripe_cell at hX
  refine TK.seq_k fun K3 hK3 => ?_
  refine TK.reg ?_
  refine TL.boxV (C := cx) (lu := [Enc.v (t1.Label : Int), Enc.v (t1.Cap : Int), Enc.v (t1.Blocks : (List (List UInt8))), Enc.v (t1.Lost : Bool)]) nd rfl (Cells_v (t1 : Tape_api)) rfl ?_
  refine TL.p (C := cx) (gc := true) (p_mv rfl) rfl rfl ?_
  refine TL.nil ?_
  refine hK3 _ _ ?_
  refine TK.seq_k fun K4 hK4 => ?_
  refine TK.seq_k fun K5 hK5 => ?_
  refine TK.reg ?_
  refine TL.p (C := cx) (gc := true) (p_faR fs48_3 (by decide) rfl) rfl rfl ?_
  refine TL.p (C := cx) (gc := true) (p_ldR (v := Enc.v (t1.Lost : Bool)) ty4 rfl rfl rfl rfl rfl rfl) rfl rfl ?_
  refine TL.p (C := cx) (gc := true) (p_mv rfl) rfl rfl ?_
  refine TL.p (C := cx) (gc := (!(t1.Lost))) (p_mv rfl (hg := fun e => rfl)) (gcF1 rfl) rfl ?_
  refine TL.p (C := cx) (gc := (!(t1.Lost))) (p_lss rfl rfl (hg := fun e => ⟨e, rfl⟩)) (gcF1 rfl) rfl ?_
  refine TL.p (C := cx) (gc := true) (p_or rfl rfl (fun e => ⟨rfl, fun h => (not_t h)⟩)) rfl rfl ?_
  refine TL.p (C := cx) (gc := true) (p_mv rfl) rfl rfl ?_
  refine TL.p (C := cx) (gc := (!((t1.Lost || (decide (n2 < (0 : Int))))))) (p_mv rfl (hg := fun e => rfl)) (gcF1 rfl) rfl ?_
  refine TL.p (C := cx) (gc := (!((t1.Lost || (decide (n2 < (0 : Int))))))) (p_faR fs48_2 (by decide) rfl (hg := fun e => rfl)) (gcF1 rfl) rfl ?_
  refine TL.p (C := cx) (gc := (!((t1.Lost || (decide (n2 < (0 : Int))))))) (p_ldR (v := Enc.v (t1.Blocks : (List (List UInt8)))) ty22 rfl rfl rfl rfl rfl rfl (hg := fun e => e)) (gcF1 rfl) rfl ?_
  refine TL.p (C := cx) (gc := (!((t1.Lost || (decide (n2 < (0 : Int))))))) (p_lenL (xs := t1.Blocks) kd22 rfl (hg := fun e => e)) (gcF1 rfl) rfl ?_
  refine TL.p (C := cx) (gc := (!((t1.Lost || (decide (n2 < (0 : Int))))))) (p_geq rfl rfl (hg := fun e => ⟨e, e⟩)) (gcF1 rfl) rfl ?_
  refine TL.p (C := cx) (gc := true) (p_or rfl rfl (fun e => ⟨rfl, fun h => (not_t h)⟩)) rfl rfl ?_
  refine TL.nil ?_
  refine hK5 _ _ ?_
  refine TK.cond (b := ((t1.Lost || (decide (n2 < (0 : Int)))) || (decide (n2 ≥ (t1.Blocks.length : Int))))) rfl (fun hc => ?_) (fun hc => ?_)
  · have hX := ite_t hc hX
    refine TK.seq_k fun K6 hK6 => ?_
    refine TK.reg ?_
    obtain ⟨u7, hu7, hX⟩ := bind_some hX
    refine TL.mkV (C := cx) nd (0 : UInt8) kd23 ty5 rfl (fun j hj => by (have : j = 0 := by simpa [Enc.sz] using hj); subst this; rfl) rfl rfl (by decide) (need_t hu7) rfl ?_
    refine TL.p (C := cx) (gc := true) (p_mv rfl) rfl rfl ?_
    refine TL.nil ?_
    refine hK6 _ _ ?_
    refine TK.ret ?_
    try dsimp only [thenQ]
    exact ret1 (v := Enc.v ((List.replicate (79 : Int).toNat (0 : UInt8)) : (List UInt8))) rfl (by obtain rfl := some_in hX; rfl) (v_val _)
  · have hX := ite_f hc hX
    refine TK.skip ?_
    refine hK4 _ _ ?_
    refine TK.seq_k fun K8 hK8 => ?_
    refine TK.seq_k fun K9 hK9 => ?_
    refine TK.reg ?_
    refine TL.p (C := cx) (gc := true) (p_faR fs48_2 (by decide) rfl) rfl rfl ?_
    refine TL.p (C := cx) (gc := true) (p_ldR (v := Enc.v (t1.Blocks : (List (List UInt8)))) ty22 rfl rfl rfl rfl rfl rfl) rfl rfl ?_
    refine TL.p (C := cx) (gc := true) (p_mv rfl) rfl rfl ?_
    obtain ⟨e10, he10, hX⟩ := bind_some hX
    refine TL.p (C := cx) (gc := true) (p_iaL (xs := t1.Blocks) kd22 ty23 rfl rfl rfl (fun _ => he10)) rfl rfl ?_
    refine TL.p (C := cx) (gc := true) (p_ldE (xs := t1.Blocks) (a := e10) (e10 : (List UInt8)) ty23 rfl rfl (fun _ => he10) rfl rfl rfl) rfl rfl ?_
    refine TL.p (C := cx) (gc := true) (p_lenL (xs := e10) kd23 rfl) rfl rfl ?_
    refine TL.p (C := cx) (gc := true) (p_neq rfl rfl) rfl rfl ?_
    refine TL.nil ?_
    refine hK9 _ _ ?_
    refine TK.cond (b := ((e10.length : Int) != (79 : Int))) rfl (fun hc => ?_) (fun hc => ?_)
    · have hX := ite_t hc hX
      refine TK.seq_k fun K11 hK11 => ?_
      refine TK.reg ?_
      refine TL.p (C := cx) (gc := true) (p_mv rfl) rfl rfl ?_
      refine TL.nil ?_
      refine hK11 _ _ ?_
      refine TK.wk 4 (L ([] : (List UInt8))) rfl Wk_nil ?_
      refine TK.ret ?_
      try dsimp only [thenQ]
      exact ret1 (v := Enc.v (([] : (List UInt8)) : (List UInt8))) rfl (by obtain rfl := some_in hX; rfl) (v_val _)
    · have hX := ite_f hc hX
      refine TK.skip ?_
      refine hK8 _ _ ?_
      refine TK.seq_k fun K12 hK12 => ?_
      refine TK.reg ?_
      refine TL.p (C := cx) (gc := true) (p_faR fs48_2 (by decide) rfl) rfl rfl ?_
      refine TL.p (C := cx) (gc := true) (p_ldR (v := Enc.v (t1.Blocks : (List (List UInt8)))) ty22 rfl rfl rfl rfl rfl rfl) rfl rfl ?_
      refine TL.p (C := cx) (gc := true) (p_mv rfl) rfl rfl ?_
      obtain ⟨e13, he13, hX⟩ := bind_some hX
      refine TL.p (C := cx) (gc := true) (p_iaL (xs := t1.Blocks) kd22 ty23 rfl rfl rfl (fun _ => he13)) rfl rfl ?_
      refine TL.p (C := cx) (gc := true) (p_ldE (xs := t1.Blocks) (a := e13) (e13 : (List UInt8)) ty23 rfl rfl (fun _ => he13) rfl rfl rfl) rfl rfl ?_
      obtain ⟨r14, hr14, hX⟩ := bind_some hX
      refine TL.cvX rfl rfl rfl (fun _ => ⟨rfl, ⟨rfl, trivial⟩⟩) (fun e => ok_slices_Clone_Lbyte_byte e13 _ hr14) ?_
      refine TL.p (C := cx) (gc := true) (p_mv rfl) rfl rfl ?_
      refine TL.nil ?_
      refine hK12 _ _ ?_
      refine TK.ret ?_
      try dsimp only [thenQ]
      exact ret1 (v := Enc.v (r14 : (List UInt8))) rfl (by obtain rfl := some_in hX; rfl) (v_val _)

/-- cartridge/stripe.Row -/
theorem ok_stripe_Row (l1 : (List Tape_api)) (n2 : Int) (r : (List (List UInt8))) (hX : X.stripe_Row l1 n2 = some r) : Fun Try.prog 29 [Enc.v (l1 : (List Tape_api)), Enc.v (n2 : Int)] (· = Enc.v (r : (List (List UInt8)))) := by
  refine Fun.of b29 (Nat.le_of_ble_eq_true rfl) (allVal.mem ⟨(by exact (v_val _)), (by exact (v_val _)), trivial⟩) ?_
  unfold k29
  have nd : Nd [] := Nd_nil
  unfold X.stripe_Row at hX
  refine TK.seq_k fun K3 hK3 => ?_
  refine TK.reg ?_
  refine TL.p (C := cx) (gc := true) (p_mv rfl) rfl rfl ?_
  refine TL.nil ?_
  refine hK3 _ _ ?_
  refine TK.seq_k fun K4 hK4 => ?_
  refine TK.reg ?_
  refine TL.p (C := cx) (gc := true) (p_mv rfl) rfl rfl ?_
  refine TL.nil ?_
  refine hK4 _ _ ?_
  refine TK.ownL (α := (List UInt8)) 5 23 nd rfl (.inl rfl) fun b5 nd => ?_
  refine TK.seq_k fun K6 hK6 => ?_
  refine TK.seq_k fun K7 hK7 => ?_
  refine TK.reg ?_
  refine TL.p (C := cx) (gc := true) (p_mv rfl) rfl rfl ?_
  refine TL.p (C := cx) (gc := true) (p_lenL (xs := l1) kd35 rfl) rfl rfl ?_
  refine TL.p (C := cx) (gc := true) (p_mv rfl) rfl rfl ?_
  refine TL.nil ?_
  refine hK7 _ _ ?_
  refine TK.block ?_
  obtain ⟨o8, hO8, hA8⟩ := bind_some hX
  have E8 : ∀ (l13 : List (List UInt8)) (env : Env) (h : Hp), (∃ b12, keepE [5] env = [(5, true, OL (α := (List UInt8)) b12 l13)] ∧ Nd [(b12, RL (α := (List UInt8)) 23 l13)] ∧ HSub [(b12, RL (α := (List UInt8)) 23 l13)] h) → X.stripe_Row_e8 l13 = some r → K6 env h := by
    intro l13 env h hE hX
    obtain ⟨b12, henv, nd, hs⟩ := hE
    unfold X.stripe_Row_e8 at hX
    refine hK6 _ _ (TK.keep [5] ?_)
    rw [henv]
    refine TK.subH hs ?_
    refine TK.seq_k fun K14 hK14 => ?_
    refine TK.reg ?_
    refine TL.p (C := cx) (gc := true) (p_mv rfl) rfl rfl ?_
    refine TL.p (C := cx) (gc := true) (p_mv rfl) rfl rfl ?_
    refine TL.nil ?_
    refine hK14 _ _ ?_
    refine TK.lay [(4, L l13)] nd (j := 0) rfl ⟨⟨_, rfl, fix_OL nd (j := 0) rfl, rfl⟩, trivial⟩ fun nd => ?_
    refine TK.ret ?_
    try dsimp only [thenQ]
    exact ret1 (v := Enc.v (l13 : (List (List UInt8)))) rfl (by obtain rfl := some_in hX; rfl) (v_val _)
  refine TK.iter [1, 5, 8, 9, 10] (fun s env h => match s with | (out10, x11) => ∃ b9, env = [(1, true, Enc.v (n2 : Int)), (5, true, OL (α := (List UInt8)) b9 out10), (8, true, Enc.v (l1 : (List Tape_api))), (9, true, Enc.v ((l1.length : Int) : Int)), (10, true, Enc.v (x11 : Int))] ∧ Nd [(b9, RL (α := (List UInt8)) 23 out10)] ∧ HSub [(b9, RL (α := (List UInt8)) 23 out10)] h) hO8 ⟨b5, rfl, (Nd.pick nd (is := [0]) (by decide)), (HSub.pick nd (is := [0]) (by decide))⟩ ?_
  rintro ⟨out10, x11⟩ env h x8x ⟨b9, rfl, nd, hs⟩ hX hR8
  refine TK.subH hs ?_
  unfold X.stripe_Row_s8 at hX
  try dsimp only at hX
  refine TK.seq_k fun K15 hK15 => ?_
  refine TK.reg ?_
  refine TL.p (C := cx) (gc := true) (p_lss rfl rfl) rfl rfl ?_
  refine TL.nil ?_
  refine hK15 _ _ ?_
  refine TK.seq_k fun K16 hK16 => ?_
  refine TK.cond (b := (decide (x11 < (l1.length : Int)))) rfl (fun hc => ?_) (fun hc => ?_)
  · have hX := ite_t hc hX
    refine TK.skip ?_
    refine hK16 _ _ ?_
    refine TK.seq_k fun K17 hK17 => ?_
    refine TK.block ?_
    refine TK.seq_k fun K18 hK18 => ?_
    refine TK.reg ?_
    obtain ⟨e19, he19, hX⟩ := bind_some hX
    refine TL.p (C := cx) (gc := true) (p_iaL (xs := l1) kd35 ty48 rfl rfl rfl (fun _ => he19)) rfl rfl ?_
    refine TL.p (C := cx) (gc := true) (p_ldE (xs := l1) (a := e19) (e19 : Tape_api) ty48 rfl rfl (fun _ => he19) rfl rfl rfl) rfl rfl ?_
    refine TL.alO (C := cx) (l := [Enc.v ((0 : Int) : Int), Enc.v ((0 : Int) : Int), .nils, Enc.v (false : Bool)]) nd ty48 ti48_z rfl rfl fun b20 nd => ?_
    refine TL.stV (C := cx) (lu := Enc.cl (e19 : Tape_api)) nd ty48 rfl (j := 0) rfl rfl rfl (Cells_v (e19 : Tape_api)) rfl rfl [Enc.v (e19.Label : Int), Enc.v (e19.Cap : Int), Enc.v (e19.Blocks : (List (List UInt8))), Enc.v (e19.Lost : Bool)] rfl fun nd => ?_
    refine TL.nil ?_
    refine hK18 _ _ ?_
    refine TK.reg ?_
    refine TL.p (C := cx) (gc := true) (p_mv rfl) rfl rfl ?_
    refine TL.p (C := cx) (gc := true) (p_ldVa (l' := Enc.cl (e19 : Tape_api)) ty48 rfl rfl nd (j := 0) rfl rfl rfl rfl (Nat.le_of_ble_eq_true rfl)) rfl rfl ?_
    refine TL.p (C := cx) (gc := true) (p_mv rfl) rfl rfl ?_
    obtain ⟨r21, hr21, hX⟩ := bind_some hX
    refine TL.cvX rfl rfl rfl (fun _ => ⟨rfl, ⟨rfl, ⟨rfl, trivial⟩⟩⟩) (fun e => ok_stripe_cell e19 n2 _ hr21) ?_
    refine TL.lit (C := cx) ([r21] : List (List UInt8)) kd22 ty23 rfl ⟨⟨rfl, rfl⟩, trivial⟩ rfl rfl rfl ?_
    obtain ⟨u22, hu22, hX⟩ := bind_some hX
    refine TL.appO (C := cx) nd kd22 bo22 ty23 rfl rfl (j := 1) rfl rfl (Src_L _) (by decide) (need_t hu22) rfl fun nd => ?_
    refine TL.p (C := cx) (gc := true) (p_mv rfl) rfl rfl ?_
    refine TL.nil ?_
    refine hK17 _ _ ?_
    refine TK.reg ?_
    refine TL.p (C := cx) (gc := true) (p_add rfl rfl) rfl rfl ?_
    refine TL.p (C := cx) (gc := true) (p_mv rfl) rfl rfl ?_
    refine TL.nil ?_
    exact ⟨_, (some_in hX).symm, b9, rfl, (Nd.pick nd (is := [1]) (by decide)), (HSub.pick nd (is := [1]) (by decide))⟩
  · have hX := ite_f hc hX
    refine TK.exit ?_
    obtain rfl := hR8 _ (some_in hX).symm
    exact E8 out10 _ _ ⟨b9, rfl, (Nd.pick nd (is := [0]) (by decide)), (HSub.pick nd (is := [0]) (by decide))⟩ hA8

/-- slices.IndexFunc[[][]byte,[]byte] -/
theorem ok_slices_IndexFunc_LLbyte_Lbyte (s1 : (List (List UInt8))) (g2 : (List UInt8) → Option Bool) (r : Int) (hX : X.slices_IndexFunc_LLbyte_Lbyte s1 g2 = some r) {g2V : AV} (hg2V : ∃ f m c, g2V = .fn f m c ∧ (∀ i, i < m → (c i).val) ∧ ∀ (a0 : (List UInt8)) r, g2 a0 = some r → Fun Try.prog f ([Enc.v a0] ++ (List.range m).map c) (· = Enc.v r)) : Fun Try.prog 60 [Enc.v (s1 : (List (List UInt8))), g2V] (· = Enc.v (r : Int)) := by
  obtain ⟨g2f, g2m, g2c, rfl, hg2v, hg2⟩ := hg2V
  refine Fun.of b60 (Nat.le_of_ble_eq_true rfl) (allVal.mem ⟨(by exact (v_val _)), hg2v, trivial⟩) ?_
  unfold k60
  have nd : Nd [] := Nd_nil
  unfold X.slices_IndexFunc_LLbyte_Lbyte at hX
  refine TK.seq_k fun K3 hK3 => ?_
  refine TK.reg ?_
  refine TL.p (C := cx) (gc := true) (p_mv rfl) rfl rfl ?_
  refine TL.nil ?_
  refine hK3 _ _ ?_
  refine TK.seq_k fun K4 hK4 => ?_
  refine TK.seq_k fun K5 hK5 => ?_
  refine TK.reg ?_
  refine TL.p (C := cx) (gc := true) (p_mv rfl) rfl rfl ?_
  refine TL.p (C := cx) (gc := true) (p_lenL (xs := s1) kd22 rfl) rfl rfl ?_
  refine TL.p (C := cx) (gc := true) (p_mv rfl) rfl rfl ?_
  refine TL.nil ?_
  refine hK5 _ _ ?_
  refine TK.block ?_
  obtain ⟨o6, hO6, hA6⟩ := bind_some hX
  have E6 : ∀ (env : Env) (h : Hp), (∃ _u : Unit, keepE [] env = [] ∧ Nd [] ∧ HSub [] h) → X.slices_IndexFunc_LLbyte_Lbyte_e6 = some r → K4 env h := by
    intro  env h hE hX
    obtain ⟨_u, henv, nd, hs⟩ := hE
    unfold X.slices_IndexFunc_LLbyte_Lbyte_e6 at hX
    refine hK4 _ _ (TK.keep [] ?_)
    rw [henv]
    refine TK.subH hs ?_
    refine TK.seq_k fun K8 hK8 => ?_
    refine TK.reg ?_
    refine TL.p (C := cx) (gc := true) (p_mv rfl) rfl rfl ?_
    refine TL.nil ?_
    refine hK8 _ _ ?_
    refine TK.ret ?_
    try dsimp only [thenQ]
    exact ret1 (v := Enc.v (((-1) : Int) : Int)) rfl (by obtain rfl := some_in hX; rfl) (v_val _)
  refine TK.iter [0, 1, 7, 8] (fun s env h => match s with | x7 => ∃ _u : Unit, env = [(0, true, Enc.v (s1 : (List (List UInt8)))), (1, true, .fn g2f g2m g2c), (7, true, Enc.v ((s1.length : Int) : Int)), (8, true, Enc.v (x7 : Int))] ∧ Nd [] ∧ HSub [] h) hO6 ⟨(), rfl, Nd_nil, HSub.refl _⟩ ?_
  rintro x7 env h x6x ⟨_u, rfl, nd, hs⟩ hX hR6
  refine TK.subH hs ?_
  unfold X.slices_IndexFunc_LLbyte_Lbyte_s6 at hX
  try dsimp only at hX
  refine TK.seq_k fun K9 hK9 => ?_
  refine TK.reg ?_
  refine TL.p (C := cx) (gc := true) (p_lss rfl rfl) rfl rfl ?_
  refine TL.nil ?_
  refine hK9 _ _ ?_
  refine TK.seq_k fun K10 hK10 => ?_
  refine TK.cond (b := (decide (x7 < (s1.length : Int)))) rfl (fun hc => ?_) (fun hc => ?_)
  · have hX := ite_t hc hX
    refine TK.skip ?_
    refine hK10 _ _ ?_
    refine TK.seq_k fun K11 hK11 => ?_
    refine TK.block ?_
    refine TK.seq_k fun K12 hK12 => ?_
    refine TK.reg ?_
    refine TL.p (C := cx) (gc := true) (p_mv rfl) rfl rfl ?_
    refine TL.p (C := cx) (gc := true) (p_mv rfl) rfl rfl ?_
    refine TL.nil ?_
    refine hK12 _ _ ?_
    refine TK.seq_k fun K13 hK13 => ?_
    refine TK.reg ?_
    refine TL.p (C := cx) (gc := true) (p_mv rfl) rfl rfl ?_
    refine TL.p (C := cx) (gc := true) (p_mv rfl) rfl rfl ?_
    refine TL.p (C := cx) (gc := true) (p_mv rfl) rfl rfl ?_
    obtain ⟨e14, he14, hX⟩ := bind_some hX
    refine TL.p (C := cx) (gc := true) (p_iaL (xs := s1) kd22 ty23 rfl rfl rfl (fun _ => he14)) rfl rfl ?_
    refine TL.p (C := cx) (gc := true) (p_ldE (xs := s1) (a := e14) (e14 : (List UInt8)) ty23 rfl rfl (fun _ => he14) rfl rfl rfl) rfl rfl ?_
    obtain ⟨r15, hr15, hX⟩ := bind_some hX
    refine TL.cvX rfl rfl rfl (fun _ => ⟨rfl, ⟨rfl, trivial⟩⟩) (fun e => hg2 e14 _ hr15) ?_
    refine TL.nil ?_
    refine hK13 _ _ ?_
    refine TK.cond (b := r15) rfl (fun hc => ?_) (fun hc => ?_)
    · have hX := ite_t hc hX
      refine TK.seq_k fun K16 hK16 => ?_
      refine TK.reg ?_
      refine TL.p (C := cx) (gc := true) (p_mv rfl) rfl rfl ?_
      refine TL.p (C := cx) (gc := true) (p_mv rfl) rfl rfl ?_
      refine TL.nil ?_
      refine hK16 _ _ ?_
      refine TK.ret ?_
      obtain rfl := hR6 _ (some_in hX).symm
      replace hX := hA6
      try dsimp only [thenQ]
      exact ret1 (v := Enc.v (x7 : Int)) rfl (by obtain rfl := some_in hX; rfl) (v_val _)
    · have hX := ite_f hc hX
      refine TK.skip ?_
      refine hK11 _ _ ?_
      refine TK.reg ?_
      refine TL.p (C := cx) (gc := true) (p_add rfl rfl) rfl rfl ?_
      refine TL.p (C := cx) (gc := true) (p_mv rfl) rfl rfl ?_
      refine TL.nil ?_
      exact ⟨_, (some_in hX).symm, (), rfl, Nd_nil, HSub.refl _⟩
  · have hX := ite_f hc hX
    refine TK.exit ?_
    obtain rfl := hR6 _ (some_in hX).symm
    exact E6 _ _ ⟨(), rfl, Nd_nil, HSub.refl _⟩ hA6

/-- slices.ContainsFunc[[][]byte,[]byte] -/
theorem ok_slices_ContainsFunc_LLbyte_Lbyte (s1 : (List (List UInt8))) (g2 : (List UInt8) → Option Bool) (r : Bool) (hX : X.slices_ContainsFunc_LLbyte_Lbyte s1 g2 = some r) {g2V : AV} (hg2V : ∃ f m c, g2V = .fn f m c ∧ (∀ i, i < m → (c i).val) ∧ ∀ (a0 : (List UInt8)) r, g2 a0 = some r → Fun Try.prog f ([Enc.v a0] ++ (List.range m).map c) (· = Enc.v r)) : Fun Try.prog 68 [Enc.v (s1 : (List (List UInt8))), g2V] (· = Enc.v (r : Bool)) := by
  obtain ⟨g2f, g2m, g2c, rfl, hg2v, hg2⟩ := hg2V
  refine Fun.of b68 (Nat.le_of_ble_eq_true rfl) (allVal.mem ⟨(by exact (v_val _)), hg2v, trivial⟩) ?_
  unfold k68
  have nd : Nd [] := Nd_nil
  unfold X.slices_ContainsFunc_LLbyte_Lbyte at hX
  refine TK.seq_k fun K3 hK3 => ?_
  refine TK.reg ?_
  refine TL.p (C := cx) (gc := true) (p_mv rfl) rfl rfl ?_
  refine TL.nil ?_
  refine hK3 _ _ ?_
  refine TK.seq_k fun K4 hK4 => ?_
  refine TK.reg ?_
  refine TL.p (C := cx) (gc := true) (p_mv rfl) rfl rfl ?_
  refine TL.p (C := cx) (gc := true) (p_mv rfl) rfl rfl ?_
  obtain ⟨r5, hr5, hX⟩ := bind_some hX
  refine TL.cvX rfl rfl rfl (fun _ => ⟨rfl, ⟨rfl, ⟨rfl, trivial⟩⟩⟩) (fun e => ok_slices_IndexFunc_LLbyte_Lbyte s1 g2 _ hr5 ⟨_, _, _, rfl, hg2v, hg2⟩) ?_
  refine TL.p (C := cx) (gc := true) (p_geq rfl rfl) rfl rfl ?_
  refine TL.p (C := cx) (gc := true) (p_mv rfl) rfl rfl ?_
  refine TL.nil ?_
  refine hK4 _ _ ?_
  refine TK.ret ?_
  try dsimp only [thenQ]
  exact ret1 (v := Enc.v ((decide (r5 ≥ (0 : Int))) : Bool)) rfl (by obtain rfl := some_in hX; rfl) (v_val _)

/-- cartridge/erasure.alike$1 -/
theorem ok_erasure_alike_c1 (r1 : (List UInt8)) (c2 : (List (List UInt8))) (r : Bool) (hX : X.erasure_alike_c1 r1 c2 = some r) : Fun Try.prog 109 [Enc.v (r1 : (List UInt8)), .vref (ofL [Enc.v (c2 : (List (List UInt8)))]) 1 0] (· = Enc.v (r : Bool)) := by
  refine Fun.of b109 (Nat.le_of_ble_eq_true rfl) (allVal.mem ⟨(by exact (v_val _)), (by exact (vref_val (l := [Enc.v (c2 : (List (List UInt8)))]) rfl ⟨(v_val _), trivial⟩)), trivial⟩) ?_
  unfold k109
  have nd : Nd [] := Nd_nil
  unfold X.erasure_alike_c1 at hX
  refine TK.seq_k fun K3 hK3 => ?_
  refine TK.reg ?_
  refine TL.p (C := cx) (gc := true) (p_mv rfl) rfl rfl ?_
  refine TL.nil ?_
  refine hK3 _ _ ?_
  refine TK.seq_k fun K4 hK4 => ?_
  refine TK.reg ?_
  refine TL.p (C := cx) (gc := true) (p_mv rfl) rfl rfl ?_
  refine TL.p (C := cx) (gc := true) (p_lenL (xs := r1) kd23 rfl) rfl rfl ?_
  refine TL.p (C := cx) (gc := true) (p_ldR (v := Enc.v (c2 : (List (List UInt8)))) ty22 rfl rfl rfl rfl rfl rfl) rfl rfl ?_
  obtain ⟨e5, he5, hX⟩ := bind_some hX
  refine TL.p (C := cx) (gc := true) (p_iaL (xs := c2) kd22 ty23 rfl rfl rfl (fun _ => he5)) rfl rfl ?_
  refine TL.p (C := cx) (gc := true) (p_ldE (xs := c2) (a := e5) (e5 : (List UInt8)) ty23 rfl rfl (fun _ => he5) rfl rfl rfl) rfl rfl ?_
  refine TL.p (C := cx) (gc := true) (p_lenL (xs := e5) kd23 rfl) rfl rfl ?_
  refine TL.p (C := cx) (gc := true) (p_neq rfl rfl) rfl rfl ?_
  refine TL.p (C := cx) (gc := true) (p_mv rfl) rfl rfl ?_
  refine TL.nil ?_
  refine hK4 _ _ ?_
  refine TK.ret ?_
  try dsimp only [thenQ]
  exact ret1 (v := Enc.v (((r1.length : Int) != (e5.length : Int)) : Bool)) rfl (by obtain rfl := some_in hX; rfl) (v_val _)

/-- cartridge/erasure.alike -/
theorem ok_erasure_alike (l1 : (List (List UInt8))) (r : Bool) (hX : X.erasure_alike l1 = some r) : Fun Try.prog 93 [Enc.v (l1 : (List (List UInt8)))] (· = Enc.v (r : Bool)) := by
  refine Fun.of b93 (Nat.le_of_ble_eq_true rfl) (allVal.mem ⟨(by exact (v_val _)), trivial⟩) ?_
  unfold k93
  have nd : Nd [] := Nd_nil
  unfold X.erasure_alike at hX
  refine TK.seq_k fun K2 hK2 => ?_
  refine TK.reg ?_
  refine TL.boxV (C := cx) (lu := [Enc.v (l1 : (List (List UInt8)))]) nd rfl (Cells_v (l1 : (List (List UInt8)))) rfl ?_
  refine TL.p (C := cx) (gc := true) (p_mv rfl) rfl rfl ?_
  refine TL.nil ?_
  refine hK2 _ _ ?_
  refine TK.seq_k fun K3 hK3 => ?_
  refine TK.reg ?_
  refine TL.p (C := cx) (gc := true) (p_ldR (v := Enc.v (l1 : (List (List UInt8)))) ty22 rfl rfl rfl rfl rfl rfl) rfl rfl ?_
  refine TL.p (C := cx) (gc := true) (p_mf (l := [.vref (ofL [Enc.v (l1 : (List (List UInt8)))]) 1 0]) rfl (fun _ => ⟨rfl, trivial⟩)) rfl rfl ?_
  obtain ⟨r4, hr4, hX⟩ := bind_some hX
  refine TL.cvX rfl rfl rfl (fun _ => ⟨rfl, ⟨rfl, ⟨rfl, trivial⟩⟩⟩) (fun e => ok_slices_ContainsFunc_LLbyte_Lbyte l1 (fun a1 => X.erasure_alike_c1 a1 l1) _ hr4 ⟨109, 1, ofL [.vref (ofL [Enc.v (l1 : (List (List UInt8)))]) 1 0], rfl, (caps_val rfl ⟨(vref_val rfl ⟨v_val _, trivial⟩), trivial⟩), fun a1 r hr => ok_erasure_alike_c1 a1 l1 r hr⟩) ?_
  refine TL.p (C := cx) (gc := true) (p_not rfl) rfl rfl ?_
  refine TL.p (C := cx) (gc := true) (p_mv rfl) rfl rfl ?_
  refine TL.nil ?_
  refine hK3 _ _ ?_
  refine TK.ret ?_
  try dsimp only [thenQ]
  exact ret1 (v := Enc.v ((!r4) : Bool)) rfl (by obtain rfl := some_in hX; rfl) (v_val _)

/-- cartridge/gf.Add -/
theorem ok_gf_Add (a1 : UInt8) (b2 : UInt8) (r : UInt8) (hX : X.gf_Add a1 b2 = some r) : Fun Try.prog 74 [Enc.v (a1 : UInt8), Enc.v (b2 : UInt8)] (· = Enc.v (r : UInt8)) := by
  refine Fun.of b74 (Nat.le_of_ble_eq_true rfl) (allVal.mem ⟨(by exact (v_val _)), (by exact (v_val _)), trivial⟩) ?_
  unfold k74
  have nd : Nd [] := Nd_nil
  unfold X.gf_Add at hX
  refine TK.seq_k fun K3 hK3 => ?_
  refine TK.reg ?_
  refine TL.p (C := cx) (gc := true) (p_mv rfl) rfl rfl ?_
  refine TL.nil ?_
  refine hK3 _ _ ?_
  refine TK.seq_k fun K4 hK4 => ?_
  refine TK.reg ?_
  refine TL.p (C := cx) (gc := true) (p_mv rfl) rfl rfl ?_
  refine TL.p (C := cx) (gc := true) (p_mv rfl) rfl rfl ?_
  refine TL.p (C := cx) (gc := true) (p8_xor (a := a1) (b := b2) rfl rfl) rfl rfl ?_
  refine TL.p (C := cx) (gc := true) (p_mv rfl) rfl rfl ?_
  refine TL.nil ?_
  refine hK4 _ _ ?_
  refine TK.ret ?_
  try dsimp only [thenQ]
  exact ret1 (v := Enc.v ((a1 ^^^ b2) : UInt8)) rfl (by obtain rfl := some_in hX; rfl) (v_val _)

/-- cartridge/gf.Mul -/
theorem ok_gf_Mul (a1 : UInt8) (b2 : UInt8) (r : UInt8) (hX : X.gf_Mul a1 b2 = some r) : Fun Try.prog 97 [Enc.v (a1 : UInt8), Enc.v (b2 : UInt8)] (· = Enc.v (r : UInt8)) := by
  refine Fun.of b97 (Nat.le_of_ble_eq_true rfl) (allVal.mem ⟨(by exact (v_val _)), (by exact (v_val _)), trivial⟩) ?_
  unfold k97
  have nd : Nd [] := Nd_nil
  unfold X.gf_Mul at hX
  refine TK.seq_k fun K3 hK3 => ?_
  refine TK.reg ?_
  refine TL.p (C := cx) (gc := true) (p_mv rfl) rfl rfl ?_
  refine TL.nil ?_
  refine hK3 _ _ ?_
  refine TK.seq_k fun K4 hK4 => ?_
  refine TK.reg ?_
  refine TL.p (C := cx) (gc := true) (p_mv rfl) rfl rfl ?_
  refine TL.nil ?_
  refine hK4 _ _ ?_
  refine TK.seq_k fun K5 hK5 => ?_
  refine TK.block ?_
  obtain ⟨o6, hO6, hA6⟩ := bind_some hX
  have E6 : ∀ (out10 : UInt8) (env : Env) (h : Hp), (∃ _u : Unit, keepE [5] env = [(5, true, Enc.v (out10 : UInt8))] ∧ Nd [] ∧ HSub [] h) → X.gf_Mul_e6 out10 = some r → K5 env h := by
    intro out10 env h hE hX
    obtain ⟨_u, henv, nd, hs⟩ := hE
    unfold X.gf_Mul_e6 at hX
    refine hK5 _ _ (TK.keep [5] ?_)
    rw [henv]
    refine TK.subH hs ?_
    refine TK.seq_k fun K11 hK11 => ?_
    refine TK.reg ?_
    refine TL.p (C := cx) (gc := true) (p_mv rfl) rfl rfl ?_
    refine TL.p (C := cx) (gc := true) (p_mv rfl) rfl rfl ?_
    refine TL.nil ?_
    refine hK11 _ _ ?_
    refine TK.ret ?_
    try dsimp only [thenQ]
    exact ret1 (v := Enc.v (out10 : UInt8)) rfl (by obtain rfl := some_in hX; rfl) (v_val _)
  refine TK.iter [0, 1, 5] (fun s env h => match s with | (a7, b8, out9) => ∃ _u : Unit, env = [(0, true, Enc.v (a7 : UInt8)), (1, true, Enc.v (b8 : UInt8)), (5, true, Enc.v (out9 : UInt8))] ∧ Nd [] ∧ HSub [] h) hO6 ⟨(), rfl, Nd_nil, HSub.refl _⟩ ?_
  rintro ⟨a7, b8, out9⟩ env h x6x ⟨_u, rfl, nd, hs⟩ hX hR6
  refine TK.subH hs ?_
  unfold X.gf_Mul_s6 at hX
  try dsimp only at hX
  refine TK.seq_k fun K12 hK12 => ?_
  refine TK.seq_k fun K13 hK13 => ?_
  refine TK.reg ?_
  refine TL.p (C := cx) (gc := true) (p_mv rfl) rfl rfl ?_
  refine TL.p (C := cx) (gc := true) (p8_neq (a := b8) (b := (0 : UInt8)) rfl rfl) rfl rfl ?_
  refine TL.nil ?_
  refine hK13 _ _ ?_
  refine TK.cond (b := (b8 != (0 : UInt8))) rfl (fun hc => ?_) (fun hc => ?_)
  · have hX := ite_t hc hX
    refine TK.skip ?_
    refine hK12 _ _ ?_
    refine TK.seq_k fun K14 hK14 => ?_
    have J14 : ∀ (a15 : UInt8) (out16 : UInt8) (env : Env) (h : Hp), (∃ _u : Unit, keepE [0, 1, 5] env = [(0, true, Enc.v (a15 : UInt8)), (1, true, Enc.v (b8 : UInt8)), (5, true, Enc.v (out16 : UInt8))] ∧ Nd [] ∧ HSub [] h) → X.gf_Mul_j14 b8 a15 out16 = some x6x → K14 env h := by
      intro a15 out16 env h hE hX
      obtain ⟨_u, henv, nd, hs⟩ := hE
      unfold X.gf_Mul_j14 at hX
      refine hK14 _ _ (TK.keep [0, 1, 5] ?_)
      rw [henv]
      refine TK.subH hs ?_
      refine TK.reg ?_
      refine TL.p (C := cx) (gc := true) (p_mv rfl) rfl rfl ?_
      refine TL.p (C := cx) (gc := true) (p8_shr (a := b8) (b := 1) rfl rfl) rfl rfl ?_
      refine TL.p (C := cx) (gc := true) (p_mv rfl) rfl rfl ?_
      refine TL.nil ?_
      exact ⟨_, (some_in hX).symm, (), rfl, Nd_nil, HSub.refl _⟩
    refine TK.block ?_
    refine TK.seq_k fun K17 hK17 => ?_
    have J17 : ∀ (out18 : UInt8) (env : Env) (h : Hp), (∃ _u : Unit, keepE [0, 1, 5] env = [(0, true, Enc.v (a7 : UInt8)), (1, true, Enc.v (b8 : UInt8)), (5, true, Enc.v (out18 : UInt8))] ∧ Nd [] ∧ HSub [] h) → X.gf_Mul_j17 a7 b8 out18 = some x6x → K17 env h := by
      intro out18 env h hE hX
      obtain ⟨_u, henv, nd, hs⟩ := hE
      unfold X.gf_Mul_j17 at hX
      refine hK17 _ _ (TK.keep [0, 1, 5] ?_)
      rw [henv]
      refine TK.subH hs ?_
      refine TK.seq_k fun K19 hK19 => ?_
      refine TK.reg ?_
      refine TL.p (C := cx) (gc := true) (p_mv rfl) rfl rfl ?_
      refine TL.p (C := cx) (gc := true) (p8_and (a := a7) (b := (128 : UInt8)) rfl rfl) rfl rfl ?_
      refine TL.p (C := cx) (gc := true) (p8_neq (a := (a7 &&& (128 : UInt8))) (b := (0 : UInt8)) rfl rfl) rfl rfl ?_
      refine TL.p (C := cx) (gc := true) (p_mv rfl) rfl rfl ?_
      refine TL.nil ?_
      refine hK19 _ _ ?_
      refine TK.seq_k fun K20 hK20 => ?_
      refine TK.reg ?_
      refine TL.p (C := cx) (gc := true) (p_mv rfl) rfl rfl ?_
      refine TL.p (C := cx) (gc := true) (p8_shl (a := a7) (b := 1) rfl rfl) rfl rfl ?_
      refine TL.p (C := cx) (gc := true) (p_mv rfl) rfl rfl ?_
      refine TL.nil ?_
      refine hK20 _ _ ?_
      refine TK.seq_k fun K21 hK21 => ?_
      refine TK.reg ?_
      refine TL.p (C := cx) (gc := true) (p_mv rfl) rfl rfl ?_
      refine TL.nil ?_
      refine hK21 _ _ ?_
      refine TK.cond (b := ((a7 &&& (128 : UInt8)) != (0 : UInt8))) rfl (fun hc => ?_) (fun hc => ?_)
      · have hX := ite_t hc hX
        refine TK.reg ?_
        refine TL.p (C := cx) (gc := true) (p_mv rfl) rfl rfl ?_
        refine TL.p (C := cx) (gc := true) (p8_xor (a := (shl8 a7 1)) (b := (29 : UInt8)) rfl rfl) rfl rfl ?_
        refine TL.p (C := cx) (gc := true) (p_mv rfl) rfl rfl ?_
        refine TL.nil ?_
        exact J14 ((shl8 a7 1) ^^^ (29 : UInt8)) out18 _ _ ⟨(), rfl, Nd_nil, HSub.refl _⟩ hX
      · have hX := ite_f hc hX
        refine TK.skip ?_
        exact J14 (shl8 a7 1) out18 _ _ ⟨(), rfl, Nd_nil, HSub.refl _⟩ hX
    refine TK.seq_k fun K22 hK22 => ?_
    refine TK.reg ?_
    refine TL.p (C := cx) (gc := true) (p_mv rfl) rfl rfl ?_
    refine TL.p (C := cx) (gc := true) (p8_and (a := b8) (b := (1 : UInt8)) rfl rfl) rfl rfl ?_
    refine TL.p (C := cx) (gc := true) (p8_eql (a := (b8 &&& (1 : UInt8))) (b := (1 : UInt8)) rfl rfl) rfl rfl ?_
    refine TL.nil ?_
    refine hK22 _ _ ?_
    refine TK.cond (b := ((b8 &&& (1 : UInt8)) == (1 : UInt8))) rfl (fun hc => ?_) (fun hc => ?_)
    · have hX := ite_t hc hX
      refine TK.reg ?_
      refine TL.p (C := cx) (gc := true) (p_mv rfl) rfl rfl ?_
      refine TL.p (C := cx) (gc := true) (p_mv rfl) rfl rfl ?_
      refine TL.p (C := cx) (gc := true) (p8_xor (a := out9) (b := a7) rfl rfl) rfl rfl ?_
      refine TL.p (C := cx) (gc := true) (p_mv rfl) rfl rfl ?_
      refine TL.nil ?_
      exact J17 (out9 ^^^ a7) _ _ ⟨(), rfl, Nd_nil, HSub.refl _⟩ hX
    · have hX := ite_f hc hX
      refine TK.skip ?_
      exact J17 out9 _ _ ⟨(), rfl, Nd_nil, HSub.refl _⟩ hX
  · have hX := ite_f hc hX
    refine TK.exit ?_
    obtain rfl := hR6 _ (some_in hX).symm
    exact E6 out9 _ _ ⟨(), rfl, Nd_nil, HSub.refl _⟩ hA6

/-- cartridge/gf.power -/
theorem ok_gf_power (a1 : UInt8) (n2 : Int) (r : UInt8) (hX : X.gf_power a1 n2 = some r) : Fun Try.prog 98 [Enc.v (a1 : UInt8), Enc.v (n2 : Int)] (· = Enc.v (r : UInt8)) := by
  refine Fun.of b98 (Nat.le_of_ble_eq_true rfl) (allVal.mem ⟨(by exact (v_val _)), (by exact (v_val _)), trivial⟩) ?_
  unfold k98
  have nd : Nd [] := Nd_nil
  unfold X.gf_power at hX
  refine TK.seq_k fun K3 hK3 => ?_
  refine TK.reg ?_
  refine TL.p (C := cx) (gc := true) (p_mv rfl) rfl rfl ?_
  refine TL.nil ?_
  refine hK3 _ _ ?_
  refine TK.seq_k fun K4 hK4 => ?_
  refine TK.reg ?_
  refine TL.p (C := cx) (gc := true) (p_mv rfl) rfl rfl ?_
  refine TL.nil ?_
  refine hK4 _ _ ?_
  refine TK.seq_k fun K5 hK5 => ?_
  refine TK.block ?_
  obtain ⟨o6, hO6, hA6⟩ := bind_some hX
  have E6 : ∀ (out10 : UInt8) (env : Env) (h : Hp), (∃ _u : Unit, keepE [5] env = [(5, true, Enc.v (out10 : UInt8))] ∧ Nd [] ∧ HSub [] h) → X.gf_power_e6 out10 = some r → K5 env h := by
    intro out10 env h hE hX
    obtain ⟨_u, henv, nd, hs⟩ := hE
    unfold X.gf_power_e6 at hX
    refine hK5 _ _ (TK.keep [5] ?_)
    rw [henv]
    refine TK.subH hs ?_
    refine TK.seq_k fun K11 hK11 => ?_
    refine TK.reg ?_
    refine TL.p (C := cx) (gc := true) (p_mv rfl) rfl rfl ?_
    refine TL.p (C := cx) (gc := true) (p_mv rfl) rfl rfl ?_
    refine TL.nil ?_
    refine hK11 _ _ ?_
    refine TK.ret ?_
    try dsimp only [thenQ]
    exact ret1 (v := Enc.v (out10 : UInt8)) rfl (by obtain rfl := some_in hX; rfl) (v_val _)
  refine TK.iter [0, 1, 5] (fun s env h => match s with | (a7, n8, out9) => ∃ _u : Unit, env = [(0, true, Enc.v (a7 : UInt8)), (1, true, Enc.v (n8 : Int)), (5, true, Enc.v (out9 : UInt8))] ∧ Nd [] ∧ HSub [] h) hO6 ⟨(), rfl, Nd_nil, HSub.refl _⟩ ?_
  rintro ⟨a7, n8, out9⟩ env h x6x ⟨_u, rfl, nd, hs⟩ hX hR6
  refine TK.subH hs ?_
  unfold X.gf_power_s6 at hX
  try dsimp only at hX
  refine TK.seq_k fun K12 hK12 => ?_
  refine TK.seq_k fun K13 hK13 => ?_
  refine TK.reg ?_
  refine TL.p (C := cx) (gc := true) (p_mv rfl) rfl rfl ?_
  refine TL.p (C := cx) (gc := true) (p_gtr rfl rfl) rfl rfl ?_
  refine TL.nil ?_
  refine hK13 _ _ ?_
  refine TK.cond (b := (decide (n8 > (0 : Int)))) rfl (fun hc => ?_) (fun hc => ?_)
  · have hX := ite_t hc hX
    refine TK.skip ?_
    refine hK12 _ _ ?_
    refine TK.seq_k fun K14 hK14 => ?_
    refine TK.block ?_
    refine TK.seq_k fun K15 hK15 => ?_
    have J15 : ∀ (out16 : UInt8) (env : Env) (h : Hp), (∃ _u : Unit, keepE [0, 1, 5] env = [(0, true, Enc.v (a7 : UInt8)), (1, true, Enc.v (n8 : Int)), (5, true, Enc.v (out16 : UInt8))] ∧ Nd [] ∧ HSub [] h) → X.gf_power_j15 a7 n8 out16 = some x6x → K15 env h := by
      intro out16 env h hE hX
      obtain ⟨_u, henv, nd, hs⟩ := hE
      unfold X.gf_power_j15 at hX
      refine hK15 _ _ (TK.keep [0, 1, 5] ?_)
      rw [henv]
      refine TK.subH hs ?_
      refine TK.reg ?_
      refine TL.p (C := cx) (gc := true) (p_mv rfl) rfl rfl ?_
      refine TL.p (C := cx) (gc := true) (p_mv rfl) rfl rfl ?_
      obtain ⟨r17, hr17, hX⟩ := bind_some hX
      refine TL.cvX rfl rfl rfl (fun _ => ⟨rfl, ⟨rfl, ⟨rfl, trivial⟩⟩⟩) (fun e => ok_gf_Mul a7 a7 _ hr17) ?_
      refine TL.p (C := cx) (gc := true) (p_mv rfl) rfl rfl ?_
      refine TL.nil ?_
      refine hK14 _ _ ?_
      refine TK.reg ?_
      refine TL.p (C := cx) (gc := true) (p_mv rfl) rfl rfl ?_
      refine TL.p (C := cx) (gc := true) (p_shr rfl rfl (fun _ => by omega)) rfl rfl ?_
      refine TL.p (C := cx) (gc := true) (p_mv rfl) rfl rfl ?_
      refine TL.nil ?_
      exact ⟨_, (some_in hX).symm, (), rfl, Nd_nil, HSub.refl _⟩
    refine TK.seq_k fun K18 hK18 => ?_
    refine TK.reg ?_
    refine TL.p (C := cx) (gc := true) (p_mv rfl) rfl rfl ?_
    refine TL.p (C := cx) (gc := true) (p_and64 rfl rfl) rfl rfl ?_
    refine TL.p (C := cx) (gc := true) (p_eql rfl rfl) rfl rfl ?_
    refine TL.nil ?_
    refine hK18 _ _ ?_
    refine TK.cond (b := ((and64 n8 (1 : Int)) == (1 : Int))) rfl (fun hc => ?_) (fun hc => ?_)
    · have hX := ite_t hc hX
      refine TK.reg ?_
      refine TL.p (C := cx) (gc := true) (p_mv rfl) rfl rfl ?_
      refine TL.p (C := cx) (gc := true) (p_mv rfl) rfl rfl ?_
      obtain ⟨r19, hr19, hX⟩ := bind_some hX
      refine TL.cvX rfl rfl rfl (fun _ => ⟨rfl, ⟨rfl, ⟨rfl, trivial⟩⟩⟩) (fun e => ok_gf_Mul out9 a7 _ hr19) ?_
      refine TL.p (C := cx) (gc := true) (p_mv rfl) rfl rfl ?_
      refine TL.nil ?_
      exact J15 r19 _ _ ⟨(), rfl, Nd_nil, HSub.refl _⟩ hX
    · have hX := ite_f hc hX
      refine TK.skip ?_
      exact J15 out9 _ _ ⟨(), rfl, Nd_nil, HSub.refl _⟩ hX
  · have hX := ite_f hc hX
    refine TK.exit ?_
    obtain rfl := hR6 _ (some_in hX).symm
    exact E6 out9 _ _ ⟨(), rfl, Nd_nil, HSub.refl _⟩ hA6

/-- cartridge/gf.Inv -/
theorem ok_gf_Inv (a1 : UInt8) (r : UInt8) (hX : X.gf_Inv a1 = some r) : Fun Try.prog 63 [Enc.v (a1 : UInt8)] (· = Enc.v (r : UInt8)) := by
  refine Fun.of b63 (Nat.le_of_ble_eq_true rfl) (allVal.mem ⟨(by exact (v_val _)), trivial⟩) ?_
  unfold k63
  have nd : Nd [] := Nd_nil
  unfold X.gf_Inv at hX
  refine TK.seq_k fun K2 hK2 => ?_
  refine TK.reg ?_
  refine TL.p (C := cx) (gc := true) (p_mv rfl) rfl rfl ?_
  refine TL.nil ?_
  refine hK2 _ _ ?_
  refine TK.seq_k fun K3 hK3 => ?_
  refine TK.reg ?_
  refine TL.p (C := cx) (gc := true) (p_mv rfl) rfl rfl ?_
  obtain ⟨r4, hr4, hX⟩ := bind_some hX
  refine TL.cvX rfl rfl rfl (fun _ => ⟨rfl, ⟨rfl, ⟨rfl, trivial⟩⟩⟩) (fun e => ok_gf_power a1 (254 : Int) _ hr4) ?_
  refine TL.p (C := cx) (gc := true) (p_mv rfl) rfl rfl ?_
  refine TL.nil ?_
  refine hK3 _ _ ?_
  refine TK.ret ?_
  try dsimp only [thenQ]
  exact ret1 (v := Enc.v (r4 : UInt8)) rfl (by obtain rfl := some_in hX; rfl) (v_val _)

/-- cartridge/matrix.Cauchy -/
theorem ok_matrix_Cauchy (data1 : Int) (parity2 : Int) (r : ((List (List UInt8)) × Int)) (hX : X.matrix_Cauchy data1 parity2 = some r) : Fun Try.prog 37 [Enc.v (data1 : Int), Enc.v (parity2 : Int)] (· = .tup 2 (ofL [Enc.v r.1, Enc.v r.2])) := by
  refine Fun.of b37 (Nat.le_of_ble_eq_true rfl) (allVal.mem ⟨(by exact (v_val _)), (by exact (v_val _)), trivial⟩) ?_
  unfold k37
  have nd : Nd [] := Nd_nil
  unfold X.matrix_Cauchy at hX
  refine TK.seq_k fun K3 hK3 => ?_
  refine TK.reg ?_
  refine TL.p (C := cx) (gc := true) (p_mv rfl) rfl rfl ?_
  refine TL.p (C := cx) (gc := true) (p_mv rfl) rfl rfl ?_
  refine TL.nil ?_
  refine hK3 _ _ ?_
  refine TK.seq_k fun K4 hK4 => ?_
  refine TK.seq_k fun K5 hK5 => ?_
  refine TK.reg ?_
  refine TL.p (C := cx) (gc := true) (p_mv rfl) rfl rfl ?_
  refine TL.p (C := cx) (gc := true) (p_lss rfl rfl) rfl rfl ?_
  refine TL.p (C := cx) (gc := true) (p_mv rfl) rfl rfl ?_
  refine TL.p (C := cx) (gc := (!((decide (data1 < (1 : Int)))))) (p_mv rfl (hg := fun e => rfl)) (gcF1 rfl) rfl ?_
  refine TL.p (C := cx) (gc := (!((decide (data1 < (1 : Int)))))) (p_lss rfl rfl (hg := fun e => ⟨e, rfl⟩)) (gcF1 rfl) rfl ?_
  refine TL.p (C := cx) (gc := true) (p_or rfl rfl (fun e => ⟨rfl, fun h => (not_t h)⟩)) rfl rfl ?_
  refine TL.p (C := cx) (gc := true) (p_mv rfl) rfl rfl ?_
  refine TL.p (C := cx) (gc := (!(((decide (data1 < (1 : Int))) || (decide (parity2 < (1 : Int))))))) (p_mv rfl (hg := fun e => rfl)) (gcF1 rfl) rfl ?_
  refine TL.p (C := cx) (gc := (!(((decide (data1 < (1 : Int))) || (decide (parity2 < (1 : Int))))))) (p_gtr rfl rfl (hg := fun e => ⟨e, rfl⟩)) (gcF1 rfl) rfl ?_
  refine TL.p (C := cx) (gc := true) (p_or rfl rfl (fun e => ⟨rfl, fun h => (not_t h)⟩)) rfl rfl ?_
  refine TL.p (C := cx) (gc := true) (p_mv rfl) rfl rfl ?_
  refine TL.p (C := cx) (gc := (!((((decide (data1 < (1 : Int))) || (decide (parity2 < (1 : Int)))) || (decide (data1 > (255 : Int))))))) (p_mv rfl (hg := fun e => rfl)) (gcF1 rfl) rfl ?_
  refine TL.p (C := cx) (gc := (!((((decide (data1 < (1 : Int))) || (decide (parity2 < (1 : Int)))) || (decide (data1 > (255 : Int))))))) (p_mv rfl (hg := fun e => rfl)) (gcF1 rfl) rfl ?_
  refine TL.p (C := cx) (gc := (!((((decide (data1 < (1 : Int))) || (decide (parity2 < (1 : Int)))) || (decide (data1 > (255 : Int))))))) (p_sub rfl rfl (hg := fun e => ⟨rfl, e⟩)) (gcF1 rfl) rfl ?_
  refine TL.p (C := cx) (gc := (!((((decide (data1 < (1 : Int))) || (decide (parity2 < (1 : Int)))) || (decide (data1 > (255 : Int))))))) (p_gtr rfl rfl (hg := fun e => ⟨e, e⟩)) (gcF1 rfl) rfl ?_
  refine TL.p (C := cx) (gc := true) (p_or rfl rfl (fun e => ⟨rfl, fun h => (not_t h)⟩)) rfl rfl ?_
  refine TL.nil ?_
  refine hK5 _ _ ?_
  refine TK.cond (b := ((((decide (data1 < (1 : Int))) || (decide (parity2 < (1 : Int)))) || (decide (data1 > (255 : Int)))) || (decide (parity2 > (wr ((255 : Int) - data1)))))) rfl (fun hc => ?_) (fun hc => ?_)
  · have hX := ite_t hc hX
    refine TK.seq_k fun K6 hK6 => ?_
    refine TK.reg ?_
    refine TL.p (C := cx) (gc := true) (p_mv rfl) rfl rfl ?_
    refine TL.p (C := cx) (gc := true) (p_mv rfl) rfl rfl ?_
    refine TL.nil ?_
    refine hK6 _ _ ?_
    refine TK.wk 4 (L ([] : (List (List UInt8)))) rfl Wk_nil ?_
    refine TK.ret ?_
    try dsimp only [thenQ]
    exact retN (vs := [Enc.v (([] : (List (List UInt8))) : (List (List UInt8))), Enc.v ((1 : Int) : Int)]) ⟨rfl, rfl, trivial⟩ (by obtain rfl := some_in hX; rfl) (allVal.mem ⟨v_val _, v_val _, trivial⟩)
  · have hX := ite_f hc hX
    refine TK.skip ?_
    refine hK4 _ _ ?_
    refine TK.seq_k fun K7 hK7 => ?_
    refine TK.reg ?_
    refine TL.p (C := cx) (gc := true) (p_mv rfl) rfl rfl ?_
    refine TL.nil ?_
    refine hK7 _ _ ?_
    refine TK.ownL (α := (List UInt8)) 6 23 nd rfl (.inl rfl) fun b8 nd => ?_
    refine TK.seq_k fun K9 hK9 => ?_
    refine TK.seq_k fun K10 hK10 => ?_
    refine TK.reg ?_
    refine TL.p (C := cx) (gc := true) (p_mv rfl) rfl rfl ?_
    refine TL.p (C := cx) (gc := true) (p_mv rfl) rfl rfl ?_
    refine TL.nil ?_
    refine hK10 _ _ ?_
    refine TK.block ?_
    obtain ⟨o11, hO11, hA11⟩ := bind_some hX
    have E11 : ∀ (l16 : List (List UInt8)) (env : Env) (h : Hp), (∃ b15, keepE [6] env = [(6, true, OL (α := (List UInt8)) b15 l16)] ∧ Nd [(b15, RL (α := (List UInt8)) 23 l16)] ∧ HSub [(b15, RL (α := (List UInt8)) 23 l16)] h) → X.matrix_Cauchy_e11 l16 = some r → K9 env h := by
      intro l16 env h hE hX
      obtain ⟨b15, henv, nd, hs⟩ := hE
      unfold X.matrix_Cauchy_e11 at hX
      refine hK9 _ _ (TK.keep [6] ?_)
      rw [henv]
      refine TK.subH hs ?_
      refine TK.seq_k fun K17 hK17 => ?_
      refine TK.reg ?_
      refine TL.p (C := cx) (gc := true) (p_mv rfl) rfl rfl ?_
      refine TL.p (C := cx) (gc := true) (p_mv rfl) rfl rfl ?_
      refine TL.p (C := cx) (gc := true) (p_mv rfl) rfl rfl ?_
      refine TL.nil ?_
      refine hK17 _ _ ?_
      refine TK.lay [(4, L l16)] nd (j := 0) rfl ⟨⟨_, rfl, fix_OL nd (j := 0) rfl, rfl⟩, trivial⟩ fun nd => ?_
      refine TK.ret ?_
      try dsimp only [thenQ]
      exact retN (vs := [Enc.v (l16 : (List (List UInt8))), Enc.v ((0 : Int) : Int)]) ⟨rfl, rfl, trivial⟩ (by obtain rfl := some_in hX; rfl) (allVal.mem ⟨v_val _, v_val _, trivial⟩)
    refine TK.iter [0, 1, 6, 26, 27] (fun s env h => match s with | (out13, x14) => ∃ b12, env = [(0, true, Enc.v (data1 : Int)), (1, true, Enc.v (parity2 : Int)), (6, true, OL (α := (List UInt8)) b12 out13), (26, true, Enc.v (parity2 : Int)), (27, true, Enc.v (x14 : Int))] ∧ Nd [(b12, RL (α := (List UInt8)) 23 out13)] ∧ HSub [(b12, RL (α := (List UInt8)) 23 out13)] h) hO11 ⟨b8, rfl, (Nd.pick nd (is := [0]) (by decide)), (HSub.pick nd (is := [0]) (by decide))⟩ ?_
    rintro ⟨out13, x14⟩ env h x11x ⟨b12, rfl, nd, hs⟩ hX hR11
    refine TK.subH hs ?_
    unfold X.matrix_Cauchy_s11 at hX
    try dsimp only at hX
    refine TK.seq_k fun K18 hK18 => ?_
    refine TK.reg ?_
    refine TL.p (C := cx) (gc := true) (p_lss rfl rfl) rfl rfl ?_
    refine TL.nil ?_
    refine hK18 _ _ ?_
    refine TK.seq_k fun K19 hK19 => ?_
    refine TK.cond (b := (decide (x14 < parity2))) rfl (fun hc => ?_) (fun hc => ?_)
    · have hX := ite_t hc hX
      refine TK.skip ?_
      refine hK19 _ _ ?_
      refine TK.seq_k fun K20 hK20 => ?_
      refine TK.block ?_
      refine TK.seq_k fun K21 hK21 => ?_
      refine TK.reg ?_
      refine TL.p (C := cx) (gc := true) (p_mv rfl) rfl rfl ?_
      refine TL.p (C := cx) (gc := true) (p_mv rfl) rfl rfl ?_
      refine TL.nil ?_
      refine hK21 _ _ ?_
      refine TK.seq_k fun K22 hK22 => ?_
      refine TK.reg ?_
      refine TL.p (C := cx) (gc := true) (p_mv rfl) rfl rfl ?_
      refine TL.nil ?_
      refine hK22 _ _ ?_
      refine TK.ownL (α := UInt8) 8 5 nd rfl (.inl rfl) fun b23 nd => ?_
      refine TK.seq_k fun K24 hK24 => ?_
      refine TK.seq_k fun K25 hK25 => ?_
      refine TK.reg ?_
      refine TL.p (C := cx) (gc := true) (p_mv rfl) rfl rfl ?_
      refine TL.p (C := cx) (gc := true) (p_mv rfl) rfl rfl ?_
      refine TL.nil ?_
      refine hK25 _ _ ?_
      refine TK.block ?_
      obtain ⟨o26, hO26, hA26⟩ := bind_some hX
      have E26 : ∀ (l33 : List UInt8) (env : Env) (h : Hp), (∃ b31 b32, keepE [0, 1, 6, 8, 26, 27] env = [(0, true, Enc.v (data1 : Int)), (1, true, Enc.v (parity2 : Int)), (6, true, OL (α := (List UInt8)) b31 out13), (8, true, OL (α := UInt8) b32 l33), (26, true, Enc.v (parity2 : Int)), (27, true, Enc.v (x14 : Int))] ∧ Nd [(b31, RL (α := (List UInt8)) 23 out13), (b32, RL (α := UInt8) 5 l33)] ∧ HSub [(b31, RL (α := (List UInt8)) 23 out13), (b32, RL (α := UInt8) 5 l33)] h) → X.matrix_Cauchy_e26 out13 x14 l33 = some x11x → K24 env h := by
        intro l33 env h hE hX
        obtain ⟨b31, b32, henv, nd, hs⟩ := hE
        unfold X.matrix_Cauchy_e26 at hX
        refine hK24 _ _ (TK.keep [0, 1, 6, 8, 26, 27] ?_)
        rw [henv]
        refine TK.subH hs ?_
        refine TK.reg ?_
        refine TL.p (C := cx) (gc := true) (p_mv rfl) rfl rfl ?_
        refine TL.p (C := cx) (gc := true) (p_mv rfl) rfl rfl ?_
        refine TL.lay [(47, L l33)] nd (j := 1) rfl ⟨⟨_, rfl, fix_OL nd (j := 1) rfl, rfl⟩, trivial⟩ fun nd => ?_
        refine TL.lit (C := cx) ([l33] : List (List UInt8)) kd22 ty23 rfl ⟨⟨rfl, rfl⟩, trivial⟩ rfl rfl rfl ?_
        obtain ⟨u34, hu34, hX⟩ := bind_some hX
        refine TL.appO (C := cx) nd kd22 bo22 ty23 rfl rfl (j := 0) rfl rfl (Src_L _) (by decide) (need_t hu34) rfl fun nd => ?_
        refine TL.p (C := cx) (gc := true) (p_mv rfl) rfl rfl ?_
        refine TL.nil ?_
        refine hK20 _ _ ?_
        refine TK.reg ?_
        refine TL.p (C := cx) (gc := true) (p_add rfl rfl) rfl rfl ?_
        refine TL.p (C := cx) (gc := true) (p_mv rfl) rfl rfl ?_
        refine TL.nil ?_
        exact ⟨_, (some_in hX).symm, b31, rfl, (Nd.pick nd (is := [0]) (by decide)), (HSub.pick nd (is := [0]) (by decide))⟩
      refine TK.iter [0, 1, 6, 7, 8, 26, 27, 30, 31] (fun s env h => match s with | (r29, x30) => ∃ b27 b28, env = [(0, true, Enc.v (data1 : Int)), (1, true, Enc.v (parity2 : Int)), (6, true, OL (α := (List UInt8)) b27 out13), (7, true, Enc.v (x14 : Int)), (8, true, OL (α := UInt8) b28 r29), (26, true, Enc.v (parity2 : Int)), (27, true, Enc.v (x14 : Int)), (30, true, Enc.v (data1 : Int)), (31, true, Enc.v (x30 : Int))] ∧ Nd [(b27, RL (α := (List UInt8)) 23 out13), (b28, RL (α := UInt8) 5 r29)] ∧ HSub [(b27, RL (α := (List UInt8)) 23 out13), (b28, RL (α := UInt8) 5 r29)] h) hO26 ⟨b12, b23, rfl, (Nd.pick nd (is := [1, 0]) (by decide)), (HSub.pick nd (is := [1, 0]) (by decide))⟩ ?_
      rintro ⟨r29, x30⟩ env h x26x ⟨b27, b28, rfl, nd, hs⟩ hX hR26
      refine TK.subH hs ?_
      unfold X.matrix_Cauchy_s26 at hX
      try dsimp only at hX
      refine TK.seq_k fun K35 hK35 => ?_
      refine TK.reg ?_
      refine TL.p (C := cx) (gc := true) (p_lss rfl rfl) rfl rfl ?_
      refine TL.nil ?_
      refine hK35 _ _ ?_
      refine TK.seq_k fun K36 hK36 => ?_
      refine TK.cond (b := (decide (x30 < data1))) rfl (fun hc => ?_) (fun hc => ?_)
      · have hX := ite_t hc hX
        refine TK.skip ?_
        refine hK36 _ _ ?_
        refine TK.seq_k fun K37 hK37 => ?_
        refine TK.block ?_
        refine TK.seq_k fun K38 hK38 => ?_
        refine TK.reg ?_
        refine TL.p (C := cx) (gc := true) (p_mv rfl) rfl rfl ?_
        refine TL.p (C := cx) (gc := true) (p_mv rfl) rfl rfl ?_
        refine TL.nil ?_
        refine hK38 _ _ ?_
        refine TK.reg ?_
        refine TL.p (C := cx) (gc := true) (p_mv rfl) rfl rfl ?_
        refine TL.p (C := cx) (gc := true) (p_mv rfl) rfl rfl ?_
        refine TL.p (C := cx) (gc := true) (p_cvt src3 kd5 rfl (cv_u8 _)) rfl rfl ?_
        refine TL.p (C := cx) (gc := true) (p_mv rfl) rfl rfl ?_
        refine TL.p (C := cx) (gc := true) (p_mv rfl) rfl rfl ?_
        refine TL.p (C := cx) (gc := true) (p_add rfl rfl) rfl rfl ?_
        refine TL.p (C := cx) (gc := true) (p_cvt src3 kd5 rfl (cv_u8 _)) rfl rfl ?_
        obtain ⟨r39, hr39, hX⟩ := bind_some hX
        refine TL.cvX rfl rfl rfl (fun _ => ⟨rfl, ⟨rfl, ⟨rfl, trivial⟩⟩⟩) (fun e => ok_gf_Add (u8 x14) (u8 (wr (parity2 + x30))) _ hr39) ?_
        obtain ⟨r40, hr40, hX⟩ := bind_some hX
        refine TL.cvX rfl rfl rfl (fun _ => ⟨rfl, ⟨rfl, trivial⟩⟩) (fun e => ok_gf_Inv r39 _ hr40) ?_
        refine TL.lit (C := cx) ([r40] : List UInt8) kd23 ty5 rfl ⟨⟨rfl, rfl⟩, trivial⟩ rfl rfl rfl ?_
        obtain ⟨u41, hu41, hX⟩ := bind_some hX
        refine TL.appO (C := cx) nd kd23 bo23 ty5 rfl rfl (j := 1) rfl rfl (Src_L _) (by decide) (need_t hu41) rfl fun nd => ?_
        refine TL.p (C := cx) (gc := true) (p_mv rfl) rfl rfl ?_
        refine TL.nil ?_
        refine hK37 _ _ ?_
        refine TK.reg ?_
        refine TL.p (C := cx) (gc := true) (p_add rfl rfl) rfl rfl ?_
        refine TL.p (C := cx) (gc := true) (p_mv rfl) rfl rfl ?_
        refine TL.nil ?_
        exact ⟨_, (some_in hX).symm, b27, b28, rfl, (Nd.pick nd (is := [0, 1]) (by decide)), (HSub.pick nd (is := [0, 1]) (by decide))⟩
      · have hX := ite_f hc hX
        refine TK.exit ?_
        obtain rfl := hR26 _ (some_in hX).symm
        exact E26 r29 _ _ ⟨b27, b28, rfl, (Nd.pick nd (is := [0, 1]) (by decide)), (HSub.pick nd (is := [0, 1]) (by decide))⟩ hA26
    · have hX := ite_f hc hX
      refine TK.exit ?_
      obtain rfl := hR11 _ (some_in hX).symm
      exact E11 out13 _ _ ⟨b12, rfl, (Nd.pick nd (is := [0]) (by decide)), (HSub.pick nd (is := [0]) (by decide))⟩ hA11

/-- cartridge/matrix.Right$1 -/
theorem ok_matrix_Right_c1 (r1 : (List UInt8)) (c2 : (List (List UInt8))) (r : Bool) (hX : X.matrix_Right_c1 r1 c2 = some r) : Fun Try.prog 73 [Enc.v (r1 : (List UInt8)), .vref (ofL [Enc.v (c2 : (List (List UInt8)))]) 1 0] (· = Enc.v (r : Bool)) := by
  refine Fun.of b73 (Nat.le_of_ble_eq_true rfl) (allVal.mem ⟨(by exact (v_val _)), (by exact (vref_val (l := [Enc.v (c2 : (List (List UInt8)))]) rfl ⟨(v_val _), trivial⟩)), trivial⟩) ?_
  unfold k73
  have nd : Nd [] := Nd_nil
  unfold X.matrix_Right_c1 at hX
  refine TK.seq_k fun K3 hK3 => ?_
  refine TK.reg ?_
  refine TL.p (C := cx) (gc := true) (p_mv rfl) rfl rfl ?_
  refine TL.nil ?_
  refine hK3 _ _ ?_
  refine TK.seq_k fun K4 hK4 => ?_
  refine TK.reg ?_
  refine TL.p (C := cx) (gc := true) (p_mv rfl) rfl rfl ?_
  refine TL.p (C := cx) (gc := true) (p_lenL (xs := r1) kd23 rfl) rfl rfl ?_
  refine TL.p (C := cx) (gc := true) (p_ldR (v := Enc.v (c2 : (List (List UInt8)))) ty22 rfl rfl rfl rfl rfl rfl) rfl rfl ?_
  obtain ⟨e5, he5, hX⟩ := bind_some hX
  refine TL.p (C := cx) (gc := true) (p_iaL (xs := c2) kd22 ty23 rfl rfl rfl (fun _ => he5)) rfl rfl ?_
  refine TL.p (C := cx) (gc := true) (p_ldE (xs := c2) (a := e5) (e5 : (List UInt8)) ty23 rfl rfl (fun _ => he5) rfl rfl rfl) rfl rfl ?_
  refine TL.p (C := cx) (gc := true) (p_lenL (xs := e5) kd23 rfl) rfl rfl ?_
  refine TL.p (C := cx) (gc := true) (p_neq rfl rfl) rfl rfl ?_
  refine TL.p (C := cx) (gc := true) (p_mv rfl) rfl rfl ?_
  refine TL.nil ?_
  refine hK4 _ _ ?_
  refine TK.ret ?_
  try dsimp only [thenQ]
  exact ret1 (v := Enc.v (((r1.length : Int) != (e5.length : Int)) : Bool)) rfl (by obtain rfl := some_in hX; rfl) (v_val _)

/-- cartridge/matrix.Right -/
theorem ok_matrix_Right (m1 : (List (List UInt8))) (r : Bool) (hX : X.matrix_Right m1 = some r) : Fun Try.prog 36 [Enc.v (m1 : (List (List UInt8)))] (· = Enc.v (r : Bool)) := by
  refine Fun.of b36 (Nat.le_of_ble_eq_true rfl) (allVal.mem ⟨(by exact (v_val _)), trivial⟩) ?_
  unfold k36
  have nd : Nd [] := Nd_nil
  unfold X.matrix_Right at hX
  refine TK.seq_k fun K2 hK2 => ?_
  refine TK.reg ?_
  refine TL.boxV (C := cx) (lu := [Enc.v (m1 : (List (List UInt8)))]) nd rfl (Cells_v (m1 : (List (List UInt8)))) rfl ?_
  refine TL.p (C := cx) (gc := true) (p_mv rfl) rfl rfl ?_
  refine TL.nil ?_
  refine hK2 _ _ ?_
  refine TK.seq_k fun K3 hK3 => ?_
  refine TK.seq_k fun K4 hK4 => ?_
  refine TK.reg ?_
  refine TL.p (C := cx) (gc := true) (p_ldR (v := Enc.v (m1 : (List (List UInt8)))) ty22 rfl rfl rfl rfl rfl rfl) rfl rfl ?_
  refine TL.p (C := cx) (gc := true) (p_lenL (xs := m1) kd22 rfl) rfl rfl ?_
  refine TL.p (C := cx) (gc := true) (p_lss rfl rfl) rfl rfl ?_
  refine TL.p (C := cx) (gc := true) (p_mv rfl) rfl rfl ?_
  refine TL.p (C := cx) (gc := (!((decide ((m1.length : Int) < (1 : Int)))))) (p_ldR (v := Enc.v (m1 : (List (List UInt8)))) ty22 rfl rfl rfl rfl rfl rfl (hg := fun e => rfl)) (gcF1 rfl) rfl ?_
  refine TL.p (C := cx) (gc := (!((decide ((m1.length : Int) < (1 : Int)))))) (p_lenL (xs := m1) kd22 rfl (hg := fun e => e)) (gcF1 rfl) rfl ?_
  refine TL.p (C := cx) (gc := (!((decide ((m1.length : Int) < (1 : Int)))))) (p_gtr rfl rfl (hg := fun e => ⟨e, rfl⟩)) (gcF1 rfl) rfl ?_
  refine TL.p (C := cx) (gc := true) (p_or rfl rfl (fun e => ⟨rfl, fun h => (not_t h)⟩)) rfl rfl ?_
  refine TL.p (C := cx) (gc := true) (p_mv rfl) rfl rfl ?_
  refine TL.p (C := cx) (gc := (!(((decide ((m1.length : Int) < (1 : Int))) || (decide ((m1.length : Int) > (255 : Int))))))) (p_ldR (v := Enc.v (m1 : (List (List UInt8)))) ty22 rfl rfl rfl rfl rfl rfl (hg := fun e => rfl)) (gcF1 rfl) rfl ?_
  obtain ⟨e5, he5, hX⟩ := bind_some hX
  refine TL.p (C := cx) (gc := (!(((decide ((m1.length : Int) < (1 : Int))) || (decide ((m1.length : Int) > (255 : Int))))))) (p_iaL (xs := m1) kd22 ty23 rfl rfl rfl (fun e => optG_t he5 e) (hg := fun e => ⟨e, rfl⟩)) (gcF1 rfl) rfl ?_
  refine TL.p (C := cx) (gc := (!(((decide ((m1.length : Int) < (1 : Int))) || (decide ((m1.length : Int) > (255 : Int))))))) (p_ldE (xs := m1) (a := e5) (e5 : (List UInt8)) ty23 rfl rfl (fun e => optG_t he5 e) rfl rfl rfl (hg := fun e => e)) (gcF1 rfl) rfl ?_
  refine TL.p (C := cx) (gc := (!(((decide ((m1.length : Int) < (1 : Int))) || (decide ((m1.length : Int) > (255 : Int))))))) (p_lenL (xs := e5) kd23 rfl (hg := fun e => e)) (gcF1 rfl) rfl ?_
  refine TL.p (C := cx) (gc := (!(((decide ((m1.length : Int) < (1 : Int))) || (decide ((m1.length : Int) > (255 : Int))))))) (p_lss rfl rfl (hg := fun e => ⟨e, rfl⟩)) (gcF1 rfl) rfl ?_
  refine TL.p (C := cx) (gc := true) (p_or rfl rfl (fun e => ⟨rfl, fun h => (not_t h)⟩)) rfl rfl ?_
  refine TL.p (C := cx) (gc := true) (p_mv rfl) rfl rfl ?_
  refine TL.p (C := cx) (gc := (!((((decide ((m1.length : Int) < (1 : Int))) || (decide ((m1.length : Int) > (255 : Int)))) || (decide ((e5.length : Int) < (1 : Int))))))) (p_ldR (v := Enc.v (m1 : (List (List UInt8)))) ty22 rfl rfl rfl rfl rfl rfl (hg := fun e => rfl)) (gcF1 rfl) rfl ?_
  obtain ⟨e6, he6, hX⟩ := bind_some hX
  refine TL.p (C := cx) (gc := (!((((decide ((m1.length : Int) < (1 : Int))) || (decide ((m1.length : Int) > (255 : Int)))) || (decide ((e5.length : Int) < (1 : Int))))))) (p_iaL (xs := m1) kd22 ty23 rfl rfl rfl (fun e => optG_t he6 e) (hg := fun e => ⟨e, rfl⟩)) (gcF1 rfl) rfl ?_
  refine TL.p (C := cx) (gc := (!((((decide ((m1.length : Int) < (1 : Int))) || (decide ((m1.length : Int) > (255 : Int)))) || (decide ((e5.length : Int) < (1 : Int))))))) (p_ldE (xs := m1) (a := e6) (e6 : (List UInt8)) ty23 rfl rfl (fun e => optG_t he6 e) rfl rfl rfl (hg := fun e => e)) (gcF1 rfl) rfl ?_
  refine TL.p (C := cx) (gc := (!((((decide ((m1.length : Int) < (1 : Int))) || (decide ((m1.length : Int) > (255 : Int)))) || (decide ((e5.length : Int) < (1 : Int))))))) (p_lenL (xs := e6) kd23 rfl (hg := fun e => e)) (gcF1 rfl) rfl ?_
  refine TL.p (C := cx) (gc := (!((((decide ((m1.length : Int) < (1 : Int))) || (decide ((m1.length : Int) > (255 : Int)))) || (decide ((e5.length : Int) < (1 : Int))))))) (p_gtr rfl rfl (hg := fun e => ⟨e, rfl⟩)) (gcF1 rfl) rfl ?_
  refine TL.p (C := cx) (gc := true) (p_or rfl rfl (fun e => ⟨rfl, fun h => (not_t h)⟩)) rfl rfl ?_
  refine TL.nil ?_
  refine hK4 _ _ ?_
  refine TK.cond (b := ((((decide ((m1.length : Int) < (1 : Int))) || (decide ((m1.length : Int) > (255 : Int)))) || (decide ((e5.length : Int) < (1 : Int)))) || (decide ((e6.length : Int) > (255 : Int))))) rfl (fun hc => ?_) (fun hc => ?_)
  · have hX := ite_t hc hX
    refine TK.seq_k fun K7 hK7 => ?_
    refine TK.reg ?_
    refine TL.p (C := cx) (gc := true) (p_mv rfl) rfl rfl ?_
    refine TL.nil ?_
    refine hK7 _ _ ?_
    refine TK.ret ?_
    try dsimp only [thenQ]
    exact ret1 (v := Enc.v (false : Bool)) rfl (by obtain rfl := some_in hX; rfl) (v_val _)
  · have hX := ite_f hc hX
    refine TK.skip ?_
    refine hK3 _ _ ?_
    refine TK.seq_k fun K8 hK8 => ?_
    refine TK.reg ?_
    refine TL.p (C := cx) (gc := true) (p_ldR (v := Enc.v (m1 : (List (List UInt8)))) ty22 rfl rfl rfl rfl rfl rfl) rfl rfl ?_
    refine TL.p (C := cx) (gc := true) (p_mf (l := [.vref (ofL [Enc.v (m1 : (List (List UInt8)))]) 1 0]) rfl (fun _ => ⟨rfl, trivial⟩)) rfl rfl ?_
    obtain ⟨r9, hr9, hX⟩ := bind_some hX
    refine TL.cvX rfl rfl rfl (fun _ => ⟨rfl, ⟨rfl, ⟨rfl, trivial⟩⟩⟩) (fun e => ok_slices_ContainsFunc_LLbyte_Lbyte m1 (fun a1 => X.matrix_Right_c1 a1 m1) _ hr9 ⟨73, 1, ofL [.vref (ofL [Enc.v (m1 : (List (List UInt8)))]) 1 0], rfl, (caps_val rfl ⟨(vref_val rfl ⟨v_val _, trivial⟩), trivial⟩), fun a1 r hr => ok_matrix_Right_c1 a1 m1 r hr⟩) ?_
    refine TL.p (C := cx) (gc := true) (p_not rfl) rfl rfl ?_
    refine TL.p (C := cx) (gc := true) (p_mv rfl) rfl rfl ?_
    refine TL.nil ?_
    refine hK8 _ _ ?_
    refine TK.ret ?_
    try dsimp only [thenQ]
    exact ret1 (v := Enc.v ((!r9) : Bool)) rfl (by obtain rfl := some_in hX; rfl) (v_val _)

/-- cartridge/matrix.apply -/
theorem ok_matrix_apply (m1 : (List (List UInt8))) (v2 : (List UInt8)) (r : (List UInt8)) (hX : X.matrix_apply m1 v2 = some r) : Fun Try.prog 66 [Enc.v (m1 : (List (List UInt8))), Enc.v (v2 : (List UInt8))] (· = Enc.v (r : (List UInt8))) := by
  refine Fun.of b66 (Nat.le_of_ble_eq_true rfl) (allVal.mem ⟨(by exact (v_val _)), (by exact (v_val _)), trivial⟩) ?_
  unfold k66
  have nd : Nd [] := Nd_nil
  unfold X.matrix_apply at hX
  refine TK.seq_k fun K3 hK3 => ?_
  refine TK.reg ?_
  refine TL.p (C := cx) (gc := true) (p_mv rfl) rfl rfl ?_
  refine TL.nil ?_
  refine hK3 _ _ ?_
  refine TK.seq_k fun K4 hK4 => ?_
  refine TK.reg ?_
  refine TL.p (C := cx) (gc := true) (p_mv rfl) rfl rfl ?_
  refine TL.p (C := cx) (gc := true) (p_lenL (xs := m1) kd22 rfl) rfl rfl ?_
  obtain ⟨u5, hu5, hX⟩ := bind_some hX
  refine TL.mkO (C := cx) nd (0 : UInt8) kd23 ty5 rfl (fun j hj => by (have : j = 0 := by simpa [Enc.sz] using hj); subst this; rfl) rfl rfl (by decide) (need_t hu5) rfl fun b6 nd => ?_
  refine TL.p (C := cx) (gc := true) (p_mv rfl) rfl rfl ?_
  refine TL.nil ?_
  refine hK4 _ _ ?_
  refine TK.seq_k fun K7 hK7 => ?_
  refine TK.seq_k fun K8 hK8 => ?_
  refine TK.reg ?_
  refine TL.p (C := cx) (gc := true) (p_mv rfl) rfl rfl ?_
  refine TL.p (C := cx) (gc := true) (p_lenL (xs := m1) kd22 rfl) rfl rfl ?_
  refine TL.p (C := cx) (gc := true) (p_mv rfl) rfl rfl ?_
  refine TL.nil ?_
  refine hK8 _ _ ?_
  refine TK.block ?_
  obtain ⟨o9, hO9, hA9⟩ := bind_some hX
  have E9 : ∀ (l14 : List UInt8) (env : Env) (h : Hp), (∃ b13, keepE [5] env = [(5, true, OL (α := UInt8) b13 l14)] ∧ Nd [(b13, RL (α := UInt8) 5 l14)] ∧ HSub [(b13, RL (α := UInt8) 5 l14)] h) → X.matrix_apply_e9 l14 = some r → K7 env h := by
    intro l14 env h hE hX
    obtain ⟨b13, henv, nd, hs⟩ := hE
    unfold X.matrix_apply_e9 at hX
    refine hK7 _ _ (TK.keep [5] ?_)
    rw [henv]
    refine TK.subH hs ?_
    refine TK.seq_k fun K15 hK15 => ?_
    refine TK.reg ?_
    refine TL.p (C := cx) (gc := true) (p_mv rfl) rfl rfl ?_
    refine TL.p (C := cx) (gc := true) (p_mv rfl) rfl rfl ?_
    refine TL.nil ?_
    refine hK15 _ _ ?_
    refine TK.lay [(4, L l14)] nd (j := 0) rfl ⟨⟨_, rfl, fix_OL nd (j := 0) rfl, rfl⟩, trivial⟩ fun nd => ?_
    refine TK.ret ?_
    try dsimp only [thenQ]
    exact ret1 (v := Enc.v (l14 : (List UInt8))) rfl (by obtain rfl := some_in hX; rfl) (v_val _)
  refine TK.iter [1, 5, 13, 14, 15] (fun s env h => match s with | (out11, x12) => ∃ b10, env = [(1, true, Enc.v (v2 : (List UInt8))), (5, true, OL (α := UInt8) b10 out11), (13, true, Enc.v (m1 : (List (List UInt8)))), (14, true, Enc.v ((m1.length : Int) : Int)), (15, true, Enc.v (x12 : Int))] ∧ Nd [(b10, RL (α := UInt8) 5 out11)] ∧ HSub [(b10, RL (α := UInt8) 5 out11)] h) hO9 ⟨b6, rfl, (Nd.pick nd (is := [0]) (by decide)), (HSub.pick nd (is := [0]) (by decide))⟩ ?_
  rintro ⟨out11, x12⟩ env h x9x ⟨b10, rfl, nd, hs⟩ hX hR9
  refine TK.subH hs ?_
  unfold X.matrix_apply_s9 at hX
  try dsimp only at hX
  refine TK.seq_k fun K16 hK16 => ?_
  refine TK.reg ?_
  refine TL.p (C := cx) (gc := true) (p_lss rfl rfl) rfl rfl ?_
  refine TL.nil ?_
  refine hK16 _ _ ?_
  refine TK.seq_k fun K17 hK17 => ?_
  refine TK.cond (b := (decide (x12 < (m1.length : Int)))) rfl (fun hc => ?_) (fun hc => ?_)
  · have hX := ite_t hc hX
    refine TK.skip ?_
    refine hK17 _ _ ?_
    refine TK.seq_k fun K18 hK18 => ?_
    refine TK.block ?_
    refine TK.seq_k fun K19 hK19 => ?_
    refine TK.reg ?_
    refine TL.p (C := cx) (gc := true) (p_mv rfl) rfl rfl ?_
    obtain ⟨e20, he20, hX⟩ := bind_some hX
    refine TL.p (C := cx) (gc := true) (p_iaL (xs := m1) kd22 ty23 rfl rfl rfl (fun _ => he20)) rfl rfl ?_
    refine TL.p (C := cx) (gc := true) (p_ldE (xs := m1) (a := e20) (e20 : (List UInt8)) ty23 rfl rfl (fun _ => he20) rfl rfl rfl) rfl rfl ?_
    refine TL.p (C := cx) (gc := true) (p_mv rfl) rfl rfl ?_
    refine TL.p (C := cx) (gc := true) (p_mv rfl) rfl rfl ?_
    refine TL.nil ?_
    refine hK19 _ _ ?_
    refine TK.seq_k fun K21 hK21 => ?_
    refine TK.reg ?_
    refine TL.p (C := cx) (gc := true) (p_mv rfl) rfl rfl ?_
    refine TL.p (C := cx) (gc := true) (p_lenL (xs := e20) kd23 rfl) rfl rfl ?_
    refine TL.p (C := cx) (gc := true) (p_mv rfl) rfl rfl ?_
    refine TL.nil ?_
    refine hK21 _ _ ?_
    refine TK.block ?_
    obtain ⟨o22, hO22, hA22⟩ := bind_some hX
    have E22 : ∀ (l27 : List UInt8) (env : Env) (h : Hp), (∃ b26, keepE [1, 5, 13, 14, 15] env = [(1, true, Enc.v (v2 : (List UInt8))), (5, true, OL (α := UInt8) b26 l27), (13, true, Enc.v (m1 : (List (List UInt8)))), (14, true, Enc.v ((m1.length : Int) : Int)), (15, true, Enc.v (x12 : Int))] ∧ Nd [(b26, RL (α := UInt8) 5 l27)] ∧ HSub [(b26, RL (α := UInt8) 5 l27)] h) → X.matrix_apply_e22 x12 l27 = some x9x → K18 env h := by
      intro l27 env h hE hX
      obtain ⟨b26, henv, nd, hs⟩ := hE
      unfold X.matrix_apply_e22 at hX
      refine hK18 _ _ (TK.keep [1, 5, 13, 14, 15] ?_)
      rw [henv]
      refine TK.subH hs ?_
      refine TK.reg ?_
      refine TL.p (C := cx) (gc := true) (p_add rfl rfl) rfl rfl ?_
      refine TL.p (C := cx) (gc := true) (p_mv rfl) rfl rfl ?_
      refine TL.nil ?_
      exact ⟨_, (some_in hX).symm, b26, rfl, (Nd.pick nd (is := [0]) (by decide)), (HSub.pick nd (is := [0]) (by decide))⟩
    refine TK.iter [1, 5, 6, 13, 14, 15, 20, 21, 22] (fun s env h => match s with | (out24, x25) => ∃ b23, env = [(1, true, Enc.v (v2 : (List UInt8))), (5, true, OL (α := UInt8) b23 out24), (6, true, Enc.v (x12 : Int)), (13, true, Enc.v (m1 : (List (List UInt8)))), (14, true, Enc.v ((m1.length : Int) : Int)), (15, true, Enc.v (x12 : Int)), (20, true, Enc.v (e20 : (List UInt8))), (21, true, Enc.v ((e20.length : Int) : Int)), (22, true, Enc.v (x25 : Int))] ∧ Nd [(b23, RL (α := UInt8) 5 out24)] ∧ HSub [(b23, RL (α := UInt8) 5 out24)] h) hO22 ⟨b10, rfl, (Nd.pick nd (is := [0]) (by decide)), (HSub.pick nd (is := [0]) (by decide))⟩ ?_
    rintro ⟨out24, x25⟩ env h x22x ⟨b23, rfl, nd, hs⟩ hX hR22
    refine TK.subH hs ?_
    unfold X.matrix_apply_s22 at hX
    try dsimp only at hX
    refine TK.seq_k fun K28 hK28 => ?_
    refine TK.reg ?_
    refine TL.p (C := cx) (gc := true) (p_lss rfl rfl) rfl rfl ?_
    refine TL.nil ?_
    refine hK28 _ _ ?_
    refine TK.seq_k fun K29 hK29 => ?_
    refine TK.cond (b := (decide (x25 < (e20.length : Int)))) rfl (fun hc => ?_) (fun hc => ?_)
    · have hX := ite_t hc hX
      refine TK.skip ?_
      refine hK29 _ _ ?_
      refine TK.seq_k fun K30 hK30 => ?_
      refine TK.block ?_
      refine TK.seq_k fun K31 hK31 => ?_
      refine TK.reg ?_
      refine TL.p (C := cx) (gc := true) (p_mv rfl) rfl rfl ?_
      obtain ⟨e32, he32, hX⟩ := bind_some hX
      refine TL.p (C := cx) (gc := true) (p_iaL (xs := e20) kd23 ty5 rfl rfl rfl (fun _ => he32)) rfl rfl ?_
      refine TL.p (C := cx) (gc := true) (p_ldE (xs := e20) (a := e32) (e32 : UInt8) ty5 rfl rfl (fun _ => he32) rfl rfl rfl) rfl rfl ?_
      refine TL.p (C := cx) (gc := true) (p_mv rfl) rfl rfl ?_
      refine TL.p (C := cx) (gc := true) (p_mv rfl) rfl rfl ?_
      refine TL.nil ?_
      refine hK31 _ _ ?_
      have ndS : Nd [] := Nd.pick nd (is := []) (by decide)
      refine TK.endK fun KD hKD => ?_
      refine TK.drwX (h := [(b23, RL (α := UInt8) 5 out24)]) (hS := []) [(0, 0), (0, 1), (0, 2), (0, 3), (1, 4), (1, 5), (0, 6), (0, 7), (0, 8), (0, 9), (0, 10), (0, 11), (0, 12), (1, 13), (2, 14)] mixed (by kernel_rfl) (HSub_app nd) ?_
      refine DR0 (gc := true) rfl (vok_p (C := cx) (p_mv rfl)) rfl rfl ?_
      refine DR0 (gc := true) rfl (vok_p (C := cx) (p_mv rfl)) rfl rfl ?_
      refine DR0 (gc := true) rfl (vok_p (C := cx) (p_mv rfl)) rfl rfl ?_
      refine DR0 (gc := true) rfl (vok_p (C := cx) (p_mv rfl)) rfl rfl ?_
      obtain ⟨e33, he33, hX⟩ := bind_some hX
      refine DR1 (gc := true) rfl (vok_p (C := cx) (p_iaO (xs := out24) kd23 ty5 rfl rfl rfl nd (j := 0) rfl (fun _ => he33))) rfl rfl ?_
      refine DR1 (gc := true) rfl (vok_p (C := cx) (p_ldO (xs := out24) (a := e33) (e33 : UInt8) ty5 rfl rfl nd (j := 0) rfl (fun _ => he33) rfl rfl rfl)) rfl rfl ?_
      refine DR0 (gc := true) rfl (vok_p (C := cx) (p_mv rfl)) rfl rfl ?_
      refine DR0 (gc := true) rfl (vok_p (C := cx) (p_mv rfl)) rfl rfl ?_
      refine DR0 (gc := true) rfl (vok_p (C := cx) (p_mv rfl)) rfl rfl ?_
      obtain ⟨e34, he34, hX⟩ := bind_some hX
      refine DR0 (gc := true) rfl (vok_p (C := cx) (p_iaL (xs := v2) kd23 ty5 rfl rfl rfl (fun _ => he34))) rfl rfl ?_
      refine DR0 (gc := true) rfl (vok_p (C := cx) (p_ldE (xs := v2) (a := e34) (e34 : UInt8) ty5 rfl rfl (fun _ => he34) rfl rfl rfl)) rfl rfl ?_
      obtain ⟨r35, hr35, hX⟩ := bind_some hX
      refine DR0 (gc := true) rfl (vok_c rfl (fun _ => ⟨rfl, ⟨rfl, ⟨rfl, trivial⟩⟩⟩) (fun e => ok_gf_Mul e32 e34 _ hr35)) rfl rfl ?_
      obtain ⟨r36, hr36, hX⟩ := bind_some hX
      refine DR0 (gc := true) rfl (vok_c rfl (fun _ => ⟨rfl, ⟨rfl, ⟨rfl, trivial⟩⟩⟩) (fun e => ok_gf_Add e33 r35 _ hr36)) rfl rfl ?_
      obtain ⟨e37, he37, hX⟩ := bind_some hX
      refine DR1 (gc := true) rfl (vok_p (C := cx) (p_iaO (xs := out24) kd23 ty5 rfl rfl rfl nd (j := 0) rfl (fun _ => he37))) rfl rfl ?_
      refine DR2n rfl ?_
      refine TL.stW (C := cx) (xs := out24) (i := x12) (lu := Enc.cl (r36 : UInt8)) (a' := r36) nd ty5 rfl (j := 0) rfl (by simp [Enc.sz]) (inb_of he37 (by simp)) rfl (Cells_v (r36 : UInt8)) rfl (WkL_refl _) fun nd => ?_
      refine TL.nil ⟨.nilp, [(b23, RL (α := UInt8) 5 (out24.set x12.toNat r36))], rfl, rfl, HSub_app nd, ?_⟩
      refine DRend ?_
      refine hKD _ _ ?_
      refine TL.cv 5 (OL (α := UInt8) b23 (out24.set x12.toNat r36)) rfl (Wk_eq (OL_len (by simp))) ?_
      refine TL.nil ?_
      refine hK30 _ _ ?_
      refine TK.reg ?_
      refine TL.p (C := cx) (gc := true) (p_add rfl rfl) rfl rfl ?_
      refine TL.p (C := cx) (gc := true) (p_mv rfl) rfl rfl ?_
      refine TL.nil ?_
      exact ⟨_, (some_in hX).symm, b23, rfl, (Nd.pick nd (is := [0]) (by decide)), (HSub.pick nd (is := [0]) (by decide))⟩
    · have hX := ite_f hc hX
      refine TK.exit ?_
      obtain rfl := hR22 _ (some_in hX).symm
      exact E22 out24 _ _ ⟨b23, rfl, (Nd.pick nd (is := [0]) (by decide)), (HSub.pick nd (is := [0]) (by decide))⟩ hA22
  · have hX := ite_f hc hX
    refine TK.exit ?_
    obtain rfl := hR9 _ (some_in hX).symm
    exact E9 out11 _ _ ⟨b10, rfl, (Nd.pick nd (is := [0]) (by decide)), (HSub.pick nd (is := [0]) (by decide))⟩ hA9

/-- cartridge/matrix.Apply -/
theorem ok_matrix_Apply (m1 : (List (List UInt8))) (v2 : (List UInt8)) (r : ((List UInt8) × Int)) (hX : X.matrix_Apply m1 v2 = some r) : Fun Try.prog 19 [Enc.v (m1 : (List (List UInt8))), Enc.v (v2 : (List UInt8))] (· = .tup 2 (ofL [Enc.v r.1, Enc.v r.2])) := by
  refine Fun.of b19 (Nat.le_of_ble_eq_true rfl) (allVal.mem ⟨(by exact (v_val _)), (by exact (v_val _)), trivial⟩) ?_
  unfold k19
  have nd : Nd [] := Nd_nil
  unfold X.matrix_Apply at hX
  refine TK.seq_k fun K3 hK3 => ?_
  refine TK.reg ?_
  refine TL.p (C := cx) (gc := true) (p_mv rfl) rfl rfl ?_
  refine TL.p (C := cx) (gc := true) (p_mv rfl) rfl rfl ?_
  refine TL.nil ?_
  refine hK3 _ _ ?_
  refine TK.seq_k fun K4 hK4 => ?_
  refine TK.seq_k fun K5 hK5 => ?_
  refine TK.reg ?_
  refine TL.p (C := cx) (gc := true) (p_mv rfl) rfl rfl ?_
  obtain ⟨r6, hr6, hX⟩ := bind_some hX
  refine TL.cvX rfl rfl rfl (fun _ => ⟨rfl, ⟨rfl, trivial⟩⟩) (fun e => ok_matrix_Right m1 _ hr6) ?_
  refine TL.p (C := cx) (gc := true) (p_not rfl) rfl rfl ?_
  refine TL.p (C := cx) (gc := true) (p_mv rfl) rfl rfl ?_
  refine TL.p (C := cx) (gc := (!((!r6)))) (p_mv rfl (hg := fun e => rfl)) (gcF1 rfl) rfl ?_
  refine TL.p (C := cx) (gc := (!((!r6)))) (p_lenL (xs := v2) kd23 rfl (hg := fun e => e)) (gcF1 rfl) rfl ?_
  refine TL.p (C := cx) (gc := (!((!r6)))) (p_mv rfl (hg := fun e => rfl)) (gcF1 rfl) rfl ?_
  obtain ⟨e7, he7, hX⟩ := bind_some hX
  refine TL.p (C := cx) (gc := (!((!r6)))) (p_iaL (xs := m1) kd22 ty23 rfl rfl rfl (fun e => optG_t he7 e) (hg := fun e => ⟨e, rfl⟩)) (gcF1 rfl) rfl ?_
  refine TL.p (C := cx) (gc := (!((!r6)))) (p_ldE (xs := m1) (a := e7) (e7 : (List UInt8)) ty23 rfl rfl (fun e => optG_t he7 e) rfl rfl rfl (hg := fun e => e)) (gcF1 rfl) rfl ?_
  refine TL.p (C := cx) (gc := (!((!r6)))) (p_lenL (xs := e7) kd23 rfl (hg := fun e => e)) (gcF1 rfl) rfl ?_
  refine TL.p (C := cx) (gc := (!((!r6)))) (p_neq rfl rfl (hg := fun e => ⟨e, e⟩)) (gcF1 rfl) rfl ?_
  refine TL.p (C := cx) (gc := true) (p_or rfl rfl (fun e => ⟨rfl, fun h => (not_t h)⟩)) rfl rfl ?_
  refine TL.nil ?_
  refine hK5 _ _ ?_
  refine TK.cond (b := ((!r6) || ((v2.length : Int) != (e7.length : Int)))) rfl (fun hc => ?_) (fun hc => ?_)
  · have hX := ite_t hc hX
    refine TK.seq_k fun K8 hK8 => ?_
    refine TK.reg ?_
    refine TL.p (C := cx) (gc := true) (p_mv rfl) rfl rfl ?_
    refine TL.p (C := cx) (gc := true) (p_mv rfl) rfl rfl ?_
    refine TL.nil ?_
    refine hK8 _ _ ?_
    refine TK.wk 4 (L ([] : (List UInt8))) rfl Wk_nil ?_
    refine TK.ret ?_
    try dsimp only [thenQ]
    exact retN (vs := [Enc.v (([] : (List UInt8)) : (List UInt8)), Enc.v ((1 : Int) : Int)]) ⟨rfl, rfl, trivial⟩ (by obtain rfl := some_in hX; rfl) (allVal.mem ⟨v_val _, v_val _, trivial⟩)
  · have hX := ite_f hc hX
    refine TK.skip ?_
    refine hK4 _ _ ?_
    refine TK.seq_k fun K9 hK9 => ?_
    refine TK.reg ?_
    refine TL.p (C := cx) (gc := true) (p_mv rfl) rfl rfl ?_
    refine TL.p (C := cx) (gc := true) (p_mv rfl) rfl rfl ?_
    obtain ⟨r10, hr10, hX⟩ := bind_some hX
    refine TL.cvX rfl rfl rfl (fun _ => ⟨rfl, ⟨rfl, ⟨rfl, trivial⟩⟩⟩) (fun e => ok_matrix_apply m1 v2 _ hr10) ?_
    refine TL.p (C := cx) (gc := true) (p_mv rfl) rfl rfl ?_
    refine TL.p (C := cx) (gc := true) (p_mv rfl) rfl rfl ?_
    refine TL.nil ?_
    refine hK9 _ _ ?_
    refine TK.ret ?_
    try dsimp only [thenQ]
    exact retN (vs := [Enc.v (r10 : (List UInt8)), Enc.v ((0 : Int) : Int)]) ⟨rfl, rfl, trivial⟩ (by obtain rfl := some_in hX; rfl) (allVal.mem ⟨v_val _, v_val _, trivial⟩)

/-- cartridge/erasure.reckon -/
theorem ok_erasure_reckon (m1 : (List (List UInt8))) (l2 : (List (List UInt8))) (r : (List (List UInt8))) (hX : X.erasure_reckon m1 l2 = some r) : Fun Try.prog 94 [Enc.v (m1 : (List (List UInt8))), Enc.v (l2 : (List (List UInt8)))] (· = Enc.v (r : (List (List UInt8)))) := by
  refine Fun.of b94 (Nat.le_of_ble_eq_true rfl) (allVal.mem ⟨(by exact (v_val _)), (by exact (v_val _)), trivial⟩) ?_
  unfold k94
  have nd : Nd [] := Nd_nil
  unfold X.erasure_reckon at hX
  refine TK.seq_k fun K3 hK3 => ?_
  refine TK.reg ?_
  refine TL.p (C := cx) (gc := true) (p_mv rfl) rfl rfl ?_
  refine TL.nil ?_
  refine hK3 _ _ ?_
  refine TK.seq_k fun K4 hK4 => ?_
  refine TK.reg ?_
  refine TL.p (C := cx) (gc := true) (p_mv rfl) rfl rfl ?_
  refine TL.p (C := cx) (gc := true) (p_lenL (xs := m1) kd22 rfl) rfl rfl ?_
  obtain ⟨u5, hu5, hX⟩ := bind_some hX
  refine TL.mkG (C := cx) (α := UInt8) (e' := 5) nd kd22 ty23 rfl rfl rfl rfl (by decide) (need_t hu5) rfl fun b6 T6 cs6 hG6 nd => ?_
  refine TL.p (C := cx) (gc := true) (p_mv rfl) rfl rfl ?_
  refine TL.nil ?_
  refine hK4 _ _ ?_
  refine TK.seq_k fun K7 hK7 => ?_
  refine TK.seq_k fun K8 hK8 => ?_
  refine TK.reg ?_
  refine TL.p (C := cx) (gc := true) (p_mv rfl) rfl rfl ?_
  obtain ⟨e9, he9, hX⟩ := bind_some hX
  refine TL.p (C := cx) (gc := true) (p_iaL (xs := l2) kd22 ty23 rfl rfl rfl (fun _ => he9)) rfl rfl ?_
  refine TL.p (C := cx) (gc := true) (p_ldE (xs := l2) (a := e9) (e9 : (List UInt8)) ty23 rfl rfl (fun _ => he9) rfl rfl rfl) rfl rfl ?_
  refine TL.p (C := cx) (gc := true) (p_lenL (xs := e9) kd23 rfl) rfl rfl ?_
  refine TL.p (C := cx) (gc := true) (p_mv rfl) rfl rfl ?_
  refine TL.nil ?_
  refine hK8 _ _ ?_
  refine TK.block ?_
  obtain ⟨o10, hO10, hA10⟩ := bind_some hX
  have E10 : ∀ (l15 : List (List UInt8)) (env : Env) (h : Hp), (∃ b14 T14 cs14, keepE [5] env = [(5, true, OL (α := (List UInt8)) b14 l15)] ∧ Nd ((b14, RV 23 cs14) :: T14) ∧ HSub ((b14, RV 23 cs14) :: T14) h ∧ Grid (α := UInt8) 5 T14 cs14 l15) → X.erasure_reckon_e10 l15 = some r → K7 env h := by
    intro l15 env h hE hX
    obtain ⟨b14, T14, cs14, henv, nd, hs, hG14⟩ := hE
    unfold X.erasure_reckon_e10 at hX
    refine hK7 _ _ (TK.keep [5] ?_)
    rw [henv]
    refine TK.subH hs ?_
    refine TK.seq_k fun K16 hK16 => ?_
    refine TK.reg ?_
    refine TL.p (C := cx) (gc := true) (p_mv rfl) rfl rfl ?_
    refine TL.p (C := cx) (gc := true) (p_mv rfl) rfl rfl ?_
    refine TL.nil ?_
    refine hK16 _ _ ?_
    refine TK.layG (α := UInt8) [(b14, RV 23 cs14)] T14 nd (j := 0) rfl hG14 fun nd => ?_
    refine TK.lay [(4, L l15)] nd (j := 0) rfl ⟨⟨_, rfl, fix_OL nd (j := 0) rfl, rfl⟩, trivial⟩ fun nd => ?_
    refine TK.ret ?_
    try dsimp only [thenQ]
    exact ret1 (v := Enc.v (l15 : (List (List UInt8)))) rfl (by obtain rfl := some_in hX; rfl) (v_val _)
  refine TK.iter [0, 1, 5, 20, 21] (fun s env h => match s with | (out12, x13) => ∃ b11 T11 cs11, env = [(0, true, Enc.v (m1 : (List (List UInt8)))), (1, true, Enc.v (l2 : (List (List UInt8)))), (5, true, OL (α := (List UInt8)) b11 out12), (20, true, Enc.v ((e9.length : Int) : Int)), (21, true, Enc.v (x13 : Int))] ∧ Nd ((b11, RV 23 cs11) :: T11) ∧ HSub ((b11, RV 23 cs11) :: T11) h ∧ Grid (α := UInt8) 5 T11 cs11 out12) hO10 ⟨b6, T6, cs6, rfl, (Nd.pickT nd 1 (is := [0]) (by decide) (by decide) (len_geF [_] _)), (HSub.pickT nd 1 (is := [0]) (by decide) (by decide) (len_geF [_] _)), hG6⟩ ?_
  rintro ⟨out12, x13⟩ env h x10x ⟨b11, T11, cs11, rfl, nd, hs, hG11⟩ hX hR10
  refine TK.subH hs ?_
  unfold X.erasure_reckon_s10 at hX
  try dsimp only at hX
  refine TK.seq_k fun K17 hK17 => ?_
  refine TK.reg ?_
  refine TL.p (C := cx) (gc := true) (p_lss rfl rfl) rfl rfl ?_
  refine TL.nil ?_
  refine hK17 _ _ ?_
  refine TK.seq_k fun K18 hK18 => ?_
  refine TK.cond (b := (decide (x13 < (e9.length : Int)))) rfl (fun hc => ?_) (fun hc => ?_)
  · have hX := ite_t hc hX
    refine TK.skip ?_
    refine hK18 _ _ ?_
    refine TK.seq_k fun K19 hK19 => ?_
    refine TK.block ?_
    refine TK.seq_k fun K20 hK20 => ?_
    refine TK.reg ?_
    refine TL.p (C := cx) (gc := true) (p_mv rfl) rfl rfl ?_
    refine TL.p (C := cx) (gc := true) (p_mv rfl) rfl rfl ?_
    refine TL.nil ?_
    refine hK20 _ _ ?_
    refine TK.seq_k fun K21 hK21 => ?_
    refine TK.reg ?_
    refine TL.p (C := cx) (gc := true) (p_mv rfl) rfl rfl ?_
    refine TL.nil ?_
    refine hK21 _ _ ?_
    refine TK.ownL (α := UInt8) 7 5 nd rfl (.inl rfl) fun b22 nd => ?_
    refine TK.seq_k fun K23 hK23 => ?_
    refine TK.seq_k fun K24 hK24 => ?_
    refine TK.reg ?_
    refine TL.p (C := cx) (gc := true) (p_mv rfl) rfl rfl ?_
    refine TL.p (C := cx) (gc := true) (p_lenL (xs := l2) kd22 rfl) rfl rfl ?_
    refine TL.p (C := cx) (gc := true) (p_mv rfl) rfl rfl ?_
    refine TL.nil ?_
    refine hK24 _ _ ?_
    refine TK.block ?_
    obtain ⟨o25, hO25, hA25⟩ := bind_some hX
    have E25 : ∀ (l32 : List UInt8) (env : Env) (h : Hp), (∃ b30 T30 cs30 b31, keepE [0, 1, 5, 7, 20, 21] env = [(0, true, Enc.v (m1 : (List (List UInt8)))), (1, true, Enc.v (l2 : (List (List UInt8)))), (5, true, OL (α := (List UInt8)) b30 out12), (7, true, OL (α := UInt8) b31 l32), (20, true, Enc.v ((e9.length : Int) : Int)), (21, true, Enc.v (x13 : Int))] ∧ Nd ((b30, RV 23 cs30) :: (b31, RL (α := UInt8) 5 l32) :: T30) ∧ HSub ((b30, RV 23 cs30) :: (b31, RL (α := UInt8) 5 l32) :: T30) h ∧ Grid (α := UInt8) 5 T30 cs30 out12) → X.erasure_reckon_e25 m1 out12 x13 l32 = some x10x → K23 env h := by
      intro l32 env h hE hX
      obtain ⟨b30, T30, cs30, b31, henv, nd, hs, hG30⟩ := hE
      unfold X.erasure_reckon_e25 at hX
      refine hK23 _ _ (TK.keep [0, 1, 5, 7, 20, 21] ?_)
      rw [henv]
      refine TK.subH hs ?_
      refine TK.seq_k fun K33 hK33 => ?_
      refine TK.reg ?_
      refine TL.p (C := cx) (gc := true) (p_mv rfl) rfl rfl ?_
      refine TL.p (C := cx) (gc := true) (p_mv rfl) rfl rfl ?_
      refine TL.lay [(40, L l32)] nd (j := 1) rfl ⟨⟨_, rfl, fix_OL nd (j := 1) rfl, rfl⟩, trivial⟩ fun nd => ?_
      obtain ⟨r34, hr34, hX⟩ := bind_some hX
      refine TL.cvX rfl rfl rfl (fun _ => ⟨rfl, ⟨rfl, ⟨rfl, trivial⟩⟩⟩) (fun e => ok_matrix_Apply m1 l32 _ hr34) ?_
      refine TL.p (C := cx) (gc := true) (p_mv rfl) rfl rfl ?_
      refine TL.p (C := cx) (gc := true) (p_ex rfl rfl (by decide)) rfl rfl ?_
      refine TL.p (C := cx) (gc := true) (p_ex rfl rfl (by decide)) rfl rfl ?_
      refine TL.p (C := cx) (gc := true) (p_mv rfl) rfl rfl ?_
      refine TL.p (C := cx) (gc := true) (p_mv rfl) rfl rfl ?_
      refine TL.nil ?_
      refine hK33 _ _ ?_
      refine TK.seq_k fun K35 hK35 => ?_
      refine TK.reg ?_
      refine TL.p (C := cx) (gc := true) (p_mv rfl) rfl rfl ?_
      refine TL.p (C := cx) (gc := true) (p_lenL (xs := r34.1) kd23 rfl) rfl rfl ?_
      refine TL.p (C := cx) (gc := true) (p_mv rfl) rfl rfl ?_
      refine TL.nil ?_
      refine hK35 _ _ ?_
      refine TK.block ?_
      obtain ⟨o36, hO36, hA36⟩ := bind_some hX
      have E36 : ∀ (l41 : List (List UInt8)) (env : Env) (h : Hp), (∃ b40 T40 cs40, keepE [0, 1, 5, 20, 21] env = [(0, true, Enc.v (m1 : (List (List UInt8)))), (1, true, Enc.v (l2 : (List (List UInt8)))), (5, true, OL (α := (List UInt8)) b40 l41), (20, true, Enc.v ((e9.length : Int) : Int)), (21, true, Enc.v (x13 : Int))] ∧ Nd ((b40, RV 23 cs40) :: T40) ∧ HSub ((b40, RV 23 cs40) :: T40) h ∧ Grid (α := UInt8) 5 T40 cs40 l41) → X.erasure_reckon_e36 x13 l41 = some x10x → K19 env h := by
        intro l41 env h hE hX
        obtain ⟨b40, T40, cs40, henv, nd, hs, hG40⟩ := hE
        unfold X.erasure_reckon_e36 at hX
        refine hK19 _ _ (TK.keep [0, 1, 5, 20, 21] ?_)
        rw [henv]
        refine TK.subH hs ?_
        refine TK.reg ?_
        refine TL.p (C := cx) (gc := true) (p_add rfl rfl) rfl rfl ?_
        refine TL.p (C := cx) (gc := true) (p_mv rfl) rfl rfl ?_
        refine TL.nil ?_
        exact ⟨_, (some_in hX).symm, b40, T40, cs40, rfl, (Nd.pickT nd 1 (is := [0]) (by decide) (by decide) (len_geF [_] _)), (HSub.pickT nd 1 (is := [0]) (by decide) (by decide) (len_geF [_] _)), hG40⟩
      refine TK.iter [0, 1, 5, 20, 21, 44, 45, 46] (fun s env h => match s with | (out38, x39) => ∃ b37 T37 cs37, env = [(0, true, Enc.v (m1 : (List (List UInt8)))), (1, true, Enc.v (l2 : (List (List UInt8)))), (5, true, OL (α := (List UInt8)) b37 out38), (20, true, Enc.v ((e9.length : Int) : Int)), (21, true, Enc.v (x13 : Int)), (44, true, Enc.v (r34.1 : (List UInt8))), (45, true, Enc.v ((r34.1.length : Int) : Int)), (46, true, Enc.v (x39 : Int))] ∧ Nd ((b37, RV 23 cs37) :: T37) ∧ HSub ((b37, RV 23 cs37) :: T37) h ∧ Grid (α := UInt8) 5 T37 cs37 out38) hO36 ⟨b30, T30, cs30, rfl, (Nd.pickT nd 1 (is := [0]) (by decide) (by decide) (len_geF [_] _)), (HSub.pickT nd 1 (is := [0]) (by decide) (by decide) (len_geF [_] _)), hG30⟩ ?_
      rintro ⟨out38, x39⟩ env h x36x ⟨b37, T37, cs37, rfl, nd, hs, hG37⟩ hX hR36
      refine TK.subH hs ?_
      unfold X.erasure_reckon_s36 at hX
      try dsimp only at hX
      refine TK.seq_k fun K42 hK42 => ?_
      refine TK.reg ?_
      refine TL.p (C := cx) (gc := true) (p_lss rfl rfl) rfl rfl ?_
      refine TL.nil ?_
      refine hK42 _ _ ?_
      refine TK.seq_k fun K43 hK43 => ?_
      refine TK.cond (b := (decide (x39 < (r34.1.length : Int)))) rfl (fun hc => ?_) (fun hc => ?_)
      · have hX := ite_t hc hX
        refine TK.skip ?_
        refine hK43 _ _ ?_
        refine TK.seq_k fun K44 hK44 => ?_
        refine TK.block ?_
        refine TK.seq_k fun K45 hK45 => ?_
        refine TK.reg ?_
        refine TL.p (C := cx) (gc := true) (p_mv rfl) rfl rfl ?_
        obtain ⟨e46, he46, hX⟩ := bind_some hX
        refine TL.p (C := cx) (gc := true) (p_iaL (xs := r34.1) kd23 ty5 rfl rfl rfl (fun _ => he46)) rfl rfl ?_
        refine TL.p (C := cx) (gc := true) (p_ldE (xs := r34.1) (a := e46) (e46 : UInt8) ty5 rfl rfl (fun _ => he46) rfl rfl rfl) rfl rfl ?_
        refine TL.p (C := cx) (gc := true) (p_mv rfl) rfl rfl ?_
        refine TL.p (C := cx) (gc := true) (p_mv rfl) rfl rfl ?_
        refine TL.nil ?_
        refine hK45 _ _ ?_
        refine TK.reg ?_
        refine TL.p (C := cx) (gc := true) (p_mv rfl) rfl rfl ?_
        refine TL.p (C := cx) (gc := true) (p_mv rfl) rfl rfl ?_
        refine TL.p (C := cx) (gc := true) (p_mv rfl) rfl rfl ?_
        refine TL.p (C := cx) (gc := true) (p_mv rfl) rfl rfl ?_
        obtain ⟨e47, he47, hX⟩ := bind_some hX
        refine TL.p (C := cx) (gc := true) (p_iaG hG37 kd22 ty23 rfl rfl rfl nd (j := 0) rfl (fun _ => he47)) rfl rfl ?_
        obtain ⟨nm48, hT48, hc48⟩ := gridAt (i := x39) hG37 he47
        refine TL.p (C := cx) (gc := true) (p_ldG ty23 rfl rfl nd (j := 0) rfl hc48 rfl rfl) rfl rfl ?_
        refine TL.p (C := cx) (gc := true) (p_mv rfl) rfl rfl ?_
        refine TL.lit (C := cx) ([e46] : List UInt8) kd23 ty5 rfl ⟨⟨rfl, rfl⟩, trivial⟩ rfl rfl rfl ?_
        obtain ⟨u49, hu49, hX⟩ := bind_some hX
        refine TL.appG (C := cx) (F := [(b37, RV 23 cs37)]) (T := T37) (k := (x39 : Int).toNat) nd kd23 bo23 ty5 rfl rfl hT48 rfl (Src_L _) (by decide) (need_t hu49) rfl fun nd => ?_
        obtain ⟨e50, he50, hX⟩ := bind_some hX
        refine TL.p (C := cx) (gc := true) (p_iaG hG37 kd22 ty23 rfl rfl rfl nd (j := 0) rfl (fun _ => he50)) rfl rfl ?_
        refine TL.stG (C := cx) (F := [(b37, RV 23 cs37)]) (T := (T37.set (x39 : Int).toNat (nm48, RL (α := UInt8) 5 (e47 ++ ([e46] : List UInt8))))) (i := x39) nd ty23 rfl (j := 0) rfl hc48 rfl (setAt hT48) rfl fun nd => ?_
        refine TL.cv 5 (OL b37 (out38.set x39.toNat (e47 ++ ([e46] : List UInt8)))) rfl (Wk_eq (OL_len (by simp))) ?_
        refine TL.nil ?_
        refine hK44 _ _ ?_
        refine TK.reg ?_
        refine TL.p (C := cx) (gc := true) (p_add rfl rfl) rfl rfl ?_
        refine TL.p (C := cx) (gc := true) (p_mv rfl) rfl rfl ?_
        refine TL.nil ?_
        exact ⟨_, (some_in hX).symm, b37, (T37.set (x39 : Int).toNat (nm48, RL (α := UInt8) 5 (e47 ++ ([e46] : List UInt8)))), (cs37.set (x39 : Int).toNat (OL (α := UInt8) nm48 (e47 ++ ([e46] : List UInt8)))), rfl, (Nd.pickT nd 1 (is := [0]) (by decide) (by decide) (len_geF [_] _)), (HSub.pickT nd 1 (is := [0]) (by decide) (by decide) (len_geF [_] _)), (Grid.set hG37 hT48)⟩
      · have hX := ite_f hc hX
        refine TK.exit ?_
        obtain rfl := hR36 _ (some_in hX).symm
        exact E36 out38 _ _ ⟨b37, T37, cs37, rfl, (Nd.pickT nd 1 (is := [0]) (by decide) (by decide) (len_geF [_] _)), (HSub.pickT nd 1 (is := [0]) (by decide) (by decide) (len_geF [_] _)), hG37⟩ hA36
    refine TK.iter [0, 1, 5, 6, 7, 20, 21, 24, 25, 26] (fun s env h => match s with | (v28, x29) => ∃ b26 T26 cs26 b27, env = [(0, true, Enc.v (m1 : (List (List UInt8)))), (1, true, Enc.v (l2 : (List (List UInt8)))), (5, true, OL (α := (List UInt8)) b26 out12), (6, true, Enc.v (x13 : Int)), (7, true, OL (α := UInt8) b27 v28), (20, true, Enc.v ((e9.length : Int) : Int)), (21, true, Enc.v (x13 : Int)), (24, true, Enc.v (l2 : (List (List UInt8)))), (25, true, Enc.v ((l2.length : Int) : Int)), (26, true, Enc.v (x29 : Int))] ∧ Nd ((b26, RV 23 cs26) :: (b27, RL (α := UInt8) 5 v28) :: T26) ∧ HSub ((b26, RV 23 cs26) :: (b27, RL (α := UInt8) 5 v28) :: T26) h ∧ Grid (α := UInt8) 5 T26 cs26 out12) hO25 ⟨b11, T11, cs11, b22, rfl, (Nd.pickT nd 2 (is := [1, 0]) (by decide) (by decide) (len_geF [_, _] _)), (HSub.pickT nd 2 (is := [1, 0]) (by decide) (by decide) (len_geF [_, _] _)), hG11⟩ ?_
    rintro ⟨v28, x29⟩ env h x25x ⟨b26, T26, cs26, b27, rfl, nd, hs, hG26⟩ hX hR25
    refine TK.subH hs ?_
    unfold X.erasure_reckon_s25 at hX
    try dsimp only at hX
    refine TK.seq_k fun K51 hK51 => ?_
    refine TK.reg ?_
    refine TL.p (C := cx) (gc := true) (p_lss rfl rfl) rfl rfl ?_
    refine TL.nil ?_
    refine hK51 _ _ ?_
    refine TK.seq_k fun K52 hK52 => ?_
    refine TK.cond (b := (decide (x29 < (l2.length : Int)))) rfl (fun hc => ?_) (fun hc => ?_)
    · have hX := ite_t hc hX
      refine TK.skip ?_
      refine hK52 _ _ ?_
      refine TK.seq_k fun K53 hK53 => ?_
      refine TK.block ?_
      refine TK.seq_k fun K54 hK54 => ?_
      refine TK.reg ?_
      obtain ⟨e55, he55, hX⟩ := bind_some hX
      refine TL.p (C := cx) (gc := true) (p_iaL (xs := l2) kd22 ty23 rfl rfl rfl (fun _ => he55)) rfl rfl ?_
      refine TL.p (C := cx) (gc := true) (p_ldE (xs := l2) (a := e55) (e55 : (List UInt8)) ty23 rfl rfl (fun _ => he55) rfl rfl rfl) rfl rfl ?_
      refine TL.p (C := cx) (gc := true) (p_mv rfl) rfl rfl ?_
      refine TL.nil ?_
      refine hK54 _ _ ?_
      refine TK.reg ?_
      refine TL.p (C := cx) (gc := true) (p_mv rfl) rfl rfl ?_
      refine TL.p (C := cx) (gc := true) (p_mv rfl) rfl rfl ?_
      refine TL.p (C := cx) (gc := true) (p_mv rfl) rfl rfl ?_
      obtain ⟨e56, he56, hX⟩ := bind_some hX
      refine TL.p (C := cx) (gc := true) (p_iaL (xs := e55) kd23 ty5 rfl rfl rfl (fun _ => he56)) rfl rfl ?_
      refine TL.p (C := cx) (gc := true) (p_ldE (xs := e55) (a := e56) (e56 : UInt8) ty5 rfl rfl (fun _ => he56) rfl rfl rfl) rfl rfl ?_
      refine TL.lit (C := cx) ([e56] : List UInt8) kd23 ty5 rfl ⟨⟨rfl, rfl⟩, trivial⟩ rfl rfl rfl ?_
      obtain ⟨u57, hu57, hX⟩ := bind_some hX
      refine TL.appO (C := cx) nd kd23 bo23 ty5 rfl rfl (j := 1) rfl rfl (Src_L _) (by decide) (need_t hu57) rfl fun nd => ?_
      refine TL.p (C := cx) (gc := true) (p_mv rfl) rfl rfl ?_
      refine TL.nil ?_
      refine hK53 _ _ ?_
      refine TK.reg ?_
      refine TL.p (C := cx) (gc := true) (p_add rfl rfl) rfl rfl ?_
      refine TL.p (C := cx) (gc := true) (p_mv rfl) rfl rfl ?_
      refine TL.nil ?_
      exact ⟨_, (some_in hX).symm, b26, T26, cs26, b27, rfl, (Nd.pickT nd 2 (is := [0, 1]) (by decide) (by decide) (len_geF [_, _] _)), (HSub.pickT nd 2 (is := [0, 1]) (by decide) (by decide) (len_geF [_, _] _)), hG26⟩
    · have hX := ite_f hc hX
      refine TK.exit ?_
      obtain rfl := hR25 _ (some_in hX).symm
      exact E25 v28 _ _ ⟨b26, T26, cs26, b27, rfl, (Nd.pickT nd 2 (is := [0, 1]) (by decide) (by decide) (len_geF [_, _] _)), (HSub.pickT nd 2 (is := [0, 1]) (by decide) (by decide) (len_geF [_, _] _)), hG26⟩ hA25
  · have hX := ite_f hc hX
    refine TK.exit ?_
    obtain rfl := hR10 _ (some_in hX).symm
    exact E10 out12 _ _ ⟨b11, T11, cs11, rfl, (Nd.pickT nd 1 (is := [0]) (by decide) (by decide) (len_geF [_] _)), (HSub.pickT nd 1 (is := [0]) (by decide) (by decide) (len_geF [_] _)), hG11⟩ hA10

/-- cartridge/erasure.Encode -/
theorem ok_erasure_Encode (data1 : (List (List UInt8))) (parity2 : Int) (r : ((List (List UInt8)) × Int)) (hX : X.erasure_Encode data1 parity2 = some r) : Fun Try.prog 55 [Enc.v (data1 : (List (List UInt8))), Enc.v (parity2 : Int)] (· = .tup 2 (ofL [Enc.v r.1, Enc.v r.2])) := by
  refine Fun.of b55 (Nat.le_of_ble_eq_true rfl) (allVal.mem ⟨(by exact (v_val _)), (by exact (v_val _)), trivial⟩) ?_
  unfold k55
  have nd : Nd [] := Nd_nil
  unfold X.erasure_Encode at hX
  refine TK.seq_k fun K3 hK3 => ?_
  refine TK.reg ?_
  refine TL.p (C := cx) (gc := true) (p_mv rfl) rfl rfl ?_
  refine TL.p (C := cx) (gc := true) (p_mv rfl) rfl rfl ?_
  refine TL.nil ?_
  refine hK3 _ _ ?_
  refine TK.seq_k fun K4 hK4 => ?_
  refine TK.seq_k fun K5 hK5 => ?_
  refine TK.reg ?_
  refine TL.p (C := cx) (gc := true) (p_mv rfl) rfl rfl ?_
  refine TL.p (C := cx) (gc := true) (p_lenL (xs := data1) kd22 rfl) rfl rfl ?_
  refine TL.p (C := cx) (gc := true) (p_lss rfl rfl) rfl rfl ?_
  refine TL.p (C := cx) (gc := true) (p_mv rfl) rfl rfl ?_
  refine TL.p (C := cx) (gc := (!((decide ((data1.length : Int) < (1 : Int)))))) (p_mv rfl (hg := fun e => rfl)) (gcF1 rfl) rfl ?_
  refine TL.p (C := cx) (gc := (!((decide ((data1.length : Int) < (1 : Int)))))) (p_lenL (xs := data1) kd22 rfl (hg := fun e => e)) (gcF1 rfl) rfl ?_
  refine TL.p (C := cx) (gc := (!((decide ((data1.length : Int) < (1 : Int)))))) (p_gtr rfl rfl (hg := fun e => ⟨e, rfl⟩)) (gcF1 rfl) rfl ?_
  refine TL.p (C := cx) (gc := true) (p_or rfl rfl (fun e => ⟨rfl, fun h => (not_t h)⟩)) rfl rfl ?_
  refine TL.p (C := cx) (gc := true) (p_mv rfl) rfl rfl ?_
  refine TL.p (C := cx) (gc := (!(((decide ((data1.length : Int) < (1 : Int))) || (decide ((data1.length : Int) > (255 : Int))))))) (p_mv rfl (hg := fun e => rfl)) (gcF1 rfl) rfl ?_
  refine TL.p (C := cx) (gc := (!(((decide ((data1.length : Int) < (1 : Int))) || (decide ((data1.length : Int) > (255 : Int))))))) (p_lss rfl rfl (hg := fun e => ⟨e, rfl⟩)) (gcF1 rfl) rfl ?_
  refine TL.p (C := cx) (gc := true) (p_or rfl rfl (fun e => ⟨rfl, fun h => (not_t h)⟩)) rfl rfl ?_
  refine TL.p (C := cx) (gc := true) (p_mv rfl) rfl rfl ?_
  refine TL.p (C := cx) (gc := (!((((decide ((data1.length : Int) < (1 : Int))) || (decide ((data1.length : Int) > (255 : Int)))) || (decide (parity2 < (0 : Int))))))) (p_mv rfl (hg := fun e => rfl)) (gcF1 rfl) rfl ?_
  refine TL.p (C := cx) (gc := (!((((decide ((data1.length : Int) < (1 : Int))) || (decide ((data1.length : Int) > (255 : Int)))) || (decide (parity2 < (0 : Int))))))) (p_mv rfl (hg := fun e => rfl)) (gcF1 rfl) rfl ?_
  refine TL.p (C := cx) (gc := (!((((decide ((data1.length : Int) < (1 : Int))) || (decide ((data1.length : Int) > (255 : Int)))) || (decide (parity2 < (0 : Int))))))) (p_lenL (xs := data1) kd22 rfl (hg := fun e => e)) (gcF1 rfl) rfl ?_
  refine TL.p (C := cx) (gc := (!((((decide ((data1.length : Int) < (1 : Int))) || (decide ((data1.length : Int) > (255 : Int)))) || (decide (parity2 < (0 : Int))))))) (p_sub rfl rfl (hg := fun e => ⟨rfl, e⟩)) (gcF1 rfl) rfl ?_
  refine TL.p (C := cx) (gc := (!((((decide ((data1.length : Int) < (1 : Int))) || (decide ((data1.length : Int) > (255 : Int)))) || (decide (parity2 < (0 : Int))))))) (p_gtr rfl rfl (hg := fun e => ⟨e, e⟩)) (gcF1 rfl) rfl ?_
  refine TL.p (C := cx) (gc := true) (p_or rfl rfl (fun e => ⟨rfl, fun h => (not_t h)⟩)) rfl rfl ?_
  refine TL.p (C := cx) (gc := true) (p_mv rfl) rfl rfl ?_
  refine TL.p (C := cx) (gc := (!(((((decide ((data1.length : Int) < (1 : Int))) || (decide ((data1.length : Int) > (255 : Int)))) || (decide (parity2 < (0 : Int)))) || (decide (parity2 > (wr ((255 : Int) - (data1.length : Int))))))))) (p_mv rfl (hg := fun e => rfl)) (gcF1 rfl) rfl ?_
  obtain ⟨r6, hr6, hX⟩ := bind_some hX
  refine TL.cvX (gcF1 rfl) rfl rfl (fun e => ⟨rfl, ⟨e, trivial⟩⟩) (fun e => ok_erasure_alike data1 _ (optG_t hr6 e)) ?_
  refine TL.p (C := cx) (gc := (!(((((decide ((data1.length : Int) < (1 : Int))) || (decide ((data1.length : Int) > (255 : Int)))) || (decide (parity2 < (0 : Int)))) || (decide (parity2 > (wr ((255 : Int) - (data1.length : Int))))))))) (p_not rfl (hg := fun e => e)) (gcF1 rfl) rfl ?_
  refine TL.p (C := cx) (gc := true) (p_or rfl rfl (fun e => ⟨rfl, fun h => (not_t h)⟩)) rfl rfl ?_
  refine TL.nil ?_
  refine hK5 _ _ ?_
  refine TK.cond (b := (((((decide ((data1.length : Int) < (1 : Int))) || (decide ((data1.length : Int) > (255 : Int)))) || (decide (parity2 < (0 : Int)))) || (decide (parity2 > (wr ((255 : Int) - (data1.length : Int)))))) || (!r6))) rfl (fun hc => ?_) (fun hc => ?_)
  · have hX := ite_t hc hX
    refine TK.seq_k fun K7 hK7 => ?_
    refine TK.reg ?_
    refine TL.p (C := cx) (gc := true) (p_mv rfl) rfl rfl ?_
    refine TL.p (C := cx) (gc := true) (p_mv rfl) rfl rfl ?_
    refine TL.nil ?_
    refine hK7 _ _ ?_
    refine TK.wk 4 (L ([] : (List (List UInt8)))) rfl Wk_nil ?_
    refine TK.ret ?_
    try dsimp only [thenQ]
    exact retN (vs := [Enc.v (([] : (List (List UInt8))) : (List (List UInt8))), Enc.v ((1 : Int) : Int)]) ⟨rfl, rfl, trivial⟩ (by obtain rfl := some_in hX; rfl) (allVal.mem ⟨v_val _, v_val _, trivial⟩)
  · have hX := ite_f hc hX
    refine TK.skip ?_
    refine hK4 _ _ ?_
    refine TK.seq_k fun K8 hK8 => ?_
    refine TK.seq_k fun K9 hK9 => ?_
    refine TK.reg ?_
    refine TL.p (C := cx) (gc := true) (p_mv rfl) rfl rfl ?_
    refine TL.p (C := cx) (gc := true) (p_eql rfl rfl) rfl rfl ?_
    refine TL.nil ?_
    refine hK9 _ _ ?_
    refine TK.cond (b := (parity2 == (0 : Int))) rfl (fun hc => ?_) (fun hc => ?_)
    · have hX := ite_t hc hX
      refine TK.seq_k fun K10 hK10 => ?_
      refine TK.reg ?_
      refine TL.p (C := cx) (gc := true) (p_mv rfl) rfl rfl ?_
      refine TL.p (C := cx) (gc := true) (p_mv rfl) rfl rfl ?_
      refine TL.nil ?_
      refine hK10 _ _ ?_
      refine TK.wk 4 (L ([] : (List (List UInt8)))) rfl Wk_nil ?_
      refine TK.ret ?_
      try dsimp only [thenQ]
      exact retN (vs := [Enc.v (([] : (List (List UInt8))) : (List (List UInt8))), Enc.v ((0 : Int) : Int)]) ⟨rfl, rfl, trivial⟩ (by obtain rfl := some_in hX; rfl) (allVal.mem ⟨v_val _, v_val _, trivial⟩)
    · have hX := ite_f hc hX
      refine TK.skip ?_
      refine hK8 _ _ ?_
      refine TK.seq_k fun K11 hK11 => ?_
      refine TK.reg ?_
      refine TL.p (C := cx) (gc := true) (p_mv rfl) rfl rfl ?_
      refine TL.p (C := cx) (gc := true) (p_lenL (xs := data1) kd22 rfl) rfl rfl ?_
      refine TL.p (C := cx) (gc := true) (p_mv rfl) rfl rfl ?_
      obtain ⟨r12, hr12, hX⟩ := bind_some hX
      refine TL.cvX rfl rfl rfl (fun _ => ⟨rfl, ⟨rfl, ⟨rfl, trivial⟩⟩⟩) (fun e => ok_matrix_Cauchy (data1.length : Int) parity2 _ hr12) ?_
      refine TL.p (C := cx) (gc := true) (p_mv rfl) rfl rfl ?_
      refine TL.p (C := cx) (gc := true) (p_ex rfl rfl (by decide)) rfl rfl ?_
      refine TL.p (C := cx) (gc := true) (p_ex rfl rfl (by decide)) rfl rfl ?_
      refine TL.p (C := cx) (gc := true) (p_mv rfl) rfl rfl ?_
      refine TL.p (C := cx) (gc := true) (p_mv rfl) rfl rfl ?_
      refine TL.nil ?_
      refine hK11 _ _ ?_
      refine TK.seq_k fun K13 hK13 => ?_
      refine TK.seq_k fun K14 hK14 => ?_
      refine TK.reg ?_
      refine TL.p (C := cx) (gc := true) (p_mv rfl) rfl rfl ?_
      refine TL.p (C := cx) (gc := true) (p_neq rfl rfl) rfl rfl ?_
      refine TL.nil ?_
      refine hK14 _ _ ?_
      refine TK.cond (b := (r12.2 != (0 : Int))) rfl (fun hc => ?_) (fun hc => ?_)
      · have hX := ite_t hc hX
        refine TK.seq_k fun K15 hK15 => ?_
        refine TK.reg ?_
        refine TL.p (C := cx) (gc := true) (p_mv rfl) rfl rfl ?_
        refine TL.p (C := cx) (gc := true) (p_mv rfl) rfl rfl ?_
        refine TL.p (C := cx) (gc := true) (p_mv rfl) rfl rfl ?_
        refine TL.nil ?_
        refine hK15 _ _ ?_
        refine TK.wk 4 (L ([] : (List (List UInt8)))) rfl Wk_nil ?_
        refine TK.ret ?_
        try dsimp only [thenQ]
        exact retN (vs := [Enc.v (([] : (List (List UInt8))) : (List (List UInt8))), Enc.v (r12.2 : Int)]) ⟨rfl, rfl, trivial⟩ (by obtain rfl := some_in hX; rfl) (allVal.mem ⟨v_val _, v_val _, trivial⟩)
      · have hX := ite_f hc hX
        refine TK.skip ?_
        refine hK13 _ _ ?_
        refine TK.seq_k fun K16 hK16 => ?_
        refine TK.reg ?_
        refine TL.p (C := cx) (gc := true) (p_mv rfl) rfl rfl ?_
        refine TL.p (C := cx) (gc := true) (p_mv rfl) rfl rfl ?_
        obtain ⟨r17, hr17, hX⟩ := bind_some hX
        refine TL.cvX rfl rfl rfl (fun _ => ⟨rfl, ⟨rfl, ⟨rfl, trivial⟩⟩⟩) (fun e => ok_erasure_reckon r12.1 data1 _ hr17) ?_
        refine TL.p (C := cx) (gc := true) (p_mv rfl) rfl rfl ?_
        refine TL.p (C := cx) (gc := true) (p_mv rfl) rfl rfl ?_
        refine TL.nil ?_
        refine hK16 _ _ ?_
        refine TK.ret ?_
        try dsimp only [thenQ]
        exact retN (vs := [Enc.v (r17 : (List (List UInt8))), Enc.v ((0 : Int) : Int)]) ⟨rfl, rfl, trivial⟩ (by obtain rfl := some_in hX; rfl) (allVal.mem ⟨v_val _, v_val _, trivial⟩)

/-- cartridge/stripe.Len -/
theorem ok_stripe_Len (l1 : (List Tape_api)) (r : Int) (hX : X.stripe_Len l1 = some r) : Fun Try.prog 26 [Enc.v (l1 : (List Tape_api))] (· = Enc.v (r : Int)) := by
  refine Fun.of b26 (Nat.le_of_ble_eq_true rfl) (allVal.mem ⟨(by exact (v_val _)), trivial⟩) ?_
  unfold k26
  have nd : Nd [] := Nd_nil
  unfold X.stripe_Len at hX
  refine TK.seq_k fun K2 hK2 => ?_
  refine TK.reg ?_
  refine TL.p (C := cx) (gc := true) (p_mv rfl) rfl rfl ?_
  refine TL.nil ?_
  refine hK2 _ _ ?_
  refine TK.seq_k fun K3 hK3 => ?_
  refine TK.reg ?_
  refine TL.p (C := cx) (gc := true) (p_mv rfl) rfl rfl ?_
  refine TL.nil ?_
  refine hK3 _ _ ?_
  refine TK.seq_k fun K4 hK4 => ?_
  refine TK.seq_k fun K5 hK5 => ?_
  refine TK.reg ?_
  refine TL.p (C := cx) (gc := true) (p_mv rfl) rfl rfl ?_
  refine TL.p (C := cx) (gc := true) (p_lenL (xs := l1) kd35 rfl) rfl rfl ?_
  refine TL.p (C := cx) (gc := true) (p_mv rfl) rfl rfl ?_
  refine TL.nil ?_
  refine hK5 _ _ ?_
  refine TK.block ?_
  obtain ⟨o6, hO6, hA6⟩ := bind_some hX
  have E6 : ∀ (n9 : Int) (env : Env) (h : Hp), (∃ _u : Unit, keepE [3] env = [(3, true, Enc.v (n9 : Int))] ∧ Nd [] ∧ HSub [] h) → X.stripe_Len_e6 n9 = some r → K4 env h := by
    intro n9 env h hE hX
    obtain ⟨_u, henv, nd, hs⟩ := hE
    unfold X.stripe_Len_e6 at hX
    refine hK4 _ _ (TK.keep [3] ?_)
    rw [henv]
    refine TK.subH hs ?_
    refine TK.seq_k fun K10 hK10 => ?_
    refine TK.reg ?_
    refine TL.p (C := cx) (gc := true) (p_mv rfl) rfl rfl ?_
    refine TL.p (C := cx) (gc := true) (p_mv rfl) rfl rfl ?_
    refine TL.nil ?_
    refine hK10 _ _ ?_
    refine TK.ret ?_
    try dsimp only [thenQ]
    exact ret1 (v := Enc.v (n9 : Int)) rfl (by obtain rfl := some_in hX; rfl) (v_val _)
  refine TK.iter [3, 6, 7, 8] (fun s env h => match s with | (n7, x8) => ∃ _u : Unit, env = [(3, true, Enc.v (n7 : Int)), (6, true, Enc.v (l1 : (List Tape_api))), (7, true, Enc.v ((l1.length : Int) : Int)), (8, true, Enc.v (x8 : Int))] ∧ Nd [] ∧ HSub [] h) hO6 ⟨(), rfl, Nd_nil, HSub.refl _⟩ ?_
  rintro ⟨n7, x8⟩ env h x6x ⟨_u, rfl, nd, hs⟩ hX hR6
  refine TK.subH hs ?_
  unfold X.stripe_Len_s6 at hX
  try dsimp only at hX
  refine TK.seq_k fun K11 hK11 => ?_
  refine TK.reg ?_
  refine TL.p (C := cx) (gc := true) (p_lss rfl rfl) rfl rfl ?_
  refine TL.nil ?_
  refine hK11 _ _ ?_
  refine TK.seq_k fun K12 hK12 => ?_
  refine TK.cond (b := (decide (x8 < (l1.length : Int)))) rfl (fun hc => ?_) (fun hc => ?_)
  · have hX := ite_t hc hX
    refine TK.skip ?_
    refine hK12 _ _ ?_
    refine TK.seq_k fun K13 hK13 => ?_
    refine TK.block ?_
    refine TK.seq_k fun K14 hK14 => ?_
    refine TK.reg ?_
    obtain ⟨e15, he15, hX⟩ := bind_some hX
    refine TL.p (C := cx) (gc := true) (p_iaL (xs := l1) kd35 ty48 rfl rfl rfl (fun _ => he15)) rfl rfl ?_
    refine TL.p (C := cx) (gc := true) (p_ldE (xs := l1) (a := e15) (e15 : Tape_api) ty48 rfl rfl (fun _ => he15) rfl rfl rfl) rfl rfl ?_
    refine TL.alO (C := cx) (l := [Enc.v ((0 : Int) : Int), Enc.v ((0 : Int) : Int), .nils, Enc.v (false : Bool)]) nd ty48 ti48_z rfl rfl fun b16 nd => ?_
    refine TL.stV (C := cx) (lu := Enc.cl (e15 : Tape_api)) nd ty48 rfl (j := 0) rfl rfl rfl (Cells_v (e15 : Tape_api)) rfl rfl [Enc.v (e15.Label : Int), Enc.v (e15.Cap : Int), Enc.v (e15.Blocks : (List (List UInt8))), Enc.v (e15.Lost : Bool)] rfl fun nd => ?_
    refine TL.nil ?_
    refine hK14 _ _ ?_
    refine TK.seq_k fun K17 hK17 => ?_
    refine TK.reg ?_
    refine TL.p (C := cx) (gc := true) (p_faV fs48_3 (by decide) rfl nd (j := 0) rfl rfl) rfl rfl ?_
    refine TL.p (C := cx) (gc := true) (p_ldV (v := Enc.v (e15.Lost : Bool)) ty4 rfl rfl nd (j := 0) rfl rfl rfl rfl rfl) rfl rfl ?_
    refine TL.p (C := cx) (gc := true) (p_not rfl) rfl rfl ?_
    refine TL.nil ?_
    refine hK17 _ _ ?_
    refine TK.cond (b := (!e15.Lost)) rfl (fun hc => ?_) (fun hc => ?_)
    · have hX := ite_t hc hX
      refine TK.reg ?_
      refine TL.p (C := cx) (gc := true) (p_mv rfl) rfl rfl ?_
      refine TL.p (C := cx) (gc := true) (p_faV fs48_2 (by decide) rfl nd (j := 0) rfl rfl) rfl rfl ?_
      refine TL.p (C := cx) (gc := true) (p_ldV (v := Enc.v (e15.Blocks : (List (List UInt8)))) ty22 rfl rfl nd (j := 0) rfl rfl rfl rfl rfl) rfl rfl ?_
      refine TL.p (C := cx) (gc := true) (p_lenL (xs := e15.Blocks) kd22 rfl) rfl rfl ?_
      refine TL.p (C := cx) (gc := true) (p_max rfl rfl) rfl rfl ?_
      refine TL.p (C := cx) (gc := true) (p_mv rfl) rfl rfl ?_
      refine TL.nil ?_
      refine hK13 _ _ ?_
      refine TK.reg ?_
      refine TL.p (C := cx) (gc := true) (p_add rfl rfl) rfl rfl ?_
      refine TL.p (C := cx) (gc := true) (p_mv rfl) rfl rfl ?_
      refine TL.nil ?_
      exact ⟨_, (some_in hX).symm, (), rfl, (Nd.pick nd (is := []) (by decide)), (HSub.pick nd (is := []) (by decide))⟩
    · have hX := ite_f hc hX
      refine TK.skip ?_
      refine hK13 _ _ ?_
      refine TK.reg ?_
      refine TL.p (C := cx) (gc := true) (p_add rfl rfl) rfl rfl ?_
      refine TL.p (C := cx) (gc := true) (p_mv rfl) rfl rfl ?_
      refine TL.nil ?_
      exact ⟨_, (some_in hX).symm, (), rfl, (Nd.pick nd (is := []) (by decide)), (HSub.pick nd (is := []) (by decide))⟩
  · have hX := ite_f hc hX
    refine TK.exit ?_
    obtain rfl := hR6 _ (some_in hX).symm
    exact E6 n7 _ _ ⟨(), rfl, Nd_nil, HSub.refl _⟩ hA6

/-- cartridge/stripe.Parity$1 -/
theorem ok_stripe_Parity_c1 (b1 : (List UInt8)) (r : Bool) (hX : X.stripe_Parity_c1 b1 = some r) : Fun Try.prog 69 [Enc.v (b1 : (List UInt8))] (· = Enc.v (r : Bool)) := by
  refine Fun.of b69 (Nat.le_of_ble_eq_true rfl) (allVal.mem ⟨(by exact (v_val _)), trivial⟩) ?_
  unfold k69
  have nd : Nd [] := Nd_nil
  unfold X.stripe_Parity_c1 at hX
  refine TK.seq_k fun K2 hK2 => ?_
  refine TK.reg ?_
  refine TL.p (C := cx) (gc := true) (p_mv rfl) rfl rfl ?_
  refine TL.nil ?_
  refine hK2 _ _ ?_
  refine TK.seq_k fun K3 hK3 => ?_
  refine TK.reg ?_
  refine TL.p (C := cx) (gc := true) (p_mv rfl) rfl rfl ?_
  refine TL.p (C := cx) (gc := true) (p_lenL (xs := b1) kd23 rfl) rfl rfl ?_
  refine TL.p (C := cx) (gc := true) (p_eql rfl rfl) rfl rfl ?_
  refine TL.p (C := cx) (gc := true) (p_mv rfl) rfl rfl ?_
  refine TL.nil ?_
  refine hK3 _ _ ?_
  refine TK.ret ?_
  try dsimp only [thenQ]
  exact ret1 (v := Enc.v (((b1.length : Int) == (0 : Int)) : Bool)) rfl (by obtain rfl := some_in hX; rfl) (v_val _)

/-- cartridge/stripe.Parity -/
theorem ok_stripe_Parity (l1 : (List Tape_api)) (parity2 : Int) (r : ((List (List (List UInt8))) × Int)) (hX : X.stripe_Parity l1 parity2 = some r) : Fun Try.prog 23 [Enc.v (l1 : (List Tape_api)), Enc.v (parity2 : Int)] (· = .tup 2 (ofL [Enc.v r.1, Enc.v r.2])) := by
  refine Fun.of b23 (Nat.le_of_ble_eq_true rfl) (allVal.mem ⟨(by exact (v_val _)), (by exact (v_val _)), trivial⟩) ?_
  unfold k23
  have nd : Nd [] := Nd_nil
  unfold X.stripe_Parity at hX
  refine TK.seq_k fun K3 hK3 => ?_
  refine TK.reg ?_
  refine TL.p (C := cx) (gc := true) (p_mv rfl) rfl rfl ?_
  refine TL.p (C := cx) (gc := true) (p_mv rfl) rfl rfl ?_
  refine TL.nil ?_
  refine hK3 _ _ ?_
  refine TK.seq_k fun K4 hK4 => ?_
  refine TK.seq_k fun K5 hK5 => ?_
  refine TK.reg ?_
  refine TL.p (C := cx) (gc := true) (p_mv rfl) rfl rfl ?_
  obtain ⟨r6, hr6, hX⟩ := bind_some hX
  refine TL.cvX rfl rfl rfl (fun _ => ⟨rfl, ⟨rfl, ⟨rfl, trivial⟩⟩⟩) (fun e => ok_stripe_Row l1 ((-1) : Int) _ hr6) ?_
  refine TL.p (C := cx) (gc := true) (p_mv rfl) rfl rfl ?_
  obtain ⟨r7, hr7, hX⟩ := bind_some hX
  refine TL.cvX rfl rfl rfl (fun _ => ⟨rfl, ⟨rfl, ⟨rfl, trivial⟩⟩⟩) (fun e => ok_erasure_Encode r6 parity2 _ hr7) ?_
  refine TL.p (C := cx) (gc := true) (p_mv rfl) rfl rfl ?_
  refine TL.p (C := cx) (gc := true) (p_ex rfl rfl (by decide)) rfl rfl ?_
  refine TL.p (C := cx) (gc := true) (p_ex rfl rfl (by decide)) rfl rfl ?_
  refine TL.p (C := cx) (gc := true) (p_mv rfl) rfl rfl ?_
  refine TL.p (C := cx) (gc := true) (p_mv rfl) rfl rfl ?_
  refine TL.nil ?_
  refine hK5 _ _ ?_
  refine TK.seq_k fun K8 hK8 => ?_
  refine TK.reg ?_
  refine TL.p (C := cx) (gc := true) (p_mv rfl) rfl rfl ?_
  refine TL.p (C := cx) (gc := true) (p_neq rfl rfl) rfl rfl ?_
  refine TL.nil ?_
  refine hK8 _ _ ?_
  refine TK.cond (b := (r7.2 != (0 : Int))) rfl (fun hc => ?_) (fun hc => ?_)
  · have hX := ite_t hc hX
    refine TK.seq_k fun K9 hK9 => ?_
    refine TK.reg ?_
    refine TL.p (C := cx) (gc := true) (p_mv rfl) rfl rfl ?_
    refine TL.p (C := cx) (gc := true) (p_mv rfl) rfl rfl ?_
    refine TL.p (C := cx) (gc := true) (p_mv rfl) rfl rfl ?_
    refine TL.nil ?_
    refine hK9 _ _ ?_
    refine TK.wk 4 (L ([] : (List (List (List UInt8))))) rfl Wk_nil ?_
    refine TK.ret ?_
    try dsimp only [thenQ]
    exact retN (vs := [Enc.v (([] : (List (List (List UInt8)))) : (List (List (List UInt8)))), Enc.v (r7.2 : Int)]) ⟨rfl, rfl, trivial⟩ (by obtain rfl := some_in hX; rfl) (allVal.mem ⟨v_val _, v_val _, trivial⟩)
  · have hX := ite_f hc hX
    refine TK.skip ?_
    refine hK4 _ _ ?_
    refine TK.seq_k fun K10 hK10 => ?_
    refine TK.reg ?_
    refine TL.p (C := cx) (gc := true) (p_mv rfl) rfl rfl ?_
    obtain ⟨u11, hu11, hX⟩ := bind_some hX
    refine TL.mkG (C := cx) (α := (List UInt8)) (e' := 23) nd kd37 ty22 rfl rfl rfl rfl (by decide) (need_t hu11) rfl fun b12 T12 cs12 hG12 nd => ?_
    refine TL.p (C := cx) (gc := true) (p_mv rfl) rfl rfl ?_
    refine TL.nil ?_
    refine hK10 _ _ ?_
    refine TK.seq_k fun K13 hK13 => ?_
    refine TK.seq_k fun K14 hK14 => ?_
    refine TK.reg ?_
    refine TL.p (C := cx) (gc := true) (p_mv rfl) rfl rfl ?_
    obtain ⟨r15, hr15, hX⟩ := bind_some hX
    refine TL.cvX rfl rfl rfl (fun _ => ⟨rfl, ⟨rfl, trivial⟩⟩) (fun e => ok_stripe_Len l1 _ hr15) ?_
    refine TL.p (C := cx) (gc := true) (p_mv rfl) rfl rfl ?_
    refine TL.nil ?_
    refine hK14 _ _ ?_
    refine TK.block ?_
    obtain ⟨o16, hO16, hA16⟩ := bind_some hX
    have E16 : ∀ (l21 : List (List (List UInt8))) (env : Env) (h : Hp), (∃ b20 T20 cs20, keepE [8] env = [(8, true, OL (α := (List (List UInt8))) b20 l21)] ∧ Nd ((b20, RV 22 cs20) :: T20) ∧ HSub ((b20, RV 22 cs20) :: T20) h ∧ Grid (α := (List UInt8)) 23 T20 cs20 l21) → X.stripe_Parity_e16 l21 = some r → K13 env h := by
      intro l21 env h hE hX
      obtain ⟨b20, T20, cs20, henv, nd, hs, hG20⟩ := hE
      unfold X.stripe_Parity_e16 at hX
      refine hK13 _ _ (TK.keep [8] ?_)
      rw [henv]
      refine TK.subH hs ?_
      refine TK.seq_k fun K22 hK22 => ?_
      refine TK.reg ?_
      refine TL.p (C := cx) (gc := true) (p_mv rfl) rfl rfl ?_
      refine TL.p (C := cx) (gc := true) (p_mv rfl) rfl rfl ?_
      refine TL.p (C := cx) (gc := true) (p_mv rfl) rfl rfl ?_
      refine TL.nil ?_
      refine hK22 _ _ ?_
      refine TK.layG (α := (List UInt8)) [(b20, RV 22 cs20)] T20 nd (j := 0) rfl hG20 fun nd => ?_
      refine TK.lay [(4, L l21)] nd (j := 0) rfl ⟨⟨_, rfl, fix_OL nd (j := 0) rfl, rfl⟩, trivial⟩ fun nd => ?_
      refine TK.ret ?_
      try dsimp only [thenQ]
      exact retN (vs := [Enc.v (l21 : (List (List (List UInt8)))), Enc.v ((0 : Int) : Int)]) ⟨rfl, rfl, trivial⟩ (by obtain rfl := some_in hX; rfl) (allVal.mem ⟨v_val _, v_val _, trivial⟩)
    refine TK.iter [0, 1, 8, 28, 29] (fun s env h => match s with | (out18, x19) => ∃ b17 T17 cs17, env = [(0, true, Enc.v (l1 : (List Tape_api))), (1, true, Enc.v (parity2 : Int)), (8, true, OL (α := (List (List UInt8))) b17 out18), (28, true, Enc.v (r15 : Int)), (29, true, Enc.v (x19 : Int))] ∧ Nd ((b17, RV 22 cs17) :: T17) ∧ HSub ((b17, RV 22 cs17) :: T17) h ∧ Grid (α := (List UInt8)) 23 T17 cs17 out18) hO16 ⟨b12, T12, cs12, rfl, (Nd.pickT nd 1 (is := [0]) (by decide) (by decide) (len_geF [_] _)), (HSub.pickT nd 1 (is := [0]) (by decide) (by decide) (len_geF [_] _)), hG12⟩ ?_
    rintro ⟨out18, x19⟩ env h x16x ⟨b17, T17, cs17, rfl, nd, hs, hG17⟩ hX hR16
    refine TK.subH hs ?_
    unfold X.stripe_Parity_s16 at hX
    try dsimp only at hX
    refine TK.seq_k fun K23 hK23 => ?_
    refine TK.reg ?_
    refine TL.p (C := cx) (gc := true) (p_lss rfl rfl) rfl rfl ?_
    refine TL.nil ?_
    refine hK23 _ _ ?_
    refine TK.seq_k fun K24 hK24 => ?_
    refine TK.cond (b := (decide (x19 < r15))) rfl (fun hc => ?_) (fun hc => ?_)
    · have hX := ite_t hc hX
      refine TK.skip ?_
      refine hK24 _ _ ?_
      refine TK.seq_k fun K25 hK25 => ?_
      refine TK.block ?_
      refine TK.seq_k fun K26 hK26 => ?_
      refine TK.reg ?_
      refine TL.p (C := cx) (gc := true) (p_mv rfl) rfl rfl ?_
      refine TL.p (C := cx) (gc := true) (p_mv rfl) rfl rfl ?_
      refine TL.nil ?_
      refine hK26 _ _ ?_
      refine TK.seq_k fun K27 hK27 => ?_
      refine TK.reg ?_
      refine TL.p (C := cx) (gc := true) (p_mv rfl) rfl rfl ?_
      refine TL.p (C := cx) (gc := true) (p_mv rfl) rfl rfl ?_
      obtain ⟨r28, hr28, hX⟩ := bind_some hX
      refine TL.cvX rfl rfl rfl (fun _ => ⟨rfl, ⟨rfl, ⟨rfl, trivial⟩⟩⟩) (fun e => ok_stripe_Row l1 x19 _ hr28) ?_
      refine TL.p (C := cx) (gc := true) (p_mv rfl) rfl rfl ?_
      refine TL.nil ?_
      refine hK27 _ _ ?_
      refine TK.seq_k fun K29 hK29 => ?_
      refine TK.seq_k fun K30 hK30 => ?_
      refine TK.reg ?_
      refine TL.p (C := cx) (gc := true) (p_mv rfl) rfl rfl ?_
      obtain ⟨r31, hr31, hX⟩ := bind_some hX
      refine TL.cvX rfl rfl rfl (fun _ => ⟨rfl, ⟨rfl, ⟨rfl, trivial⟩⟩⟩) (fun e => ok_slices_ContainsFunc_LLbyte_Lbyte r28 (fun a1 => X.stripe_Parity_c1 a1) _ hr31 ⟨69, 0, ofL [], rfl, (fun i hi => by cases hi), fun a1 r hr => ok_stripe_Parity_c1 a1 r hr⟩) ?_
      refine TL.nil ?_
      refine hK30 _ _ ?_
      refine TK.cond (b := r31) rfl (fun hc => ?_) (fun hc => ?_)
      · have hX := ite_t hc hX
        refine TK.seq_k fun K32 hK32 => ?_
        refine TK.reg ?_
        refine TL.p (C := cx) (gc := true) (p_mv rfl) rfl rfl ?_
        refine TL.p (C := cx) (gc := true) (p_mv rfl) rfl rfl ?_
        refine TL.nil ?_
        refine hK32 _ _ ?_
        refine TK.wk 4 (L ([] : (List (List (List UInt8))))) rfl Wk_nil ?_
        refine TK.ret ?_
        obtain rfl := hR16 _ (some_in hX).symm
        replace hX := hA16
        try dsimp only [thenQ]
        exact retN (vs := [Enc.v (([] : (List (List (List UInt8)))) : (List (List (List UInt8)))), Enc.v ((1 : Int) : Int)]) ⟨rfl, rfl, trivial⟩ (by obtain rfl := some_in hX; rfl) (allVal.mem ⟨v_val _, v_val _, trivial⟩)
      · have hX := ite_f hc hX
        refine TK.skip ?_
        refine hK29 _ _ ?_
        refine TK.seq_k fun K33 hK33 => ?_
        refine TK.reg ?_
        refine TL.p (C := cx) (gc := true) (p_mv rfl) rfl rfl ?_
        refine TL.p (C := cx) (gc := true) (p_mv rfl) rfl rfl ?_
        obtain ⟨r34, hr34, hX⟩ := bind_some hX
        refine TL.cvX rfl rfl rfl (fun _ => ⟨rfl, ⟨rfl, ⟨rfl, trivial⟩⟩⟩) (fun e => ok_erasure_Encode r28 parity2 _ hr34) ?_
        refine TL.p (C := cx) (gc := true) (p_mv rfl) rfl rfl ?_
        refine TL.p (C := cx) (gc := true) (p_ex rfl rfl (by decide)) rfl rfl ?_
        refine TL.p (C := cx) (gc := true) (p_ex rfl rfl (by decide)) rfl rfl ?_
        refine TL.p (C := cx) (gc := true) (p_mv rfl) rfl rfl ?_
        refine TL.p (C := cx) (gc := true) (p_mv rfl) rfl rfl ?_
        refine TL.nil ?_
        refine hK33 _ _ ?_
        refine TK.seq_k fun K35 hK35 => ?_
        refine TK.seq_k fun K36 hK36 => ?_
        refine TK.reg ?_
        refine TL.p (C := cx) (gc := true) (p_mv rfl) rfl rfl ?_
        refine TL.p (C := cx) (gc := true) (p_neq rfl rfl) rfl rfl ?_
        refine TL.nil ?_
        refine hK36 _ _ ?_
        refine TK.cond (b := (r34.2 != (0 : Int))) rfl (fun hc => ?_) (fun hc => ?_)
        · have hX := ite_t hc hX
          refine TK.seq_k fun K37 hK37 => ?_
          refine TK.reg ?_
          refine TL.p (C := cx) (gc := true) (p_mv rfl) rfl rfl ?_
          refine TL.p (C := cx) (gc := true) (p_mv rfl) rfl rfl ?_
          refine TL.p (C := cx) (gc := true) (p_mv rfl) rfl rfl ?_
          refine TL.nil ?_
          refine hK37 _ _ ?_
          refine TK.wk 4 (L ([] : (List (List (List UInt8))))) rfl Wk_nil ?_
          refine TK.ret ?_
          obtain rfl := hR16 _ (some_in hX).symm
          replace hX := hA16
          try dsimp only [thenQ]
          exact retN (vs := [Enc.v (([] : (List (List (List UInt8)))) : (List (List (List UInt8)))), Enc.v (r34.2 : Int)]) ⟨rfl, rfl, trivial⟩ (by obtain rfl := some_in hX; rfl) (allVal.mem ⟨v_val _, v_val _, trivial⟩)
        · have hX := ite_f hc hX
          refine TK.skip ?_
          refine hK35 _ _ ?_
          refine TK.seq_k fun K38 hK38 => ?_
          refine TK.reg ?_
          refine TL.p (C := cx) (gc := true) (p_mv rfl) rfl rfl ?_
          refine TL.p (C := cx) (gc := true) (p_lenL (xs := r34.1) kd22 rfl) rfl rfl ?_
          refine TL.p (C := cx) (gc := true) (p_mv rfl) rfl rfl ?_
          refine TL.nil ?_
          refine hK38 _ _ ?_
          refine TK.block ?_
          obtain ⟨o39, hO39, hA39⟩ := bind_some hX
          have E39 : ∀ (l44 : List (List (List UInt8))) (env : Env) (h : Hp), (∃ b43 T43 cs43, keepE [0, 1, 8, 28, 29] env = [(0, true, Enc.v (l1 : (List Tape_api))), (1, true, Enc.v (parity2 : Int)), (8, true, OL (α := (List (List UInt8))) b43 l44), (28, true, Enc.v (r15 : Int)), (29, true, Enc.v (x19 : Int))] ∧ Nd ((b43, RV 22 cs43) :: T43) ∧ HSub ((b43, RV 22 cs43) :: T43) h ∧ Grid (α := (List UInt8)) 23 T43 cs43 l44) → X.stripe_Parity_e39 x19 l44 = some x16x → K25 env h := by
            intro l44 env h hE hX
            obtain ⟨b43, T43, cs43, henv, nd, hs, hG43⟩ := hE
            unfold X.stripe_Parity_e39 at hX
            refine hK25 _ _ (TK.keep [0, 1, 8, 28, 29] ?_)
            rw [henv]
            refine TK.subH hs ?_
            refine TK.reg ?_
            refine TL.p (C := cx) (gc := true) (p_add rfl rfl) rfl rfl ?_
            refine TL.p (C := cx) (gc := true) (p_mv rfl) rfl rfl ?_
            refine TL.nil ?_
            exact ⟨_, (some_in hX).symm, b43, T43, cs43, rfl, (Nd.pickT nd 1 (is := [0]) (by decide) (by decide) (len_geF [_] _)), (HSub.pickT nd 1 (is := [0]) (by decide) (by decide) (len_geF [_] _)), hG43⟩
          refine TK.iter [0, 1, 8, 28, 29, 46, 47, 48] (fun s env h => match s with | (out41, x42) => ∃ b40 T40 cs40, env = [(0, true, Enc.v (l1 : (List Tape_api))), (1, true, Enc.v (parity2 : Int)), (8, true, OL (α := (List (List UInt8))) b40 out41), (28, true, Enc.v (r15 : Int)), (29, true, Enc.v (x19 : Int)), (46, true, Enc.v (r34.1 : (List (List UInt8)))), (47, true, Enc.v ((r34.1.length : Int) : Int)), (48, true, Enc.v (x42 : Int))] ∧ Nd ((b40, RV 22 cs40) :: T40) ∧ HSub ((b40, RV 22 cs40) :: T40) h ∧ Grid (α := (List UInt8)) 23 T40 cs40 out41) hO39 ⟨b17, T17, cs17, rfl, (Nd.pickT nd 1 (is := [0]) (by decide) (by decide) (len_geF [_] _)), (HSub.pickT nd 1 (is := [0]) (by decide) (by decide) (len_geF [_] _)), hG17⟩ ?_
          rintro ⟨out41, x42⟩ env h x39x ⟨b40, T40, cs40, rfl, nd, hs, hG40⟩ hX hR39
          refine TK.subH hs ?_
          unfold X.stripe_Parity_s39 at hX
          try dsimp only at hX
          refine TK.seq_k fun K45 hK45 => ?_
          refine TK.reg ?_
          refine TL.p (C := cx) (gc := true) (p_lss rfl rfl) rfl rfl ?_
          refine TL.nil ?_
          refine hK45 _ _ ?_
          refine TK.seq_k fun K46 hK46 => ?_
          refine TK.cond (b := (decide (x42 < (r34.1.length : Int)))) rfl (fun hc => ?_) (fun hc => ?_)
          · have hX := ite_t hc hX
            refine TK.skip ?_
            refine hK46 _ _ ?_
            refine TK.seq_k fun K47 hK47 => ?_
            refine TK.block ?_
            refine TK.seq_k fun K48 hK48 => ?_
            refine TK.reg ?_
            refine TL.p (C := cx) (gc := true) (p_mv rfl) rfl rfl ?_
            obtain ⟨e49, he49, hX⟩ := bind_some hX
            refine TL.p (C := cx) (gc := true) (p_iaL (xs := r34.1) kd22 ty23 rfl rfl rfl (fun _ => he49)) rfl rfl ?_
            refine TL.p (C := cx) (gc := true) (p_ldE (xs := r34.1) (a := e49) (e49 : (List UInt8)) ty23 rfl rfl (fun _ => he49) rfl rfl rfl) rfl rfl ?_
            refine TL.p (C := cx) (gc := true) (p_mv rfl) rfl rfl ?_
            refine TL.p (C := cx) (gc := true) (p_mv rfl) rfl rfl ?_
            refine TL.nil ?_
            refine hK48 _ _ ?_
            refine TK.reg ?_
            refine TL.p (C := cx) (gc := true) (p_mv rfl) rfl rfl ?_
            refine TL.p (C := cx) (gc := true) (p_mv rfl) rfl rfl ?_
            refine TL.p (C := cx) (gc := true) (p_mv rfl) rfl rfl ?_
            refine TL.p (C := cx) (gc := true) (p_mv rfl) rfl rfl ?_
            obtain ⟨e50, he50, hX⟩ := bind_some hX
            refine TL.p (C := cx) (gc := true) (p_iaG hG40 kd37 ty22 rfl rfl rfl nd (j := 0) rfl (fun _ => he50)) rfl rfl ?_
            obtain ⟨nm51, hT51, hc51⟩ := gridAt (i := x42) hG40 he50
            refine TL.p (C := cx) (gc := true) (p_ldG ty22 rfl rfl nd (j := 0) rfl hc51 rfl rfl) rfl rfl ?_
            refine TL.p (C := cx) (gc := true) (p_mv rfl) rfl rfl ?_
            refine TL.lit (C := cx) ([e49] : List (List UInt8)) kd22 ty23 rfl ⟨⟨rfl, rfl⟩, trivial⟩ rfl rfl rfl ?_
            obtain ⟨u52, hu52, hX⟩ := bind_some hX
            refine TL.appG (C := cx) (F := [(b40, RV 22 cs40)]) (T := T40) (k := (x42 : Int).toNat) nd kd22 bo22 ty23 rfl rfl hT51 rfl (Src_L _) (by decide) (need_t hu52) rfl fun nd => ?_
            obtain ⟨e53, he53, hX⟩ := bind_some hX
            refine TL.p (C := cx) (gc := true) (p_iaG hG40 kd37 ty22 rfl rfl rfl nd (j := 0) rfl (fun _ => he53)) rfl rfl ?_
            refine TL.stG (C := cx) (F := [(b40, RV 22 cs40)]) (T := (T40.set (x42 : Int).toNat (nm51, RL (α := (List UInt8)) 23 (e50 ++ ([e49] : List (List UInt8)))))) (i := x42) nd ty22 rfl (j := 0) rfl hc51 rfl (setAt hT51) rfl fun nd => ?_
            refine TL.cv 8 (OL b40 (out41.set x42.toNat (e50 ++ ([e49] : List (List UInt8))))) rfl (Wk_eq (OL_len (by simp))) ?_
            refine TL.nil ?_
            refine hK47 _ _ ?_
            refine TK.reg ?_
            refine TL.p (C := cx) (gc := true) (p_add rfl rfl) rfl rfl ?_
            refine TL.p (C := cx) (gc := true) (p_mv rfl) rfl rfl ?_
            refine TL.nil ?_
            exact ⟨_, (some_in hX).symm, b40, (T40.set (x42 : Int).toNat (nm51, RL (α := (List UInt8)) 23 (e50 ++ ([e49] : List (List UInt8))))), (cs40.set (x42 : Int).toNat (OL (α := (List UInt8)) nm51 (e50 ++ ([e49] : List (List UInt8))))), rfl, (Nd.pickT nd 1 (is := [0]) (by decide) (by decide) (len_geF [_] _)), (HSub.pickT nd 1 (is := [0]) (by decide) (by decide) (len_geF [_] _)), (Grid.set hG40 hT51)⟩
          · have hX := ite_f hc hX
            refine TK.exit ?_
            obtain rfl := hR39 _ (some_in hX).symm
            exact E39 out41 _ _ ⟨b40, T40, cs40, rfl, (Nd.pickT nd 1 (is := [0]) (by decide) (by decide) (len_geF [_] _)), (HSub.pickT nd 1 (is := [0]) (by decide) (by decide) (len_geF [_] _)), hG40⟩ hA39
    · have hX := ite_f hc hX
      refine TK.exit ?_
      obtain rfl := hR16 _ (some_in hX).symm
      exact E16 out18 _ _ ⟨b17, T17, cs17, rfl, (Nd.pickT nd 1 (is := [0]) (by decide) (by decide) (len_geF [_] _)), (HSub.pickT nd 1 (is := [0]) (by decide) (by decide) (len_geF [_] _)), hG17⟩ hA16

/-- cartridge/cartridgelaw13.num -/
theorem ok_cartridgelaw13_num (e1 : Int) (r : Int) (hX : X.cartridgelaw13_num e1 = some r) : Fun Try.prog 25 [Enc.v (e1 : Int)] (· = Enc.v (r : Int)) := by
  refine Fun.of b25 (Nat.le_of_ble_eq_true rfl) (allVal.mem ⟨(by exact (v_val _)), trivial⟩) ?_
  unfold k25
  have nd : Nd [] := Nd_nil
  unfold X.cartridgelaw13_num at hX
  refine TK.seq_k fun K2 hK2 => ?_
  refine TK.reg ?_
  refine TL.p (C := cx) (gc := true) (p_mv rfl) rfl rfl ?_
  refine TL.nil ?_
  refine hK2 _ _ ?_
  refine TK.seq_k fun K3 hK3 => ?_
  refine TK.reg ?_
  refine TL.p (C := cx) (gc := true) (p_mv rfl) rfl rfl ?_
  refine TL.p (C := cx) (gc := true) (p_mv rfl) rfl rfl ?_
  refine TL.nil ?_
  refine hK3 _ _ ?_
  refine TK.ret ?_
  try dsimp only [thenQ]
  exact ret1 (v := Enc.v (e1 : Int)) rfl (by obtain rfl := some_in hX; rfl) (v_val _)

/-- cartridge/cartridgelaw13.alive -/
theorem ok_cartridgelaw13_alive  (r : Bool) (hX : X.cartridgelaw13_alive = some r) : Fun Try.prog 21 [] (· = Enc.v (r : Bool)) := by
  refine Fun.of b21 (Nat.le_of_ble_eq_true rfl) (fun x hx => by cases hx) ?_
  unfold k21
  have nd : Nd [] := Nd_nil
  unfold X.cartridgelaw13_alive at hX
  refine TK.seq_k fun K1 hK1 => ?_
  refine TK.reg ?_
  refine TL.p (C := cx) (gc := true) (p_mv rfl) rfl rfl ?_
  refine TL.nil ?_
  refine hK1 _ _ ?_
  refine TK.seq_k fun K2 hK2 => ?_
  refine TK.reg ?_
  obtain ⟨u3, hu3, hX⟩ := bind_some hX
  refine TL.mkV (C := cx) nd (0 : UInt8) kd23 ty5 rfl (fun j hj => by (have : j = 0 := by simpa [Enc.sz] using hj); subst this; rfl) rfl rfl (by decide) (need_t hu3) rfl ?_
  refine TL.lit (C := cx) ([(List.replicate (79 : Int).toNat (0 : UInt8))] : List (List UInt8)) kd22 ty23 rfl ⟨⟨rfl, rfl⟩, trivial⟩ rfl rfl rfl ?_
  refine TL.p (C := cx) (gc := true) (p_bld (l := Enc.cl ((Tape_api.mk (1 : Int) (1 : Int) ([(List.replicate (79 : Int).toNat (0 : UInt8))] : List (List UInt8)) false) : Tape_api)) ty48 rfl all48 rfl (fun _ => ⟨⟨rfl, trivial, rfl⟩, ⟨rfl, trivial, rfl⟩, ⟨rfl, trivial, rfl⟩, trivial⟩)) rfl rfl ?_
  refine TL.lit (C := cx) ([(Tape_api.mk (1 : Int) (1 : Int) ([(List.replicate (79 : Int).toNat (0 : UInt8))] : List (List UInt8)) false)] : List Tape_api) kd35 ty48 rfl ⟨⟨rfl, rfl⟩, trivial⟩ rfl rfl rfl ?_
  refine TL.p (C := cx) (gc := true) (p_mv rfl) rfl rfl ?_
  refine TL.nil ?_
  refine hK2 _ _ ?_
  refine TK.seq_k fun K4 hK4 => ?_
  refine TK.reg ?_
  refine TL.p (C := cx) (gc := true) (p_mv rfl) rfl rfl ?_
  obtain ⟨r5, hr5, hX⟩ := bind_some hX
  refine TL.cvX rfl rfl rfl (fun _ => ⟨rfl, ⟨rfl, ⟨rfl, trivial⟩⟩⟩) (fun e => ok_stripe_Parity ([(Tape_api.mk (1 : Int) (1 : Int) ([(List.replicate (79 : Int).toNat (0 : UInt8))] : List (List UInt8)) false)] : List Tape_api) (1 : Int) _ hr5) ?_
  refine TL.p (C := cx) (gc := true) (p_mv rfl) rfl rfl ?_
  refine TL.p (C := cx) (gc := true) (p_ex rfl rfl (by decide)) rfl rfl ?_
  refine TL.p (C := cx) (gc := true) (p_ex rfl rfl (by decide)) rfl rfl ?_
  refine TL.p (C := cx) (gc := true) (p_mv rfl) rfl rfl ?_
  refine TL.p (C := cx) (gc := true) (p_mv rfl) rfl rfl ?_
  refine TL.nil ?_
  refine hK4 _ _ ?_
  refine TK.seq_k fun K6 hK6 => ?_
  refine TK.reg ?_
  obtain ⟨r7, hr7, hX⟩ := bind_some hX
  refine TL.cvX rfl rfl rfl (fun _ => ⟨rfl, ⟨rfl, trivial⟩⟩) (fun e => (Fun.wk (args' := [L ([] : List Tape_api)]) ⟨Wk_nil, trivial⟩ (ok_stripe_Len ([] : List Tape_api) _ hr7))) ?_
  refine TL.p (C := cx) (gc := true) (p_eql rfl rfl) rfl rfl ?_
  refine TL.p (C := cx) (gc := true) (p_mv rfl) rfl rfl ?_
  refine TL.p (C := cx) (gc := ((r7 == (0 : Int)))) (p_mv rfl (hg := fun e => rfl)) (gcT1 rfl) rfl ?_
  obtain ⟨r8, hr8, hX⟩ := bind_some hX
  refine TL.cvX (gcT1 rfl) rfl rfl (fun e => ⟨rfl, ⟨e, trivial⟩⟩) (fun e => ok_stripe_Len ([(Tape_api.mk (1 : Int) (1 : Int) ([(List.replicate (79 : Int).toNat (0 : UInt8))] : List (List UInt8)) false)] : List Tape_api) _ (optG_t hr8 e)) ?_
  refine TL.p (C := cx) (gc := ((r7 == (0 : Int)))) (p_eql rfl rfl (hg := fun e => ⟨e, rfl⟩)) (gcT1 rfl) rfl ?_
  refine TL.p (C := cx) (gc := true) (p_and rfl rfl (fun e => ⟨rfl, fun h => h⟩)) rfl rfl ?_
  refine TL.p (C := cx) (gc := true) (p_mv rfl) rfl rfl ?_
  refine TL.p (C := cx) (gc := (((r7 == (0 : Int)) && (r8 == (1 : Int))))) (p_mv rfl (hg := fun e => rfl)) (gcT1 rfl) rfl ?_
  obtain ⟨r9, hr9, hX⟩ := bind_some hX
  refine TL.cvX (gcT1 rfl) rfl rfl (fun e => ⟨rfl, ⟨e, ⟨rfl, trivial⟩⟩⟩) (fun e => ok_stripe_Row ([(Tape_api.mk (1 : Int) (1 : Int) ([(List.replicate (79 : Int).toNat (0 : UInt8))] : List (List UInt8)) false)] : List Tape_api) (0 : Int) _ (optG_t hr9 e)) ?_
  refine TL.p (C := cx) (gc := (((r7 == (0 : Int)) && (r8 == (1 : Int))))) (p_lenL (xs := r9) kd22 rfl (hg := fun e => e)) (gcT1 rfl) rfl ?_
  refine TL.p (C := cx) (gc := (((r7 == (0 : Int)) && (r8 == (1 : Int))))) (p_eql rfl rfl (hg := fun e => ⟨e, rfl⟩)) (gcT1 rfl) rfl ?_
  refine TL.p (C := cx) (gc := true) (p_and rfl rfl (fun e => ⟨rfl, fun h => h⟩)) rfl rfl ?_
  refine TL.p (C := cx) (gc := true) (p_mv rfl) rfl rfl ?_
  refine TL.p (C := cx) (gc := ((((r7 == (0 : Int)) && (r8 == (1 : Int))) && ((r9.length : Int) == (1 : Int))))) (p_mv rfl (hg := fun e => rfl)) (gcT1 rfl) rfl ?_
  obtain ⟨r10, hr10, hX⟩ := bind_some hX
  refine TL.cvX (gcT1 rfl) rfl rfl (fun e => ⟨rfl, ⟨e, trivial⟩⟩) (fun e => ok_cartridgelaw13_num r5.2 _ (optG_t hr10 e)) ?_
  refine TL.p (C := cx) (gc := ((((r7 == (0 : Int)) && (r8 == (1 : Int))) && ((r9.length : Int) == (1 : Int))))) (p_eql rfl rfl (hg := fun e => ⟨e, rfl⟩)) (gcT1 rfl) rfl ?_
  refine TL.p (C := cx) (gc := true) (p_and rfl rfl (fun e => ⟨rfl, fun h => h⟩)) rfl rfl ?_
  refine TL.p (C := cx) (gc := true) (p_mv rfl) rfl rfl ?_
  refine TL.p (C := cx) (gc := (((((r7 == (0 : Int)) && (r8 == (1 : Int))) && ((r9.length : Int) == (1 : Int))) && (r10 == (0 : Int))))) (p_mv rfl (hg := fun e => rfl)) (gcT1 rfl) rfl ?_
  refine TL.p (C := cx) (gc := (((((r7 == (0 : Int)) && (r8 == (1 : Int))) && ((r9.length : Int) == (1 : Int))) && (r10 == (0 : Int))))) (p_lenL (xs := r5.1) kd37 rfl (hg := fun e => e)) (gcT1 rfl) rfl ?_
  refine TL.p (C := cx) (gc := (((((r7 == (0 : Int)) && (r8 == (1 : Int))) && ((r9.length : Int) == (1 : Int))) && (r10 == (0 : Int))))) (p_eql rfl rfl (hg := fun e => ⟨e, rfl⟩)) (gcT1 rfl) rfl ?_
  refine TL.p (C := cx) (gc := true) (p_and rfl rfl (fun e => ⟨rfl, fun h => h⟩)) rfl rfl ?_
  refine TL.p (C := cx) (gc := true) (p_mv rfl) rfl rfl ?_
  refine TL.nil ?_
  refine hK6 _ _ ?_
  refine TK.ret ?_
  try dsimp only [thenQ]
  exact ret1 (v := Enc.v ((((((r7 == (0 : Int)) && (r8 == (1 : Int))) && ((r9.length : Int) == (1 : Int))) && (r10 == (0 : Int))) && ((r5.1.length : Int) == (1 : Int))) : Bool)) rfl (by obtain rfl := some_in hX; rfl) (v_val _)

/-- cartridge/cartridgeref1.Mul -/
theorem ok_cartridgeref1_Mul (a1 : UInt8) (b2 : UInt8) (r : UInt8) (hX : X.cartridgeref1_Mul a1 b2 = some r) : Fun Try.prog 20 [Enc.v (a1 : UInt8), Enc.v (b2 : UInt8)] (· = Enc.v (r : UInt8)) := by
  refine Fun.of b20 (Nat.le_of_ble_eq_true rfl) (allVal.mem ⟨(by exact (v_val _)), (by exact (v_val _)), trivial⟩) ?_
  unfold k20
  have nd : Nd [] := Nd_nil
  unfold X.cartridgeref1_Mul at hX
  refine TK.seq_k fun K3 hK3 => ?_
  refine TK.reg ?_
  refine TL.p (C := cx) (gc := true) (p_mv rfl) rfl rfl ?_
  refine TL.nil ?_
  refine hK3 _ _ ?_
  refine TK.seq_k fun K4 hK4 => ?_
  refine TK.reg ?_
  refine TL.p (C := cx) (gc := true) (p_mv rfl) rfl rfl ?_
  refine TL.nil ?_
  refine hK4 _ _ ?_
  refine TK.seq_k fun K5 hK5 => ?_
  refine TK.seq_k fun K6 hK6 => ?_
  refine TK.reg ?_
  refine TL.p (C := cx) (gc := true) (p_mv rfl) rfl rfl ?_
  refine TL.nil ?_
  refine hK6 _ _ ?_
  refine TK.block ?_
  obtain ⟨o7, hO7, hA7⟩ := bind_some hX
  have E7 : ∀ (x10 : Int) (env : Env) (h : Hp), (∃ _u : Unit, keepE [5] env = [(5, true, Enc.v (x10 : Int))] ∧ Nd [] ∧ HSub [] h) → X.cartridgeref1_Mul_e7 x10 = some r → K5 env h := by
    intro x10 env h hE hX
    obtain ⟨_u, henv, nd, hs⟩ := hE
    unfold X.cartridgeref1_Mul_e7 at hX
    refine hK5 _ _ (TK.keep [5] ?_)
    rw [henv]
    refine TK.subH hs ?_
    refine TK.seq_k fun K11 hK11 => ?_
    refine TK.seq_k fun K12 hK12 => ?_
    refine TK.reg ?_
    refine TL.p (C := cx) (gc := true) (p_mv rfl) rfl rfl ?_
    refine TL.nil ?_
    refine hK12 _ _ ?_
    refine TK.block ?_
    obtain ⟨o13, hO13, hA13⟩ := bind_some hX
    have E13 : ∀ (x16 : Int) (env : Env) (h : Hp), (∃ _u : Unit, keepE [5] env = [(5, true, Enc.v (x16 : Int))] ∧ Nd [] ∧ HSub [] h) → X.cartridgeref1_Mul_e13 x16 = some r → K11 env h := by
      intro x16 env h hE hX
      obtain ⟨_u, henv, nd, hs⟩ := hE
      unfold X.cartridgeref1_Mul_e13 at hX
      refine hK11 _ _ (TK.keep [5] ?_)
      rw [henv]
      refine TK.subH hs ?_
      refine TK.seq_k fun K17 hK17 => ?_
      refine TK.reg ?_
      refine TL.p (C := cx) (gc := true) (p_mv rfl) rfl rfl ?_
      refine TL.p (C := cx) (gc := true) (p_cvt src3 kd5 rfl (cv_u8 _)) rfl rfl ?_
      refine TL.p (C := cx) (gc := true) (p_mv rfl) rfl rfl ?_
      refine TL.nil ?_
      refine hK17 _ _ ?_
      refine TK.ret ?_
      try dsimp only [thenQ]
      exact ret1 (v := Enc.v ((u8 x16) : UInt8)) rfl (by obtain rfl := some_in hX; rfl) (v_val _)
    refine TK.iter [5, 7] (fun s env h => match s with | (x14, i15) => ∃ _u : Unit, env = [(5, true, Enc.v (x14 : Int)), (7, true, Enc.v (i15 : Int))] ∧ Nd [] ∧ HSub [] h) hO13 ⟨(), rfl, Nd_nil, HSub.refl _⟩ ?_
    rintro ⟨x14, i15⟩ env h x13x ⟨_u, rfl, nd, hs⟩ hX hR13
    refine TK.subH hs ?_
    unfold X.cartridgeref1_Mul_s13 at hX
    try dsimp only at hX
    refine TK.seq_k fun K18 hK18 => ?_
    refine TK.seq_k fun K19 hK19 => ?_
    refine TK.reg ?_
    refine TL.p (C := cx) (gc := true) (p_mv rfl) rfl rfl ?_
    refine TL.p (C := cx) (gc := true) (p_geq rfl rfl) rfl rfl ?_
    refine TL.nil ?_
    refine hK19 _ _ ?_
    refine TK.cond (b := (decide (i15 ≥ (8 : Int)))) rfl (fun hc => ?_) (fun hc => ?_)
    · have hX := ite_t hc hX
      refine TK.skip ?_
      refine hK18 _ _ ?_
      refine TK.seq_k fun K20 hK20 => ?_
      have J20 : ∀ (x21 : Int) (env : Env) (h : Hp), (∃ _u : Unit, keepE [5, 7] env = [(5, true, Enc.v (x21 : Int)), (7, true, Enc.v (i15 : Int))] ∧ Nd [] ∧ HSub [] h) → X.cartridgeref1_Mul_j20 i15 x21 = some x13x → K20 env h := by
        intro x21 env h hE hX
        obtain ⟨_u, henv, nd, hs⟩ := hE
        unfold X.cartridgeref1_Mul_j20 at hX
        refine hK20 _ _ (TK.keep [5, 7] ?_)
        rw [henv]
        refine TK.subH hs ?_
        refine TK.reg ?_
        refine TL.p (C := cx) (gc := true) (p_mv rfl) rfl rfl ?_
        refine TL.p (C := cx) (gc := true) (p_sub rfl rfl) rfl rfl ?_
        refine TL.p (C := cx) (gc := true) (p_mv rfl) rfl rfl ?_
        refine TL.nil ?_
        exact ⟨_, (some_in hX).symm, (), rfl, Nd_nil, HSub.refl _⟩
      refine TK.block ?_
      refine TK.seq_k fun K22 hK22 => ?_
      refine TK.reg ?_
      refine TL.p (C := cx) (gc := true) (p_mv rfl) rfl rfl ?_
      refine TL.p (C := cx) (gc := true) (p_mv rfl) rfl rfl ?_
      refine TL.p (C := cx) (gc := true) (p_cvt src3 kd97 rfl (cv_u64 _)) rfl rfl ?_
      refine TL.p (C := cx) (gc := true) (p_shr rfl rfl (fun _ => by omega)) rfl rfl ?_
      refine TL.p (C := cx) (gc := true) (p_and64 rfl rfl) rfl rfl ?_
      refine TL.p (C := cx) (gc := true) (p_eql rfl rfl) rfl rfl ?_
      refine TL.nil ?_
      refine hK22 _ _ ?_
      refine TK.cond (b := ((and64 (shr64 x14 ((u64 i15).toNat : Int)) (1 : Int)) == (1 : Int))) rfl (fun hc => ?_) (fun hc => ?_)
      · have hX := ite_t hc hX
        refine TK.reg ?_
        refine TL.p (C := cx) (gc := true) (p_mv rfl) rfl rfl ?_
        refine TL.p (C := cx) (gc := true) (p_mv rfl) rfl rfl ?_
        refine TL.p (C := cx) (gc := true) (p_sub rfl rfl) rfl rfl ?_
        refine TL.p (C := cx) (gc := true) (p_cvt src3 kd97 rfl (cv_u64 _)) rfl rfl ?_
        refine TL.p (C := cx) (gc := true) (p_shl rfl rfl (fun _ => by omega)) rfl rfl ?_
        refine TL.p (C := cx) (gc := true) (p_xor64 rfl rfl) rfl rfl ?_
        refine TL.p (C := cx) (gc := true) (p_mv rfl) rfl rfl ?_
        refine TL.nil ?_
        exact J20 (xor64 x14 (shl64 (285 : Int) ((u64 (wr (i15 - (8 : Int)))).toNat : Int))) _ _ ⟨(), rfl, Nd_nil, HSub.refl _⟩ hX
      · have hX := ite_f hc hX
        refine TK.skip ?_
        exact J20 x14 _ _ ⟨(), rfl, Nd_nil, HSub.refl _⟩ hX
    · have hX := ite_f hc hX
      refine TK.exit ?_
      obtain rfl := hR13 _ (some_in hX).symm
      exact E13 x14 _ _ ⟨(), rfl, Nd_nil, HSub.refl _⟩ hA13
  refine TK.iter [0, 1, 5, 6] (fun s env h => match s with | (x8, i9) => ∃ _u : Unit, env = [(0, true, Enc.v (a1 : UInt8)), (1, true, Enc.v (b2 : UInt8)), (5, true, Enc.v (x8 : Int)), (6, true, Enc.v (i9 : Int))] ∧ Nd [] ∧ HSub [] h) hO7 ⟨(), rfl, Nd_nil, HSub.refl _⟩ ?_
  rintro ⟨x8, i9⟩ env h x7x ⟨_u, rfl, nd, hs⟩ hX hR7
  refine TK.subH hs ?_
  unfold X.cartridgeref1_Mul_s7 at hX
  try dsimp only at hX
  refine TK.seq_k fun K23 hK23 => ?_
  refine TK.seq_k fun K24 hK24 => ?_
  refine TK.reg ?_
  refine TL.p (C := cx) (gc := true) (p_mv rfl) rfl rfl ?_
  refine TL.p (C := cx) (gc := true) (p_lss rfl rfl) rfl rfl ?_
  refine TL.nil ?_
  refine hK24 _ _ ?_
  refine TK.cond (b := (decide (i9 < (8 : Int)))) rfl (fun hc => ?_) (fun hc => ?_)
  · have hX := ite_t hc hX
    refine TK.skip ?_
    refine hK23 _ _ ?_
    refine TK.seq_k fun K25 hK25 => ?_
    have J25 : ∀ (x26 : Int) (env : Env) (h : Hp), (∃ _u : Unit, keepE [0, 1, 5, 6] env = [(0, true, Enc.v (a1 : UInt8)), (1, true, Enc.v (b2 : UInt8)), (5, true, Enc.v (x26 : Int)), (6, true, Enc.v (i9 : Int))] ∧ Nd [] ∧ HSub [] h) → X.cartridgeref1_Mul_j25 i9 x26 = some x7x → K25 env h := by
      intro x26 env h hE hX
      obtain ⟨_u, henv, nd, hs⟩ := hE
      unfold X.cartridgeref1_Mul_j25 at hX
      refine hK25 _ _ (TK.keep [0, 1, 5, 6] ?_)
      rw [henv]
      refine TK.subH hs ?_
      refine TK.reg ?_
      refine TL.p (C := cx) (gc := true) (p_mv rfl) rfl rfl ?_
      refine TL.p (C := cx) (gc := true) (p_add rfl rfl) rfl rfl ?_
      refine TL.p (C := cx) (gc := true) (p_mv rfl) rfl rfl ?_
      refine TL.nil ?_
      exact ⟨_, (some_in hX).symm, (), rfl, Nd_nil, HSub.refl _⟩
    refine TK.block ?_
    refine TK.seq_k fun K27 hK27 => ?_
    refine TK.reg ?_
    refine TL.p (C := cx) (gc := true) (p_mv rfl) rfl rfl ?_
    refine TL.p (C := cx) (gc := true) (p_mv rfl) rfl rfl ?_
    refine TL.p (C := cx) (gc := true) (p_cvt src3 kd97 rfl (cv_u64 _)) rfl rfl ?_
    refine TL.p (C := cx) (gc := true) (p8_shr (a := b2) (b := (u64 i9).toNat) rfl rfl) rfl rfl ?_
    refine TL.p (C := cx) (gc := true) (p8_and (a := (shr8 b2 (u64 i9).toNat)) (b := (1 : UInt8)) rfl rfl) rfl rfl ?_
    refine TL.p (C := cx) (gc := true) (p8_eql (a := ((shr8 b2 (u64 i9).toNat) &&& (1 : UInt8))) (b := (1 : UInt8)) rfl rfl) rfl rfl ?_
    refine TL.nil ?_
    refine hK27 _ _ ?_
    refine TK.cond (b := (((shr8 b2 (u64 i9).toNat) &&& (1 : UInt8)) == (1 : UInt8))) rfl (fun hc => ?_) (fun hc => ?_)
    · have hX := ite_t hc hX
      refine TK.reg ?_
      refine TL.p (C := cx) (gc := true) (p_mv rfl) rfl rfl ?_
      refine TL.p (C := cx) (gc := true) (p_mv rfl) rfl rfl ?_
      refine TL.p (C := cx) (gc := true) (p_cvt src5 kd3 rfl (cv_8 a1)) rfl rfl ?_
      refine TL.p (C := cx) (gc := true) (p_mv rfl) rfl rfl ?_
      refine TL.p (C := cx) (gc := true) (p_cvt src3 kd97 rfl (cv_u64 _)) rfl rfl ?_
      refine TL.p (C := cx) (gc := true) (p_shl rfl rfl (fun _ => by omega)) rfl rfl ?_
      refine TL.p (C := cx) (gc := true) (p_xor64 rfl rfl) rfl rfl ?_
      refine TL.p (C := cx) (gc := true) (p_mv rfl) rfl rfl ?_
      refine TL.nil ?_
      exact J25 (xor64 x8 (shl64 (a1.toNat : Int) ((u64 i9).toNat : Int))) _ _ ⟨(), rfl, Nd_nil, HSub.refl _⟩ hX
    · have hX := ite_f hc hX
      refine TK.skip ?_
      exact J25 x8 _ _ ⟨(), rfl, Nd_nil, HSub.refl _⟩ hX
  · have hX := ite_f hc hX
    refine TK.exit ?_
    obtain rfl := hR7 _ (some_in hX).symm
    exact E7 x8 _ _ ⟨(), rfl, Nd_nil, HSub.refl _⟩ hA7

/-- cartridge/cartridgeref1.Inv -/
theorem ok_cartridgeref1_Inv (a1 : UInt8) (r : UInt8) (hX : X.cartridgeref1_Inv a1 = some r) : Fun Try.prog 72 [Enc.v (a1 : UInt8)] (· = Enc.v (r : UInt8)) := by
  refine Fun.of b72 (Nat.le_of_ble_eq_true rfl) (allVal.mem ⟨(by exact (v_val _)), trivial⟩) ?_
  unfold k72
  have nd : Nd [] := Nd_nil
  unfold X.cartridgeref1_Inv at hX
  refine TK.seq_k fun K2 hK2 => ?_
  refine TK.reg ?_
  refine TL.p (C := cx) (gc := true) (p_mv rfl) rfl rfl ?_
  refine TL.nil ?_
  refine hK2 _ _ ?_
  refine TK.seq_k fun K3 hK3 => ?_
  refine TK.reg ?_
  refine TL.p (C := cx) (gc := true) (p_mv rfl) rfl rfl ?_
  refine TL.nil ?_
  refine hK3 _ _ ?_
  refine TK.seq_k fun K4 hK4 => ?_
  refine TK.seq_k fun K5 hK5 => ?_
  refine TK.reg ?_
  refine TL.p (C := cx) (gc := true) (p_mv rfl) rfl rfl ?_
  refine TL.nil ?_
  refine hK5 _ _ ?_
  refine TK.block ?_
  obtain ⟨o6, hO6, hA6⟩ := bind_some hX
  have E6 : ∀ (x9 : UInt8) (env : Env) (h : Hp), (∃ _u : Unit, keepE [3] env = [(3, true, Enc.v (x9 : UInt8))] ∧ Nd [] ∧ HSub [] h) → X.cartridgeref1_Inv_e6 x9 = some r → K4 env h := by
    intro x9 env h hE hX
    obtain ⟨_u, henv, nd, hs⟩ := hE
    unfold X.cartridgeref1_Inv_e6 at hX
    refine hK4 _ _ (TK.keep [3] ?_)
    rw [henv]
    refine TK.subH hs ?_
    refine TK.seq_k fun K10 hK10 => ?_
    refine TK.reg ?_
    refine TL.p (C := cx) (gc := true) (p_mv rfl) rfl rfl ?_
    refine TL.p (C := cx) (gc := true) (p_mv rfl) rfl rfl ?_
    refine TL.nil ?_
    refine hK10 _ _ ?_
    refine TK.ret ?_
    try dsimp only [thenQ]
    exact ret1 (v := Enc.v (x9 : UInt8)) rfl (by obtain rfl := some_in hX; rfl) (v_val _)
  refine TK.iter [0, 3, 4] (fun s env h => match s with | (x7, i8) => ∃ _u : Unit, env = [(0, true, Enc.v (a1 : UInt8)), (3, true, Enc.v (x7 : UInt8)), (4, true, Enc.v (i8 : Int))] ∧ Nd [] ∧ HSub [] h) hO6 ⟨(), rfl, Nd_nil, HSub.refl _⟩ ?_
  rintro ⟨x7, i8⟩ env h x6x ⟨_u, rfl, nd, hs⟩ hX hR6
  refine TK.subH hs ?_
  unfold X.cartridgeref1_Inv_s6 at hX
  try dsimp only at hX
  refine TK.seq_k fun K11 hK11 => ?_
  refine TK.seq_k fun K12 hK12 => ?_
  refine TK.reg ?_
  refine TL.p (C := cx) (gc := true) (p_mv rfl) rfl rfl ?_
  refine TL.p (C := cx) (gc := true) (p_lss rfl rfl) rfl rfl ?_
  refine TL.nil ?_
  refine hK12 _ _ ?_
  refine TK.cond (b := (decide (i8 < (254 : Int)))) rfl (fun hc => ?_) (fun hc => ?_)
  · have hX := ite_t hc hX
    refine TK.skip ?_
    refine hK11 _ _ ?_
    refine TK.seq_k fun K13 hK13 => ?_
    refine TK.block ?_
    refine TK.reg ?_
    refine TL.p (C := cx) (gc := true) (p_mv rfl) rfl rfl ?_
    refine TL.p (C := cx) (gc := true) (p_mv rfl) rfl rfl ?_
    obtain ⟨r14, hr14, hX⟩ := bind_some hX
    refine TL.cvX rfl rfl rfl (fun _ => ⟨rfl, ⟨rfl, ⟨rfl, trivial⟩⟩⟩) (fun e => ok_cartridgeref1_Mul x7 a1 _ hr14) ?_
    refine TL.p (C := cx) (gc := true) (p_mv rfl) rfl rfl ?_
    refine TL.nil ?_
    refine hK13 _ _ ?_
    refine TK.reg ?_
    refine TL.p (C := cx) (gc := true) (p_mv rfl) rfl rfl ?_
    refine TL.p (C := cx) (gc := true) (p_add rfl rfl) rfl rfl ?_
    refine TL.p (C := cx) (gc := true) (p_mv rfl) rfl rfl ?_
    refine TL.nil ?_
    exact ⟨_, (some_in hX).symm, (), rfl, Nd_nil, HSub.refl _⟩
  · have hX := ite_f hc hX
    refine TK.exit ?_
    obtain rfl := hR6 _ (some_in hX).symm
    exact E6 x7 _ _ ⟨(), rfl, Nd_nil, HSub.refl _⟩ hA6

end Go.Proofs.Ytgkbjnhpmlfgdaa
