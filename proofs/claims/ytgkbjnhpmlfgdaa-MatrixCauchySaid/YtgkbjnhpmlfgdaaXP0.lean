import Derived.Test.YtgkbjnhpmlfgdaaXFn
import Derived.Test.YtgkbjnhpmlfgdaaXS
import Derived.Test.YtgkbjnhpmlfgdaaAmK0
import Derived.Test.YtgkbjnhpmlfgdaaAmK1
import Derived.Test.YtgkbjnhpmlfgdaaAmK2
/- That they do. -/
namespace Go.Proofs.Ytgkbjnhpmlfgdaa
open Go.AM Go.AX
set_option linter.unusedVariables false
set_option maxRecDepth 20000

/-- slices.IndexFunc[[][]byte,[]byte] -/
theorem ok_slices_IndexFunc_LLbyte_Lbyte (s1 : (List (List UInt8))) (g2 : (List UInt8) → Option Bool) (r : Int) (hX : X.slices_IndexFunc_LLbyte_Lbyte s1 g2 = some r) {g2V : AV} (hg2V : ∃ f m c, g2V = .fn f m c ∧ (∀ i, i < m → (c i).val) ∧ ∀ (a0 : (List UInt8)) r, g2 a0 = some r → Fun Try.prog f ([Enc.v a0] ++ (List.range m).map c) (· = Enc.v r)) : Fun Try.prog 60 [Enc.v (s1 : (List (List UInt8))), g2V] (· = Enc.v (r : Int)) := by
  obtain ⟨g2f, g2m, g2c, rfl, hg2v, hg2⟩ := hg2V
  refine Fun.of b60 (Nat.le_of_ble_eq_true rfl) (allVal.mem ⟨(by exact (v_val _)), hg2v, trivial⟩) ?_
  unfold k60
  have nd : Nd [] := Nd_nil
  unfold X.slices_IndexFunc_LLbyte_Lbyte at hX
  refine TK.seq_k fun K3 hK3 => ?_
  refine TK.reg ?_
  refine TL.p (C := cx) (gc := true) (p_mv rfl) rfl rfl ?_
  refine TL.nil ?_
  refine hK3 _ _ ?_
  refine TK.seq_k fun K4 hK4 => ?_
  refine TK.seq_k fun K5 hK5 => ?_
  refine TK.reg ?_
  refine TL.p (C := cx) (gc := true) (p_mv rfl) rfl rfl ?_
  refine TL.p (C := cx) (gc := true) (p_lenL (xs := s1) kd22 rfl) rfl rfl ?_
  refine TL.p (C := cx) (gc := true) (p_mv rfl) rfl rfl ?_
  refine TL.nil ?_
  refine hK5 _ _ ?_
  refine TK.block ?_
  obtain ⟨o6, hO6, hA6⟩ := bind_some hX
  have E6 : ∀ (env : Env) (h : Hp), (∃ _u : Unit, keepE [] env = [] ∧ Nd [] ∧ HSub [] h) → X.slices_IndexFunc_LLbyte_Lbyte_e6 = some r → K4 env h := by
    intro  env h hE hX
    obtain ⟨_u, henv, nd, hs⟩ := hE
    unfold X.slices_IndexFunc_LLbyte_Lbyte_e6 at hX
    refine hK4 _ _ (TK.keep [] ?_)
    rw [henv]
    refine TK.subH hs ?_
    refine TK.seq_k fun K8 hK8 => ?_
    refine TK.reg ?_
    refine TL.p (C := cx) (gc := true) (p_mv rfl) rfl rfl ?_
    refine TL.nil ?_
    refine hK8 _ _ ?_
    refine TK.ret ?_
    try dsimp only [thenQ]
    exact ret1 (v := Enc.v (((-1) : Int) : Int)) rfl (by obtain rfl := some_in hX; rfl) (v_val _)
  refine TK.iter [0, 1, 7, 8] (fun s env h => match s with | x7 => ∃ _u : Unit, env = [(0, true, Enc.v (s1 : (List (List UInt8)))), (1, true, .fn g2f g2m g2c), (7, true, Enc.v ((s1.length : Int) : Int)), (8, true, Enc.v (x7 : Int))] ∧ Nd [] ∧ HSub [] h) hO6 ⟨(), rfl, Nd_nil, HSub.refl _⟩ ?_
  rintro x7 env h x6x ⟨_u, rfl, nd, hs⟩ hX hR6
  refine TK.subH hs ?_
  unfold X.slices_IndexFunc_LLbyte_Lbyte_s6 at hX
  try dsimp only at hX
  refine TK.seq_k fun K9 hK9 => ?_
  refine TK.reg ?_
  refine TL.p (C := cx) (gc := true) (p_lss rfl rfl) rfl rfl ?_
  refine TL.nil ?_
  refine hK9 _ _ ?_
  refine TK.seq_k fun K10 hK10 => ?_
  refine TK.cond (b := (decide (x7 < (s1.length : Int)))) rfl (fun hc => ?_) (fun hc => ?_)
  · have hX := ite_t hc hX
    refine TK.skip ?_
    refine hK10 _ _ ?_
    refine TK.seq_k fun K11 hK11 => ?_
    refine TK.block ?_
    refine TK.seq_k fun K12 hK12 => ?_
    refine TK.reg ?_
    refine TL.p (C := cx) (gc := true) (p_mv rfl) rfl rfl ?_
    refine TL.p (C := cx) (gc := true) (p_mv rfl) rfl rfl ?_
    refine TL.nil ?_
    refine hK12 _ _ ?_
    refine TK.seq_k fun K13 hK13 => ?_
    refine TK.reg ?_
    refine TL.p (C := cx) (gc := true) (p_mv rfl) rfl rfl ?_
    refine TL.p (C := cx) (gc := true) (p_mv rfl) rfl rfl ?_
    refine TL.p (C := cx) (gc := true) (p_mv rfl) rfl rfl ?_
    obtain ⟨e14, he14, hX⟩ := bind_some hX
    refine TL.p (C := cx) (gc := true) (p_iaL (xs := s1) kd22 ty23 rfl rfl rfl (fun _ => he14)) rfl rfl ?_
    refine TL.p (C := cx) (gc := true) (p_ldE (xs := s1) (a := e14) (e14 : (List UInt8)) ty23 rfl rfl (fun _ => he14) rfl rfl rfl) rfl rfl ?_
    obtain ⟨r15, hr15, hX⟩ := bind_some hX
    refine TL.cvX rfl rfl rfl (fun _ => ⟨rfl, ⟨rfl, trivial⟩⟩) (fun e => hg2 e14 _ hr15) ?_
    refine TL.nil ?_
    refine hK13 _ _ ?_
    refine TK.cond (b := r15) rfl (fun hc => ?_) (fun hc => ?_)
    · have hX := ite_t hc hX
      refine TK.seq_k fun K16 hK16 => ?_
      refine TK.reg ?_
      refine TL.p (C := cx) (gc := true) (p_mv rfl) rfl rfl ?_
      refine TL.p (C := cx) (gc := true) (p_mv rfl) rfl rfl ?_
      refine TL.nil ?_
      refine hK16 _ _ ?_
      refine TK.ret ?_
      obtain rfl := hR6 _ (some_in hX).symm
      replace hX := hA6
      try dsimp only [thenQ]
      exact ret1 (v := Enc.v (x7 : Int)) rfl (by obtain rfl := some_in hX; rfl) (v_val _)
    · have hX := ite_f hc hX
      refine TK.skip ?_
      refine hK11 _ _ ?_
      refine TK.reg ?_
      refine TL.p (C := cx) (gc := true) (p_add rfl rfl) rfl rfl ?_
      refine TL.p (C := cx) (gc := true) (p_mv rfl) rfl rfl ?_
      refine TL.nil ?_
      exact ⟨_, (some_in hX).symm, (), rfl, Nd_nil, HSub.refl _⟩
  · have hX := ite_f hc hX
    refine TK.exit ?_
    obtain rfl := hR6 _ (some_in hX).symm
    exact E6 _ _ ⟨(), rfl, Nd_nil, HSub.refl _⟩ hA6

/-- slices.ContainsFunc[[][]byte,[]byte] -/
theorem ok_slices_ContainsFunc_LLbyte_Lbyte (s1 : (List (List UInt8))) (g2 : (List UInt8) → Option Bool) (r : Bool) (hX : X.slices_ContainsFunc_LLbyte_Lbyte s1 g2 = some r) {g2V : AV} (hg2V : ∃ f m c, g2V = .fn f m c ∧ (∀ i, i < m → (c i).val) ∧ ∀ (a0 : (List UInt8)) r, g2 a0 = some r → Fun Try.prog f ([Enc.v a0] ++ (List.range m).map c) (· = Enc.v r)) : Fun Try.prog 68 [Enc.v (s1 : (List (List UInt8))), g2V] (· = Enc.v (r : Bool)) := by
  obtain ⟨g2f, g2m, g2c, rfl, hg2v, hg2⟩ := hg2V
  refine Fun.of b68 (Nat.le_of_ble_eq_true rfl) (allVal.mem ⟨(by exact (v_val _)), hg2v, trivial⟩) ?_
  unfold k68
  have nd : Nd [] := Nd_nil
  unfold X.slices_ContainsFunc_LLbyte_Lbyte at hX
  refine TK.seq_k fun K3 hK3 => ?_
  refine TK.reg ?_
  refine TL.p (C := cx) (gc := true) (p_mv rfl) rfl rfl ?_
  refine TL.nil ?_
  refine hK3 _ _ ?_
  refine TK.seq_k fun K4 hK4 => ?_
  refine TK.reg ?_
  refine TL.p (C := cx) (gc := true) (p_mv rfl) rfl rfl ?_
  refine TL.p (C := cx) (gc := true) (p_mv rfl) rfl rfl ?_
  obtain ⟨r5, hr5, hX⟩ := bind_some hX
  refine TL.cvX rfl rfl rfl (fun _ => ⟨rfl, ⟨rfl, ⟨rfl, trivial⟩⟩⟩) (fun e => ok_slices_IndexFunc_LLbyte_Lbyte s1 g2 _ hr5 ⟨_, _, _, rfl, hg2v, hg2⟩) ?_
  refine TL.p (C := cx) (gc := true) (p_geq rfl rfl) rfl rfl ?_
  refine TL.p (C := cx) (gc := true) (p_mv rfl) rfl rfl ?_
  refine TL.nil ?_
  refine hK4 _ _ ?_
  refine TK.ret ?_
  try dsimp only [thenQ]
  exact ret1 (v := Enc.v ((decide (r5 ≥ (0 : Int))) : Bool)) rfl (by obtain rfl := some_in hX; rfl) (v_val _)

/-- cartridge/matrix.Right$1 -/
theorem ok_matrix_Right_c1 (r1 : (List UInt8)) (c2 : (List (List UInt8))) (r : Bool) (hX : X.matrix_Right_c1 r1 c2 = some r) : Fun Try.prog 73 [Enc.v (r1 : (List UInt8)), .vref (ofL [Enc.v (c2 : (List (List UInt8)))]) 1 0] (· = Enc.v (r : Bool)) := by
  refine Fun.of b73 (Nat.le_of_ble_eq_true rfl) (allVal.mem ⟨(by exact (v_val _)), (by exact (vref_val (l := [Enc.v (c2 : (List (List UInt8)))]) rfl ⟨(v_val _), trivial⟩)), trivial⟩) ?_
  unfold k73
  have nd : Nd [] := Nd_nil
  unfold X.matrix_Right_c1 at hX
  refine TK.seq_k fun K3 hK3 => ?_
  refine TK.reg ?_
  refine TL.p (C := cx) (gc := true) (p_mv rfl) rfl rfl ?_
  refine TL.nil ?_
  refine hK3 _ _ ?_
  refine TK.seq_k fun K4 hK4 => ?_
  refine TK.reg ?_
  refine TL.p (C := cx) (gc := true) (p_mv rfl) rfl rfl ?_
  refine TL.p (C := cx) (gc := true) (p_lenL (xs := r1) kd23 rfl) rfl rfl ?_
  refine TL.p (C := cx) (gc := true) (p_ldR (v := Enc.v (c2 : (List (List UInt8)))) ty22 rfl rfl rfl rfl rfl rfl) rfl rfl ?_
  obtain ⟨e5, he5, hX⟩ := bind_some hX
  refine TL.p (C := cx) (gc := true) (p_iaL (xs := c2) kd22 ty23 rfl rfl rfl (fun _ => he5)) rfl rfl ?_
  refine TL.p (C := cx) (gc := true) (p_ldE (xs := c2) (a := e5) (e5 : (List UInt8)) ty23 rfl rfl (fun _ => he5) rfl rfl rfl) rfl rfl ?_
  refine TL.p (C := cx) (gc := true) (p_lenL (xs := e5) kd23 rfl) rfl rfl ?_
  refine TL.p (C := cx) (gc := true) (p_neq rfl rfl) rfl rfl ?_
  refine TL.p (C := cx) (gc := true) (p_mv rfl) rfl rfl ?_
  refine TL.nil ?_
  refine hK4 _ _ ?_
  refine TK.ret ?_
  try dsimp only [thenQ]
  exact ret1 (v := Enc.v (((r1.length : Int) != (e5.length : Int)) : Bool)) rfl (by obtain rfl := some_in hX; rfl) (v_val _)

/-- cartridge/matrix.Right -/
theorem ok_matrix_Right (m1 : (List (List UInt8))) (r : Bool) (hX : X.matrix_Right m1 = some r) : Fun Try.prog 36 [Enc.v (m1 : (List (List UInt8)))] (· = Enc.v (r : Bool)) := by
  refine Fun.of b36 (Nat.le_of_ble_eq_true rfl) (allVal.mem ⟨(by exact (v_val _)), trivial⟩) ?_
  unfold k36
  have nd : Nd [] := Nd_nil
  unfold X.matrix_Right at hX
  refine TK.seq_k fun K2 hK2 => ?_
  refine TK.reg ?_
  refine TL.boxV (C := cx) (lu := [Enc.v (m1 : (List (List UInt8)))]) nd rfl (Cells_v (m1 : (List (List UInt8)))) rfl ?_
  refine TL.p (C := cx) (gc := true) (p_mv rfl) rfl rfl ?_
  refine TL.nil ?_
  refine hK2 _ _ ?_
  refine TK.seq_k fun K3 hK3 => ?_
  refine TK.seq_k fun K4 hK4 => ?_
  refine TK.reg ?_
  refine TL.p (C := cx) (gc := true) (p_ldR (v := Enc.v (m1 : (List (List UInt8)))) ty22 rfl rfl rfl rfl rfl rfl) rfl rfl ?_
  refine TL.p (C := cx) (gc := true) (p_lenL (xs := m1) kd22 rfl) rfl rfl ?_
  refine TL.p (C := cx) (gc := true) (p_lss rfl rfl) rfl rfl ?_
  refine TL.p (C := cx) (gc := true) (p_mv rfl) rfl rfl ?_
  refine TL.p (C := cx) (gc := (!((decide ((m1.length : Int) < (1 : Int)))))) (p_ldR (v := Enc.v (m1 : (List (List UInt8)))) ty22 rfl rfl rfl rfl rfl rfl (hg := fun e => rfl)) (gcF1 rfl) rfl ?_
  refine TL.p (C := cx) (gc := (!((decide ((m1.length : Int) < (1 : Int)))))) (p_lenL (xs := m1) kd22 rfl (hg := fun e => e)) (gcF1 rfl) rfl ?_
  refine TL.p (C := cx) (gc := (!((decide ((m1.length : Int) < (1 : Int)))))) (p_gtr rfl rfl (hg := fun e => ⟨e, rfl⟩)) (gcF1 rfl) rfl ?_
  refine TL.p (C := cx) (gc := true) (p_or rfl rfl (fun e => ⟨rfl, fun h => (not_t h)⟩)) rfl rfl ?_
  refine TL.p (C := cx) (gc := true) (p_mv rfl) rfl rfl ?_
  refine TL.p (C := cx) (gc := (!(((decide ((m1.length : Int) < (1 : Int))) || (decide ((m1.length : Int) > (255 : Int))))))) (p_ldR (v := Enc.v (m1 : (List (List UInt8)))) ty22 rfl rfl rfl rfl rfl rfl (hg := fun e => rfl)) (gcF1 rfl) rfl ?_
  obtain ⟨e5, he5, hX⟩ := bind_some hX
  refine TL.p (C := cx) (gc := (!(((decide ((m1.length : Int) < (1 : Int))) || (decide ((m1.length : Int) > (255 : Int))))))) (p_iaL (xs := m1) kd22 ty23 rfl rfl rfl (fun e => optG_t he5 e) (hg := fun e => ⟨e, rfl⟩)) (gcF1 rfl) rfl ?_
  refine TL.p (C := cx) (gc := (!(((decide ((m1.length : Int) < (1 : Int))) || (decide ((m1.length : Int) > (255 : Int))))))) (p_ldE (xs := m1) (a := e5) (e5 : (List UInt8)) ty23 rfl rfl (fun e => optG_t he5 e) rfl rfl rfl (hg := fun e => e)) (gcF1 rfl) rfl ?_
  refine TL.p (C := cx) (gc := (!(((decide ((m1.length : Int) < (1 : Int))) || (decide ((m1.length : Int) > (255 : Int))))))) (p_lenL (xs := e5) kd23 rfl (hg := fun e => e)) (gcF1 rfl) rfl ?_
  refine TL.p (C := cx) (gc := (!(((decide ((m1.length : Int) < (1 : Int))) || (decide ((m1.length : Int) > (255 : Int))))))) (p_lss rfl rfl (hg := fun e => ⟨e, rfl⟩)) (gcF1 rfl) rfl ?_
  refine TL.p (C := cx) (gc := true) (p_or rfl rfl (fun e => ⟨rfl, fun h => (not_t h)⟩)) rfl rfl ?_
  refine TL.p (C := cx) (gc := true) (p_mv rfl) rfl rfl ?_
  refine TL.p (C := cx) (gc := (!((((decide ((m1.length : Int) < (1 : Int))) || (decide ((m1.length : Int) > (255 : Int)))) || (decide ((e5.length : Int) < (1 : Int))))))) (p_ldR (v := Enc.v (m1 : (List (List UInt8)))) ty22 rfl rfl rfl rfl rfl rfl (hg := fun e => rfl)) (gcF1 rfl) rfl ?_
  obtain ⟨e6, he6, hX⟩ := bind_some hX
  refine TL.p (C := cx) (gc := (!((((decide ((m1.length : Int) < (1 : Int))) || (decide ((m1.length : Int) > (255 : Int)))) || (decide ((e5.length : Int) < (1 : Int))))))) (p_iaL (xs := m1) kd22 ty23 rfl rfl rfl (fun e => optG_t he6 e) (hg := fun e => ⟨e, rfl⟩)) (gcF1 rfl) rfl ?_
  refine TL.p (C := cx) (gc := (!((((decide ((m1.length : Int) < (1 : Int))) || (decide ((m1.length : Int) > (255 : Int)))) || (decide ((e5.length : Int) < (1 : Int))))))) (p_ldE (xs := m1) (a := e6) (e6 : (List UInt8)) ty23 rfl rfl (fun e => optG_t he6 e) rfl rfl rfl (hg := fun e => e)) (gcF1 rfl) rfl ?_
  refine TL.p (C := cx) (gc := (!((((decide ((m1.length : Int) < (1 : Int))) || (decide ((m1.length : Int) > (255 : Int)))) || (decide ((e5.length : Int) < (1 : Int))))))) (p_lenL (xs := e6) kd23 rfl (hg := fun e => e)) (gcF1 rfl) rfl ?_
  refine TL.p (C := cx) (gc := (!((((decide ((m1.length : Int) < (1 : Int))) || (decide ((m1.length : Int) > (255 : Int)))) || (decide ((e5.length : Int) < (1 : Int))))))) (p_gtr rfl rfl (hg := fun e => ⟨e, rfl⟩)) (gcF1 rfl) rfl ?_
  refine TL.p (C := cx) (gc := true) (p_or rfl rfl (fun e => ⟨rfl, fun h => (not_t h)⟩)) rfl rfl ?_
  refine TL.nil ?_
  refine hK4 _ _ ?_
  refine TK.cond (b := ((((decide ((m1.length : Int) < (1 : Int))) || (decide ((m1.length : Int) > (255 : Int)))) || (decide ((e5.length : Int) < (1 : Int)))) || (decide ((e6.length : Int) > (255 : Int))))) rfl (fun hc => ?_) (fun hc => ?_)
  · have hX := ite_t hc hX
    refine TK.seq_k fun K7 hK7 => ?_
    refine TK.reg ?_
    refine TL.p (C := cx) (gc := true) (p_mv rfl) rfl rfl ?_
    refine TL.nil ?_
    refine hK7 _ _ ?_
    refine TK.ret ?_
    try dsimp only [thenQ]
    exact ret1 (v := Enc.v (false : Bool)) rfl (by obtain rfl := some_in hX; rfl) (v_val _)
  · have hX := ite_f hc hX
    refine TK.skip ?_
    refine hK3 _ _ ?_
    refine TK.seq_k fun K8 hK8 => ?_
    refine TK.reg ?_
    refine TL.p (C := cx) (gc := true) (p_ldR (v := Enc.v (m1 : (List (List UInt8)))) ty22 rfl rfl rfl rfl rfl rfl) rfl rfl ?_
    refine TL.p (C := cx) (gc := true) (p_mf (l := [.vref (ofL [Enc.v (m1 : (List (List UInt8)))]) 1 0]) rfl (fun _ => ⟨rfl, trivial⟩)) rfl rfl ?_
    obtain ⟨r9, hr9, hX⟩ := bind_some hX
    refine TL.cvX rfl rfl rfl (fun _ => ⟨rfl, ⟨rfl, ⟨rfl, trivial⟩⟩⟩) (fun e => ok_slices_ContainsFunc_LLbyte_Lbyte m1 (fun a1 => X.matrix_Right_c1 a1 m1) _ hr9 ⟨73, 1, ofL [.vref (ofL [Enc.v (m1 : (List (List UInt8)))]) 1 0], rfl, (caps_val rfl ⟨(vref_val rfl ⟨v_val _, trivial⟩), trivial⟩), fun a1 r hr => ok_matrix_Right_c1 a1 m1 r hr⟩) ?_
    refine TL.p (C := cx) (gc := true) (p_not rfl) rfl rfl ?_
    refine TL.p (C := cx) (gc := true) (p_mv rfl) rfl rfl ?_
    refine TL.nil ?_
    refine hK8 _ _ ?_
    refine TK.ret ?_
    try dsimp only [thenQ]
    exact ret1 (v := Enc.v ((!r9) : Bool)) rfl (by obtain rfl := some_in hX; rfl) (v_val _)

/-- slices.Grow[[]byte,byte] -/
theorem ok_slices_Grow_Lbyte_byte_nil (n1 : Int) (nd : Nd []) (r : (List UInt8)) (hX : X.slices_Grow_Lbyte_byte_nil n1 = some r) : TCX Try.prog 110 [.nils, Enc.v (n1 : Int)] [] (fun rv h' => ∃ b18, rv = OL (α := UInt8) b18 r ∧ h' = [(b18, RL (α := UInt8) 5 r)]) := by
  refine TCX.of b110 (Nat.le_of_ble_eq_true rfl) ?_
  unfold k110
  unfold X.slices_Grow_Lbyte_byte_nil at hX
  refine TK.seq_k fun K2 hK2 => ?_
  refine TK.reg ?_
  refine TL.p (C := cx) (gc := true) (p_mv rfl) rfl rfl ?_
  refine TL.nil ?_
  refine hK2 _ _ ?_
  refine TK.seq_k fun K3 hK3 => ?_
  refine TK.seq_k fun K4 hK4 => ?_
  refine TK.reg ?_
  refine TL.p (C := cx) (gc := true) (p_mv rfl) rfl rfl ?_
  refine TL.p (C := cx) (gc := true) (p_lss rfl rfl) rfl rfl ?_
  refine TL.nil ?_
  refine hK4 _ _ ?_
  refine TK.cond (b := (decide (n1 < (0 : Int)))) rfl (fun hc => ?_) (fun hc => ?_)
  · have hX := ite_t hc hX
    refine TK.reg ?_
    cases hX
  · have hX := ite_f hc hX
    refine TK.skip ?_
    refine hK3 _ _ ?_
    refine TK.seq_k fun K5 hK5 => ?_
    have J5 : ∀ (l9 : List UInt8) (env : Env) (h : Hp), (∃ b8, keepE [0] env = [(0, true, OL (α := UInt8) b8 l9)] ∧ Nd [(b8, RL (α := UInt8) 5 l9)] ∧ HSub [(b8, RL (α := UInt8) 5 l9)] h) → X.slices_Grow_Lbyte_byte_nil_j5 l9 = some r → K5 env h := by
      intro l9 env h hE hX
      obtain ⟨b8, henv, nd, hs⟩ := hE
      unfold X.slices_Grow_Lbyte_byte_nil_j5 at hX
      refine hK5 _ _ (TK.keep [0] ?_)
      rw [henv]
      refine TK.subH hs ?_
      refine TK.seq_k fun K10 hK10 => ?_
      refine TK.reg ?_
      refine TL.p (C := cx) (gc := true) (p_mv rfl) rfl rfl ?_
      refine TL.p (C := cx) (gc := true) (p_mv rfl) rfl rfl ?_
      refine TL.nil ?_
      refine hK10 _ _ ?_
      refine TK.ret ?_
      try dsimp only [thenQ]
      exact retX (v := OL (α := UInt8) b8 l9) (res1 rfl) (by obtain rfl := some_in hX; exact ⟨b8, rfl, rfl⟩) nd (inH_rs nd (j := 0) rfl) ⟨rowIn_RL, trivial⟩
    refine TK.seq_k fun K11 hK11 => ?_
    refine TK.reg ?_
    refine TL.p (C := cx) (gc := true) (p_mv rfl) rfl rfl ?_
    refine TL.p (C := cx) (gc := true) (p_mv rfl) rfl rfl ?_
    refine TL.ofV (gc := true) (vok_cap0 (C := cx) (gc := true) kd23 rfl (.inl rfl)) rfl rfl ?_
    refine TL.p (C := cx) (gc := true) (p_mv rfl) rfl rfl ?_
    refine TL.p (C := cx) (gc := true) (p_lenN kd23 rfl) rfl rfl ?_
    refine TL.p (C := cx) (gc := true) (p_sub rfl rfl) rfl rfl ?_
    refine TL.p (C := cx) (gc := true) (p_sub rfl rfl) rfl rfl ?_
    refine TL.p (C := cx) (gc := true) (p_mv rfl) rfl rfl ?_
    refine TL.nil ?_
    refine hK11 _ _ ?_
    refine TK.seq_k fun K12 hK12 => ?_
    refine TK.reg ?_
    refine TL.p (C := cx) (gc := true) (p_mv rfl) rfl rfl ?_
    refine TL.p (C := cx) (gc := true) (p_gtr rfl rfl) rfl rfl ?_
    refine TL.nil ?_
    refine hK12 _ _ ?_
    refine TK.cond (b := (decide ((wr (n1 - (wr ((0 : Int) - (0 : Int))))) > (0 : Int)))) rfl (fun hc => ?_) (fun hc => ?_)
    · have hX := ite_t hc hX
      refine TK.reg ?_
      refine TL.p (C := cx) (gc := true) (p_mv rfl) rfl rfl ?_
      refine TL.p (C := cx) (gc := true) (p_mv rfl) rfl rfl ?_
      refine TL.ofV (gc := true) (vok_cap0 (C := cx) (gc := true) kd23 rfl (.inl rfl)) rfl rfl ?_
      refine TL.p (C := cx) (gc := true) (p_sliN (C := cx) kd23 ty5 rfl rfl rfl) rfl rfl ?_
      refine TL.p (C := cx) (gc := true) (p_mv rfl) rfl rfl ?_
      obtain ⟨u13, hu13, hX⟩ := bind_some hX
      refine TL.appNZ (C := cx) nd (0 : UInt8) kd23 kd3 ty5 rfl (fun j hj => by (have : j = 0 := by simpa [Enc.sz] using hj); subst this; rfl) rfl (.inl rfl) rfl (need_t hu13).1 (by decide) (need_t hu13).2 rfl fun b14 nd => ?_
      refine TL.p (C := cx) (gc := true) (p_mv rfl) rfl rfl ?_
      refine TL.p (C := cx) (gc := true) (p_lenN kd23 rfl) rfl rfl ?_
      obtain ⟨u15, hu15, hX⟩ := bind_some hX
      refine TL.p (C := cx) (gc := true) (p_sliO (xs := (List.replicate (wr (n1 - (wr ((0 : Int) - (0 : Int))))).toNat (0 : UInt8))) (l := (0 : Int)) (k := (0 : Int)) kd23 ty5 rfl rfl nd (j := 0) rfl rfl rfl (fun e => need_t hu15)) rfl rfl ?_
      refine TL.p (C := cx) (gc := true) (p_mv rfl) rfl rfl ?_
      refine TL.cutX (xs := (List.replicate (wr (n1 - (wr ((0 : Int) - (0 : Int))))).toNat (0 : UInt8))) (k := (0 : Int)) 0 nd (j := 0) rfl rfl (by have := (need_t hu15).1; omega) fun b16 nd => ?_
      refine TL.nil ?_
      exact J5 (slc (List.replicate (wr (n1 - (wr ((0 : Int) - (0 : Int))))).toNat (0 : UInt8)) (0 : Int) (0 : Int)) _ _ ⟨b16, rfl, (Nd.pick nd (is := [0]) (by decide)), (HSub.pick nd (is := [0]) (by decide))⟩ hX
    · have hX := ite_f hc hX
      refine TK.ownL (α := UInt8) 0 5 nd rfl (.inl rfl) fun b17 nd => ?_
      refine TK.skip ?_
      exact J5 ([] : List UInt8) _ _ ⟨b17, rfl, (Nd.pick nd (is := [0]) (by decide)), (HSub.pick nd (is := [0]) (by decide))⟩ hX

/-- slices.Concat[[]byte,byte] -/
theorem ok_slices_Concat_Lbyte_byte (slices1 : (List (List UInt8))) (r : (List UInt8)) (hX : X.slices_Concat_Lbyte_byte slices1 = some r) : Fun Try.prog 96 [Enc.v (slices1 : (List (List UInt8)))] (· = Enc.v (r : (List UInt8))) := by
  refine Fun.of b96 (Nat.le_of_ble_eq_true rfl) (allVal.mem ⟨(by exact (v_val _)), trivial⟩) ?_
  unfold k96
  have nd : Nd [] := Nd_nil
  unfold X.slices_Concat_Lbyte_byte at hX
  refine TK.seq_k fun K2 hK2 => ?_
  refine TK.reg ?_
  refine TL.p (C := cx) (gc := true) (p_mv rfl) rfl rfl ?_
  refine TL.nil ?_
  refine hK2 _ _ ?_
  refine TK.seq_k fun K3 hK3 => ?_
  refine TK.reg ?_
  refine TL.p (C := cx) (gc := true) (p_mv rfl) rfl rfl ?_
  refine TL.nil ?_
  refine hK3 _ _ ?_
  refine TK.seq_k fun K4 hK4 => ?_
  refine TK.seq_k fun K5 hK5 => ?_
  refine TK.reg ?_
  refine TL.p (C := cx) (gc := true) (p_mv rfl) rfl rfl ?_
  refine TL.p (C := cx) (gc := true) (p_lenL (xs := slices1) kd22 rfl) rfl rfl ?_
  refine TL.p (C := cx) (gc := true) (p_mv rfl) rfl rfl ?_
  refine TL.nil ?_
  refine hK5 _ _ ?_
  refine TK.block ?_
  obtain ⟨o6, hO6, hA6⟩ := bind_some hX
  have E6 : ∀ (size9 : Int) (env : Env) (h : Hp), (∃ _u : Unit, keepE [0, 3] env = [(0, true, Enc.v (slices1 : (List (List UInt8)))), (3, true, Enc.v (size9 : Int))] ∧ Nd [] ∧ HSub [] h) → X.slices_Concat_Lbyte_byte_e6 slices1 size9 = some r → K4 env h := by
    intro size9 env h hE hX
    obtain ⟨_u, henv, nd, hs⟩ := hE
    unfold X.slices_Concat_Lbyte_byte_e6 at hX
    refine hK4 _ _ (TK.keep [0, 3] ?_)
    rw [henv]
    refine TK.subH hs ?_
    refine TK.seq_k fun K10 hK10 => ?_
    refine TK.reg ?_
    refine TL.p (C := cx) (gc := true) (p_mv rfl) rfl rfl ?_
    obtain ⟨r11, hr11, hX⟩ := bind_some hX
    refine TL.tcX [] [] rfl nd (dlt rfl) rfl ⟨rfl, ⟨rfl, ⟨rfl, trivial⟩⟩⟩ (ok_slices_Grow_Lbyte_byte_nil size9 (Nd.take nd 0 rfl) _ hr11) ?_
    rintro _ _ hQ nd
    obtain ⟨b12, rfl, rfl⟩ := hQ
    refine TL.p (C := cx) (gc := true) (p_mv rfl) rfl rfl ?_
    refine TL.nil ?_
    refine hK10 _ _ ?_
    refine TK.seq_k fun K13 hK13 => ?_
    refine TK.seq_k fun K14 hK14 => ?_
    refine TK.reg ?_
    refine TL.p (C := cx) (gc := true) (p_mv rfl) rfl rfl ?_
    refine TL.p (C := cx) (gc := true) (p_lenL (xs := slices1) kd22 rfl) rfl rfl ?_
    refine TL.p (C := cx) (gc := true) (p_mv rfl) rfl rfl ?_
    refine TL.nil ?_
    refine hK14 _ _ ?_
    refine TK.block ?_
    obtain ⟨o15, hO15, hA15⟩ := bind_some hX
    have E15 : ∀ (l20 : List UInt8) (env : Env) (h : Hp), (∃ b19, keepE [6] env = [(6, true, OL (α := UInt8) b19 l20)] ∧ Nd [(b19, RL (α := UInt8) 5 l20)] ∧ HSub [(b19, RL (α := UInt8) 5 l20)] h) → X.slices_Concat_Lbyte_byte_e15 l20 = some r → K13 env h := by
      intro l20 env h hE hX
      obtain ⟨b19, henv, nd, hs⟩ := hE
      unfold X.slices_Concat_Lbyte_byte_e15 at hX
      refine hK13 _ _ (TK.keep [6] ?_)
      rw [henv]
      refine TK.subH hs ?_
      refine TK.seq_k fun K21 hK21 => ?_
      refine TK.reg ?_
      refine TL.p (C := cx) (gc := true) (p_mv rfl) rfl rfl ?_
      refine TL.p (C := cx) (gc := true) (p_mv rfl) rfl rfl ?_
      refine TL.nil ?_
      refine hK21 _ _ ?_
      refine TK.lay [(2, L l20)] nd (j := 0) rfl ⟨⟨_, rfl, fix_OL nd (j := 0) rfl, rfl⟩, trivial⟩ fun nd => ?_
      refine TK.ret ?_
      try dsimp only [thenQ]
      exact ret1 (v := Enc.v (l20 : (List UInt8))) rfl (by obtain rfl := some_in hX; rfl) (v_val _)
    refine TK.iter [6, 25, 26, 27] (fun s env h => match s with | (newslice17, x18) => ∃ b16, env = [(6, true, OL (α := UInt8) b16 newslice17), (25, true, Enc.v (slices1 : (List (List UInt8)))), (26, true, Enc.v ((slices1.length : Int) : Int)), (27, true, Enc.v (x18 : Int))] ∧ Nd [(b16, RL (α := UInt8) 5 newslice17)] ∧ HSub [(b16, RL (α := UInt8) 5 newslice17)] h) hO15 ⟨b12, rfl, (Nd.pick nd (is := [0]) (by decide)), (HSub.pick nd (is := [0]) (by decide))⟩ ?_
    rintro ⟨newslice17, x18⟩ env h x15x ⟨b16, rfl, nd, hs⟩ hX hR15
    refine TK.subH hs ?_
    unfold X.slices_Concat_Lbyte_byte_s15 at hX
    try dsimp only at hX
    refine TK.seq_k fun K22 hK22 => ?_
    refine TK.reg ?_
    refine TL.p (C := cx) (gc := true) (p_lss rfl rfl) rfl rfl ?_
    refine TL.nil ?_
    refine hK22 _ _ ?_
    refine TK.seq_k fun K23 hK23 => ?_
    refine TK.cond (b := (decide (x18 < (slices1.length : Int)))) rfl (fun hc => ?_) (fun hc => ?_)
    · have hX := ite_t hc hX
      refine TK.skip ?_
      refine hK23 _ _ ?_
      refine TK.seq_k fun K24 hK24 => ?_
      refine TK.block ?_
      refine TK.seq_k fun K25 hK25 => ?_
      refine TK.reg ?_
      obtain ⟨e26, he26, hX⟩ := bind_some hX
      refine TL.p (C := cx) (gc := true) (p_iaL (xs := slices1) kd22 ty23 rfl rfl rfl (fun _ => he26)) rfl rfl ?_
      refine TL.p (C := cx) (gc := true) (p_ldE (xs := slices1) (a := e26) (e26 : (List UInt8)) ty23 rfl rfl (fun _ => he26) rfl rfl rfl) rfl rfl ?_
      refine TL.p (C := cx) (gc := true) (p_mv rfl) rfl rfl ?_
      refine TL.nil ?_
      refine hK25 _ _ ?_
      refine TK.reg ?_
      refine TL.p (C := cx) (gc := true) (p_mv rfl) rfl rfl ?_
      refine TL.p (C := cx) (gc := true) (p_mv rfl) rfl rfl ?_
      obtain ⟨u27, hu27, hX⟩ := bind_some hX
      refine TL.appO (C := cx) nd kd23 bo23 ty5 rfl rfl (j := 0) rfl rfl (Src_L _) (by decide) (need_t hu27) rfl fun nd => ?_
      refine TL.p (C := cx) (gc := true) (p_mv rfl) rfl rfl ?_
      refine TL.nil ?_
      refine hK24 _ _ ?_
      refine TK.reg ?_
      refine TL.p (C := cx) (gc := true) (p_add rfl rfl) rfl rfl ?_
      refine TL.p (C := cx) (gc := true) (p_mv rfl) rfl rfl ?_
      refine TL.nil ?_
      exact ⟨_, (some_in hX).symm, b16, rfl, (Nd.pick nd (is := [0]) (by decide)), (HSub.pick nd (is := [0]) (by decide))⟩
    · have hX := ite_f hc hX
      refine TK.exit ?_
      obtain rfl := hR15 _ (some_in hX).symm
      exact E15 newslice17 _ _ ⟨b16, rfl, (Nd.pick nd (is := [0]) (by decide)), (HSub.pick nd (is := [0]) (by decide))⟩ hA15
  refine TK.iter [0, 3, 9, 10, 11] (fun s env h => match s with | (size7, x8) => ∃ _u : Unit, env = [(0, true, Enc.v (slices1 : (List (List UInt8)))), (3, true, Enc.v (size7 : Int)), (9, true, Enc.v (slices1 : (List (List UInt8)))), (10, true, Enc.v ((slices1.length : Int) : Int)), (11, true, Enc.v (x8 : Int))] ∧ Nd [] ∧ HSub [] h) hO6 ⟨(), rfl, Nd_nil, HSub.refl _⟩ ?_
  rintro ⟨size7, x8⟩ env h x6x ⟨_u, rfl, nd, hs⟩ hX hR6
  refine TK.subH hs ?_
  unfold X.slices_Concat_Lbyte_byte_s6 at hX
  try dsimp only at hX
  refine TK.seq_k fun K28 hK28 => ?_
  refine TK.reg ?_
  refine TL.p (C := cx) (gc := true) (p_lss rfl rfl) rfl rfl ?_
  refine TL.nil ?_
  refine hK28 _ _ ?_
  refine TK.seq_k fun K29 hK29 => ?_
  refine TK.cond (b := (decide (x8 < (slices1.length : Int)))) rfl (fun hc => ?_) (fun hc => ?_)
  · have hX := ite_t hc hX
    refine TK.skip ?_
    refine hK29 _ _ ?_
    refine TK.seq_k fun K30 hK30 => ?_
    refine TK.block ?_
    refine TK.seq_k fun K31 hK31 => ?_
    refine TK.reg ?_
    obtain ⟨e32, he32, hX⟩ := bind_some hX
    refine TL.p (C := cx) (gc := true) (p_iaL (xs := slices1) kd22 ty23 rfl rfl rfl (fun _ => he32)) rfl rfl ?_
    refine TL.p (C := cx) (gc := true) (p_ldE (xs := slices1) (a := e32) (e32 : (List UInt8)) ty23 rfl rfl (fun _ => he32) rfl rfl rfl) rfl rfl ?_
    refine TL.p (C := cx) (gc := true) (p_mv rfl) rfl rfl ?_
    refine TL.nil ?_
    refine hK31 _ _ ?_
    refine TK.seq_k fun K33 hK33 => ?_
    refine TK.reg ?_
    refine TL.p (C := cx) (gc := true) (p_mv rfl) rfl rfl ?_
    refine TL.p (C := cx) (gc := true) (p_mv rfl) rfl rfl ?_
    refine TL.p (C := cx) (gc := true) (p_lenL (xs := e32) kd23 rfl) rfl rfl ?_
    refine TL.p (C := cx) (gc := true) (p_add rfl rfl) rfl rfl ?_
    refine TL.p (C := cx) (gc := true) (p_mv rfl) rfl rfl ?_
    refine TL.nil ?_
    refine hK33 _ _ ?_
    refine TK.seq_k fun K34 hK34 => ?_
    refine TK.reg ?_
    refine TL.p (C := cx) (gc := true) (p_mv rfl) rfl rfl ?_
    refine TL.p (C := cx) (gc := true) (p_lss rfl rfl) rfl rfl ?_
    refine TL.nil ?_
    refine hK34 _ _ ?_
    refine TK.cond (b := (decide ((wr (size7 + (e32.length : Int))) < (0 : Int)))) rfl (fun hc => ?_) (fun hc => ?_)
    · have hX := ite_t hc hX
      refine TK.reg ?_
      cases hX
    · have hX := ite_f hc hX
      refine TK.skip ?_
      refine hK30 _ _ ?_
      refine TK.reg ?_
      refine TL.p (C := cx) (gc := true) (p_add rfl rfl) rfl rfl ?_
      refine TL.p (C := cx) (gc := true) (p_mv rfl) rfl rfl ?_
      refine TL.nil ?_
      exact ⟨_, (some_in hX).symm, (), rfl, Nd_nil, HSub.refl _⟩
  · have hX := ite_f hc hX
    refine TK.exit ?_
    obtain rfl := hR6 _ (some_in hX).symm
    exact E6 size7 _ _ ⟨(), rfl, Nd_nil, HSub.refl _⟩ hA6

/-- cartridge/matrix.beside -/
theorem ok_matrix_beside (m1 : (List (List UInt8))) (nd : Nd []) (r : (List (List UInt8))) (hX : X.matrix_beside m1 = some r) : TCX Try.prog 59 [Enc.v (m1 : (List (List UInt8)))] [] (fun rv h' => ∃ b26, rv = OL (α := (List UInt8)) b26 r ∧ h' = [(b26, RL (α := (List UInt8)) 23 r)]) := by
  refine TCX.of b59 (Nat.le_of_ble_eq_true rfl) ?_
  unfold k59
  unfold X.matrix_beside at hX
  refine TK.seq_k fun K2 hK2 => ?_
  refine TK.reg ?_
  refine TL.p (C := cx) (gc := true) (p_mv rfl) rfl rfl ?_
  refine TL.nil ?_
  refine hK2 _ _ ?_
  refine TK.seq_k fun K3 hK3 => ?_
  refine TK.reg ?_
  refine TL.p (C := cx) (gc := true) (p_mv rfl) rfl rfl ?_
  refine TL.nil ?_
  refine hK3 _ _ ?_
  refine TK.ownL (α := (List UInt8)) 3 23 nd rfl (.inl rfl) fun b4 nd => ?_
  refine TK.seq_k fun K5 hK5 => ?_
  refine TK.seq_k fun K6 hK6 => ?_
  refine TK.reg ?_
  refine TL.p (C := cx) (gc := true) (p_mv rfl) rfl rfl ?_
  refine TL.p (C := cx) (gc := true) (p_lenL (xs := m1) kd22 rfl) rfl rfl ?_
  refine TL.p (C := cx) (gc := true) (p_mv rfl) rfl rfl ?_
  refine TL.nil ?_
  refine hK6 _ _ ?_
  refine TK.block ?_
  obtain ⟨o7, hO7, hA7⟩ := bind_some hX
  have E7 : ∀ (l12 : List (List UInt8)) (env : Env) (h : Hp), (∃ b11, keepE [3] env = [(3, true, OL (α := (List UInt8)) b11 l12)] ∧ Nd [(b11, RL (α := (List UInt8)) 23 l12)] ∧ HSub [(b11, RL (α := (List UInt8)) 23 l12)] h) → X.matrix_beside_e7 l12 = some r → K5 env h := by
    intro l12 env h hE hX
    obtain ⟨b11, henv, nd, hs⟩ := hE
    unfold X.matrix_beside_e7 at hX
    refine hK5 _ _ (TK.keep [3] ?_)
    rw [henv]
    refine TK.subH hs ?_
    refine TK.seq_k fun K13 hK13 => ?_
    refine TK.reg ?_
    refine TL.p (C := cx) (gc := true) (p_mv rfl) rfl rfl ?_
    refine TL.p (C := cx) (gc := true) (p_mv rfl) rfl rfl ?_
    refine TL.nil ?_
    refine hK13 _ _ ?_
    refine TK.ret ?_
    try dsimp only [thenQ]
    exact retX (v := OL (α := (List UInt8)) b11 l12) (res1 rfl) (by obtain rfl := some_in hX; exact ⟨b11, rfl, rfl⟩) nd (inH_rs nd (j := 0) rfl) ⟨rowIn_RL, trivial⟩
  refine TK.iter [0, 3, 7, 8, 9] (fun s env h => match s with | (out9, x10) => ∃ b8, env = [(0, true, Enc.v (m1 : (List (List UInt8)))), (3, true, OL (α := (List UInt8)) b8 out9), (7, true, Enc.v (m1 : (List (List UInt8)))), (8, true, Enc.v ((m1.length : Int) : Int)), (9, true, Enc.v (x10 : Int))] ∧ Nd [(b8, RL (α := (List UInt8)) 23 out9)] ∧ HSub [(b8, RL (α := (List UInt8)) 23 out9)] h) hO7 ⟨b4, rfl, (Nd.pick nd (is := [0]) (by decide)), (HSub.pick nd (is := [0]) (by decide))⟩ ?_
  rintro ⟨out9, x10⟩ env h x7x ⟨b8, rfl, nd, hs⟩ hX hR7
  refine TK.subH hs ?_
  unfold X.matrix_beside_s7 at hX
  try dsimp only at hX
  refine TK.seq_k fun K14 hK14 => ?_
  refine TK.reg ?_
  refine TL.p (C := cx) (gc := true) (p_lss rfl rfl) rfl rfl ?_
  refine TL.nil ?_
  refine hK14 _ _ ?_
  refine TK.seq_k fun K15 hK15 => ?_
  refine TK.cond (b := (decide (x10 < (m1.length : Int)))) rfl (fun hc => ?_) (fun hc => ?_)
  · have hX := ite_t hc hX
    refine TK.skip ?_
    refine hK15 _ _ ?_
    refine TK.seq_k fun K16 hK16 => ?_
    refine TK.block ?_
    refine TK.seq_k fun K17 hK17 => ?_
    refine TK.reg ?_
    refine TL.p (C := cx) (gc := true) (p_mv rfl) rfl rfl ?_
    obtain ⟨e18, he18, hX⟩ := bind_some hX
    refine TL.p (C := cx) (gc := true) (p_iaL (xs := m1) kd22 ty23 rfl rfl rfl (fun _ => he18)) rfl rfl ?_
    refine TL.p (C := cx) (gc := true) (p_ldE (xs := m1) (a := e18) (e18 : (List UInt8)) ty23 rfl rfl (fun _ => he18) rfl rfl rfl) rfl rfl ?_
    refine TL.p (C := cx) (gc := true) (p_mv rfl) rfl rfl ?_
    refine TL.p (C := cx) (gc := true) (p_mv rfl) rfl rfl ?_
    refine TL.nil ?_
    refine hK17 _ _ ?_
    refine TK.seq_k fun K19 hK19 => ?_
    refine TK.reg ?_
    refine TL.p (C := cx) (gc := true) (p_mv rfl) rfl rfl ?_
    refine TL.p (C := cx) (gc := true) (p_lenL (xs := m1) kd22 rfl) rfl rfl ?_
    obtain ⟨u20, hu20, hX⟩ := bind_some hX
    refine TL.mkO (C := cx) nd (0 : UInt8) kd23 ty5 rfl (fun j hj => by (have : j = 0 := by simpa [Enc.sz] using hj); subst this; rfl) rfl rfl (by decide) (need_t hu20) rfl fun b21 nd => ?_
    refine TL.p (C := cx) (gc := true) (p_mv rfl) rfl rfl ?_
    refine TL.nil ?_
    refine hK19 _ _ ?_
    refine TK.seq_k fun K22 hK22 => ?_
    refine TK.reg ?_
    refine TL.p (C := cx) (gc := true) (p_mv rfl) rfl rfl ?_
    refine TL.p (C := cx) (gc := true) (p_mv rfl) rfl rfl ?_
    obtain ⟨e23, he23, hX⟩ := bind_some hX
    refine TL.p (C := cx) (gc := true) (p_iaO (xs := (List.replicate (m1.length : Int).toNat (0 : UInt8))) kd23 ty5 rfl rfl rfl nd (j := 0) rfl (fun _ => he23)) rfl rfl ?_
    refine TL.stW (C := cx) (xs := (List.replicate (m1.length : Int).toNat (0 : UInt8))) (i := x10) (lu := Enc.cl ((1 : UInt8) : UInt8)) (a' := (1 : UInt8)) nd ty5 rfl (j := 0) rfl (by simp [Enc.sz]) (inb_of he23 (by simp)) rfl (Cells_v ((1 : UInt8) : UInt8)) rfl (WkL_refl _) fun nd => ?_
    refine TL.cv 6 (OL b21 ((List.replicate (m1.length : Int).toNat (0 : UInt8)).set x10.toNat (1 : UInt8))) rfl (Wk_eq (OL_len (by simp))) ?_
    refine TL.nil ?_
    refine hK22 _ _ ?_
    refine TK.reg ?_
    refine TL.p (C := cx) (gc := true) (p_mv rfl) rfl rfl ?_
    refine TL.p (C := cx) (gc := true) (p_mv rfl) rfl rfl ?_
    refine TL.p (C := cx) (gc := true) (p_mv rfl) rfl rfl ?_
    refine TL.lay [(22, L ((List.replicate (m1.length : Int).toNat (0 : UInt8)).set x10.toNat (1 : UInt8)))] nd (j := 0) rfl ⟨⟨_, rfl, fix_OL nd (j := 0) rfl, rfl⟩, trivial⟩ fun nd => ?_
    refine TL.lit (C := cx) ([e18, ((List.replicate (m1.length : Int).toNat (0 : UInt8)).set x10.toNat (1 : UInt8))] : List (List UInt8)) kd22 ty23 rfl ⟨⟨rfl, rfl⟩, ⟨rfl, rfl⟩, trivial⟩ rfl rfl rfl ?_
    obtain ⟨r24, hr24, hX⟩ := bind_some hX
    refine TL.cvX rfl rfl rfl (fun _ => ⟨rfl, ⟨rfl, trivial⟩⟩) (fun e => ok_slices_Concat_Lbyte_byte ([e18, ((List.replicate (m1.length : Int).toNat (0 : UInt8)).set x10.toNat (1 : UInt8))] : List (List UInt8)) _ hr24) ?_
    refine TL.lit (C := cx) ([r24] : List (List UInt8)) kd22 ty23 rfl ⟨⟨rfl, rfl⟩, trivial⟩ rfl rfl rfl ?_
    obtain ⟨u25, hu25, hX⟩ := bind_some hX
    refine TL.appO (C := cx) nd kd22 bo22 ty23 rfl rfl (j := 0) rfl rfl (Src_L _) (by decide) (need_t hu25) rfl fun nd => ?_
    refine TL.p (C := cx) (gc := true) (p_mv rfl) rfl rfl ?_
    refine TL.nil ?_
    refine hK16 _ _ ?_
    refine TK.reg ?_
    refine TL.p (C := cx) (gc := true) (p_add rfl rfl) rfl rfl ?_
    refine TL.p (C := cx) (gc := true) (p_mv rfl) rfl rfl ?_
    refine TL.nil ?_
    exact ⟨_, (some_in hX).symm, b8, rfl, (Nd.pick nd (is := [0]) (by decide)), (HSub.pick nd (is := [0]) (by decide))⟩
  · have hX := ite_f hc hX
    refine TK.exit ?_
    obtain rfl := hR7 _ (some_in hX).symm
    exact E7 out9 _ _ ⟨b8, rfl, (Nd.pick nd (is := [0]) (by decide)), (HSub.pick nd (is := [0]) (by decide))⟩ hA7

/-- cartridge/matrix.Inverse$1 -/
theorem ok_matrix_Inverse_c1 (r1 : (List UInt8)) (c2 : Int) (r : Bool) (hX : X.matrix_Inverse_c1 r1 c2 = some r) : Fun Try.prog 61 [Enc.v (r1 : (List UInt8)), .vref (ofL [Enc.v (c2 : Int)]) 1 0] (· = Enc.v (r : Bool)) := by
  refine Fun.of b61 (Nat.le_of_ble_eq_true rfl) (allVal.mem ⟨(by exact (v_val _)), (by exact (vref_val (l := [Enc.v (c2 : Int)]) rfl ⟨(v_val _), trivial⟩)), trivial⟩) ?_
  unfold k61
  have nd : Nd [] := Nd_nil
  unfold X.matrix_Inverse_c1 at hX
  refine TK.seq_k fun K3 hK3 => ?_
  refine TK.reg ?_
  refine TL.p (C := cx) (gc := true) (p_mv rfl) rfl rfl ?_
  refine TL.nil ?_
  refine hK3 _ _ ?_
  refine TK.seq_k fun K4 hK4 => ?_
  refine TK.reg ?_
  refine TL.p (C := cx) (gc := true) (p_mv rfl) rfl rfl ?_
  refine TL.p (C := cx) (gc := true) (p_ldR (v := Enc.v (c2 : Int)) ty3 rfl rfl rfl rfl rfl rfl) rfl rfl ?_
  obtain ⟨e5, he5, hX⟩ := bind_some hX
  refine TL.p (C := cx) (gc := true) (p_iaL (xs := r1) kd23 ty5 rfl rfl rfl (fun _ => he5)) rfl rfl ?_
  refine TL.p (C := cx) (gc := true) (p_ldE (xs := r1) (a := e5) (e5 : UInt8) ty5 rfl rfl (fun _ => he5) rfl rfl rfl) rfl rfl ?_
  refine TL.p (C := cx) (gc := true) (p8_neq (a := e5) (b := (0 : UInt8)) rfl rfl) rfl rfl ?_
  refine TL.p (C := cx) (gc := true) (p_mv rfl) rfl rfl ?_
  refine TL.nil ?_
  refine hK4 _ _ ?_
  refine TK.ret ?_
  try dsimp only [thenQ]
  exact ret1 (v := Enc.v ((e5 != (0 : UInt8)) : Bool)) rfl (by obtain rfl := some_in hX; rfl) (v_val _)

/-- cartridge/gf.Mul -/
theorem ok_gf_Mul (a1 : UInt8) (b2 : UInt8) (r : UInt8) (hX : X.gf_Mul a1 b2 = some r) : Fun Try.prog 97 [Enc.v (a1 : UInt8), Enc.v (b2 : UInt8)] (· = Enc.v (r : UInt8)) := by
  refine Fun.of b97 (Nat.le_of_ble_eq_true rfl) (allVal.mem ⟨(by exact (v_val _)), (by exact (v_val _)), trivial⟩) ?_
  unfold k97
  have nd : Nd [] := Nd_nil
  unfold X.gf_Mul at hX
  refine TK.seq_k fun K3 hK3 => ?_
  refine TK.reg ?_
  refine TL.p (C := cx) (gc := true) (p_mv rfl) rfl rfl ?_
  refine TL.nil ?_
  refine hK3 _ _ ?_
  refine TK.seq_k fun K4 hK4 => ?_
  refine TK.reg ?_
  refine TL.p (C := cx) (gc := true) (p_mv rfl) rfl rfl ?_
  refine TL.nil ?_
  refine hK4 _ _ ?_
  refine TK.seq_k fun K5 hK5 => ?_
  refine TK.block ?_
  obtain ⟨o6, hO6, hA6⟩ := bind_some hX
  have E6 : ∀ (out10 : UInt8) (env : Env) (h : Hp), (∃ _u : Unit, keepE [5] env = [(5, true, Enc.v (out10 : UInt8))] ∧ Nd [] ∧ HSub [] h) → X.gf_Mul_e6 out10 = some r → K5 env h := by
    intro out10 env h hE hX
    obtain ⟨_u, henv, nd, hs⟩ := hE
    unfold X.gf_Mul_e6 at hX
    refine hK5 _ _ (TK.keep [5] ?_)
    rw [henv]
    refine TK.subH hs ?_
    refine TK.seq_k fun K11 hK11 => ?_
    refine TK.reg ?_
    refine TL.p (C := cx) (gc := true) (p_mv rfl) rfl rfl ?_
    refine TL.p (C := cx) (gc := true) (p_mv rfl) rfl rfl ?_
    refine TL.nil ?_
    refine hK11 _ _ ?_
    refine TK.ret ?_
    try dsimp only [thenQ]
    exact ret1 (v := Enc.v (out10 : UInt8)) rfl (by obtain rfl := some_in hX; rfl) (v_val _)
  refine TK.iter [0, 1, 5] (fun s env h => match s with | (a7, b8, out9) => ∃ _u : Unit, env = [(0, true, Enc.v (a7 : UInt8)), (1, true, Enc.v (b8 : UInt8)), (5, true, Enc.v (out9 : UInt8))] ∧ Nd [] ∧ HSub [] h) hO6 ⟨(), rfl, Nd_nil, HSub.refl _⟩ ?_
  rintro ⟨a7, b8, out9⟩ env h x6x ⟨_u, rfl, nd, hs⟩ hX hR6
  refine TK.subH hs ?_
  unfold X.gf_Mul_s6 at hX
  try dsimp only at hX
  refine TK.seq_k fun K12 hK12 => ?_
  refine TK.seq_k fun K13 hK13 => ?_
  refine TK.reg ?_
  refine TL.p (C := cx) (gc := true) (p_mv rfl) rfl rfl ?_
  refine TL.p (C := cx) (gc := true) (p8_neq (a := b8) (b := (0 : UInt8)) rfl rfl) rfl rfl ?_
  refine TL.nil ?_
  refine hK13 _ _ ?_
  refine TK.cond (b := (b8 != (0 : UInt8))) rfl (fun hc => ?_) (fun hc => ?_)
  · have hX := ite_t hc hX
    refine TK.skip ?_
    refine hK12 _ _ ?_
    refine TK.seq_k fun K14 hK14 => ?_
    have J14 : ∀ (a15 : UInt8) (out16 : UInt8) (env : Env) (h : Hp), (∃ _u : Unit, keepE [0, 1, 5] env = [(0, true, Enc.v (a15 : UInt8)), (1, true, Enc.v (b8 : UInt8)), (5, true, Enc.v (out16 : UInt8))] ∧ Nd [] ∧ HSub [] h) → X.gf_Mul_j14 b8 a15 out16 = some x6x → K14 env h := by
      intro a15 out16 env h hE hX
      obtain ⟨_u, henv, nd, hs⟩ := hE
      unfold X.gf_Mul_j14 at hX
      refine hK14 _ _ (TK.keep [0, 1, 5] ?_)
      rw [henv]
      refine TK.subH hs ?_
      refine TK.reg ?_
      refine TL.p (C := cx) (gc := true) (p_mv rfl) rfl rfl ?_
      refine TL.p (C := cx) (gc := true) (p8_shr (a := b8) (b := 1) rfl rfl) rfl rfl ?_
      refine TL.p (C := cx) (gc := true) (p_mv rfl) rfl rfl ?_
      refine TL.nil ?_
      exact ⟨_, (some_in hX).symm, (), rfl, Nd_nil, HSub.refl _⟩
    refine TK.block ?_
    refine TK.seq_k fun K17 hK17 => ?_
    have J17 : ∀ (out18 : UInt8) (env : Env) (h : Hp), (∃ _u : Unit, keepE [0, 1, 5] env = [(0, true, Enc.v (a7 : UInt8)), (1, true, Enc.v (b8 : UInt8)), (5, true, Enc.v (out18 : UInt8))] ∧ Nd [] ∧ HSub [] h) → X.gf_Mul_j17 a7 b8 out18 = some x6x → K17 env h := by
      intro out18 env h hE hX
      obtain ⟨_u, henv, nd, hs⟩ := hE
      unfold X.gf_Mul_j17 at hX
      refine hK17 _ _ (TK.keep [0, 1, 5] ?_)
      rw [henv]
      refine TK.subH hs ?_
      refine TK.seq_k fun K19 hK19 => ?_
      refine TK.reg ?_
      refine TL.p (C := cx) (gc := true) (p_mv rfl) rfl rfl ?_
      refine TL.p (C := cx) (gc := true) (p8_and (a := a7) (b := (128 : UInt8)) rfl rfl) rfl rfl ?_
      refine TL.p (C := cx) (gc := true) (p8_neq (a := (a7 &&& (128 : UInt8))) (b := (0 : UInt8)) rfl rfl) rfl rfl ?_
      refine TL.p (C := cx) (gc := true) (p_mv rfl) rfl rfl ?_
      refine TL.nil ?_
      refine hK19 _ _ ?_
      refine TK.seq_k fun K20 hK20 => ?_
      refine TK.reg ?_
      refine TL.p (C := cx) (gc := true) (p_mv rfl) rfl rfl ?_
      refine TL.p (C := cx) (gc := true) (p8_shl (a := a7) (b := 1) rfl rfl) rfl rfl ?_
      refine TL.p (C := cx) (gc := true) (p_mv rfl) rfl rfl ?_
      refine TL.nil ?_
      refine hK20 _ _ ?_
      refine TK.seq_k fun K21 hK21 => ?_
      refine TK.reg ?_
      refine TL.p (C := cx) (gc := true) (p_mv rfl) rfl rfl ?_
      refine TL.nil ?_
      refine hK21 _ _ ?_
      refine TK.cond (b := ((a7 &&& (128 : UInt8)) != (0 : UInt8))) rfl (fun hc => ?_) (fun hc => ?_)
      · have hX := ite_t hc hX
        refine TK.reg ?_
        refine TL.p (C := cx) (gc := true) (p_mv rfl) rfl rfl ?_
        refine TL.p (C := cx) (gc := true) (p8_xor (a := (shl8 a7 1)) (b := (29 : UInt8)) rfl rfl) rfl rfl ?_
        refine TL.p (C := cx) (gc := true) (p_mv rfl) rfl rfl ?_
        refine TL.nil ?_
        exact J14 ((shl8 a7 1) ^^^ (29 : UInt8)) out18 _ _ ⟨(), rfl, Nd_nil, HSub.refl _⟩ hX
      · have hX := ite_f hc hX
        refine TK.skip ?_
        exact J14 (shl8 a7 1) out18 _ _ ⟨(), rfl, Nd_nil, HSub.refl _⟩ hX
    refine TK.seq_k fun K22 hK22 => ?_
    refine TK.reg ?_
    refine TL.p (C := cx) (gc := true) (p_mv rfl) rfl rfl ?_
    refine TL.p (C := cx) (gc := true) (p8_and (a := b8) (b := (1 : UInt8)) rfl rfl) rfl rfl ?_
    refine TL.p (C := cx) (gc := true) (p8_eql (a := (b8 &&& (1 : UInt8))) (b := (1 : UInt8)) rfl rfl) rfl rfl ?_
    refine TL.nil ?_
    refine hK22 _ _ ?_
    refine TK.cond (b := ((b8 &&& (1 : UInt8)) == (1 : UInt8))) rfl (fun hc => ?_) (fun hc => ?_)
    · have hX := ite_t hc hX
      refine TK.reg ?_
      refine TL.p (C := cx) (gc := true) (p_mv rfl) rfl rfl ?_
      refine TL.p (C := cx) (gc := true) (p_mv rfl) rfl rfl ?_
      refine TL.p (C := cx) (gc := true) (p8_xor (a := out9) (b := a7) rfl rfl) rfl rfl ?_
      refine TL.p (C := cx) (gc := true) (p_mv rfl) rfl rfl ?_
      refine TL.nil ?_
      exact J17 (out9 ^^^ a7) _ _ ⟨(), rfl, Nd_nil, HSub.refl _⟩ hX
    · have hX := ite_f hc hX
      refine TK.skip ?_
      exact J17 out9 _ _ ⟨(), rfl, Nd_nil, HSub.refl _⟩ hX
  · have hX := ite_f hc hX
    refine TK.exit ?_
    obtain rfl := hR6 _ (some_in hX).symm
    exact E6 out9 _ _ ⟨(), rfl, Nd_nil, HSub.refl _⟩ hA6

/-- cartridge/gf.power -/
theorem ok_gf_power (a1 : UInt8) (n2 : Int) (r : UInt8) (hX : X.gf_power a1 n2 = some r) : Fun Try.prog 98 [Enc.v (a1 : UInt8), Enc.v (n2 : Int)] (· = Enc.v (r : UInt8)) := by
  refine Fun.of b98 (Nat.le_of_ble_eq_true rfl) (allVal.mem ⟨(by exact (v_val _)), (by exact (v_val _)), trivial⟩) ?_
  unfold k98
  have nd : Nd [] := Nd_nil
  unfold X.gf_power at hX
  refine TK.seq_k fun K3 hK3 => ?_
  refine TK.reg ?_
  refine TL.p (C := cx) (gc := true) (p_mv rfl) rfl rfl ?_
  refine TL.nil ?_
  refine hK3 _ _ ?_
  refine TK.seq_k fun K4 hK4 => ?_
  refine TK.reg ?_
  refine TL.p (C := cx) (gc := true) (p_mv rfl) rfl rfl ?_
  refine TL.nil ?_
  refine hK4 _ _ ?_
  refine TK.seq_k fun K5 hK5 => ?_
  refine TK.block ?_
  obtain ⟨o6, hO6, hA6⟩ := bind_some hX
  have E6 : ∀ (out10 : UInt8) (env : Env) (h : Hp), (∃ _u : Unit, keepE [5] env = [(5, true, Enc.v (out10 : UInt8))] ∧ Nd [] ∧ HSub [] h) → X.gf_power_e6 out10 = some r → K5 env h := by
    intro out10 env h hE hX
    obtain ⟨_u, henv, nd, hs⟩ := hE
    unfold X.gf_power_e6 at hX
    refine hK5 _ _ (TK.keep [5] ?_)
    rw [henv]
    refine TK.subH hs ?_
    refine TK.seq_k fun K11 hK11 => ?_
    refine TK.reg ?_
    refine TL.p (C := cx) (gc := true) (p_mv rfl) rfl rfl ?_
    refine TL.p (C := cx) (gc := true) (p_mv rfl) rfl rfl ?_
    refine TL.nil ?_
    refine hK11 _ _ ?_
    refine TK.ret ?_
    try dsimp only [thenQ]
    exact ret1 (v := Enc.v (out10 : UInt8)) rfl (by obtain rfl := some_in hX; rfl) (v_val _)
  refine TK.iter [0, 1, 5] (fun s env h => match s with | (a7, n8, out9) => ∃ _u : Unit, env = [(0, true, Enc.v (a7 : UInt8)), (1, true, Enc.v (n8 : Int)), (5, true, Enc.v (out9 : UInt8))] ∧ Nd [] ∧ HSub [] h) hO6 ⟨(), rfl, Nd_nil, HSub.refl _⟩ ?_
  rintro ⟨a7, n8, out9⟩ env h x6x ⟨_u, rfl, nd, hs⟩ hX hR6
  refine TK.subH hs ?_
  unfold X.gf_power_s6 at hX
  try dsimp only at hX
  refine TK.seq_k fun K12 hK12 => ?_
  refine TK.seq_k fun K13 hK13 => ?_
  refine TK.reg ?_
  refine TL.p (C := cx) (gc := true) (p_mv rfl) rfl rfl ?_
  refine TL.p (C := cx) (gc := true) (p_gtr rfl rfl) rfl rfl ?_
  refine TL.nil ?_
  refine hK13 _ _ ?_
  refine TK.cond (b := (decide (n8 > (0 : Int)))) rfl (fun hc => ?_) (fun hc => ?_)
  · have hX := ite_t hc hX
    refine TK.skip ?_
    refine hK12 _ _ ?_
    refine TK.seq_k fun K14 hK14 => ?_
    refine TK.block ?_
    refine TK.seq_k fun K15 hK15 => ?_
    have J15 : ∀ (out16 : UInt8) (env : Env) (h : Hp), (∃ _u : Unit, keepE [0, 1, 5] env = [(0, true, Enc.v (a7 : UInt8)), (1, true, Enc.v (n8 : Int)), (5, true, Enc.v (out16 : UInt8))] ∧ Nd [] ∧ HSub [] h) → X.gf_power_j15 a7 n8 out16 = some x6x → K15 env h := by
      intro out16 env h hE hX
      obtain ⟨_u, henv, nd, hs⟩ := hE
      unfold X.gf_power_j15 at hX
      refine hK15 _ _ (TK.keep [0, 1, 5] ?_)
      rw [henv]
      refine TK.subH hs ?_
      refine TK.reg ?_
      refine TL.p (C := cx) (gc := true) (p_mv rfl) rfl rfl ?_
      refine TL.p (C := cx) (gc := true) (p_mv rfl) rfl rfl ?_
      obtain ⟨r17, hr17, hX⟩ := bind_some hX
      refine TL.cvX rfl rfl rfl (fun _ => ⟨rfl, ⟨rfl, ⟨rfl, trivial⟩⟩⟩) (fun e => ok_gf_Mul a7 a7 _ hr17) ?_
      refine TL.p (C := cx) (gc := true) (p_mv rfl) rfl rfl ?_
      refine TL.nil ?_
      refine hK14 _ _ ?_
      refine TK.reg ?_
      refine TL.p (C := cx) (gc := true) (p_mv rfl) rfl rfl ?_
      refine TL.p (C := cx) (gc := true) (p_shr rfl rfl (fun _ => by omega)) rfl rfl ?_
      refine TL.p (C := cx) (gc := true) (p_mv rfl) rfl rfl ?_
      refine TL.nil ?_
      exact ⟨_, (some_in hX).symm, (), rfl, Nd_nil, HSub.refl _⟩
    refine TK.seq_k fun K18 hK18 => ?_
    refine TK.reg ?_
    refine TL.p (C := cx) (gc := true) (p_mv rfl) rfl rfl ?_
    refine TL.p (C := cx) (gc := true) (p_and64 rfl rfl) rfl rfl ?_
    refine TL.p (C := cx) (gc := true) (p_eql rfl rfl) rfl rfl ?_
    refine TL.nil ?_
    refine hK18 _ _ ?_
    refine TK.cond (b := ((and64 n8 (1 : Int)) == (1 : Int))) rfl (fun hc => ?_) (fun hc => ?_)
    · have hX := ite_t hc hX
      refine TK.reg ?_
      refine TL.p (C := cx) (gc := true) (p_mv rfl) rfl rfl ?_
      refine TL.p (C := cx) (gc := true) (p_mv rfl) rfl rfl ?_
      obtain ⟨r19, hr19, hX⟩ := bind_some hX
      refine TL.cvX rfl rfl rfl (fun _ => ⟨rfl, ⟨rfl, ⟨rfl, trivial⟩⟩⟩) (fun e => ok_gf_Mul out9 a7 _ hr19) ?_
      refine TL.p (C := cx) (gc := true) (p_mv rfl) rfl rfl ?_
      refine TL.nil ?_
      exact J15 r19 _ _ ⟨(), rfl, Nd_nil, HSub.refl _⟩ hX
    · have hX := ite_f hc hX
      refine TK.skip ?_
      exact J15 out9 _ _ ⟨(), rfl, Nd_nil, HSub.refl _⟩ hX
  · have hX := ite_f hc hX
    refine TK.exit ?_
    obtain rfl := hR6 _ (some_in hX).symm
    exact E6 out9 _ _ ⟨(), rfl, Nd_nil, HSub.refl _⟩ hA6

/-- cartridge/gf.Inv -/
theorem ok_gf_Inv (a1 : UInt8) (r : UInt8) (hX : X.gf_Inv a1 = some r) : Fun Try.prog 63 [Enc.v (a1 : UInt8)] (· = Enc.v (r : UInt8)) := by
  refine Fun.of b63 (Nat.le_of_ble_eq_true rfl) (allVal.mem ⟨(by exact (v_val _)), trivial⟩) ?_
  unfold k63
  have nd : Nd [] := Nd_nil
  unfold X.gf_Inv at hX
  refine TK.seq_k fun K2 hK2 => ?_
  refine TK.reg ?_
  refine TL.p (C := cx) (gc := true) (p_mv rfl) rfl rfl ?_
  refine TL.nil ?_
  refine hK2 _ _ ?_
  refine TK.seq_k fun K3 hK3 => ?_
  refine TK.reg ?_
  refine TL.p (C := cx) (gc := true) (p_mv rfl) rfl rfl ?_
  obtain ⟨r4, hr4, hX⟩ := bind_some hX
  refine TL.cvX rfl rfl rfl (fun _ => ⟨rfl, ⟨rfl, ⟨rfl, trivial⟩⟩⟩) (fun e => ok_gf_power a1 (254 : Int) _ hr4) ?_
  refine TL.p (C := cx) (gc := true) (p_mv rfl) rfl rfl ?_
  refine TL.nil ?_
  refine hK3 _ _ ?_
  refine TK.ret ?_
  try dsimp only [thenQ]
  exact ret1 (v := Enc.v (r4 : UInt8)) rfl (by obtain rfl := some_in hX; rfl) (v_val _)

/-- cartridge/matrix.scaled -/
theorem ok_matrix_scaled (r1 : (List UInt8)) (by2 : UInt8) (r : (List UInt8)) (hX : X.matrix_scaled r1 by2 = some r) : Fun Try.prog 62 [Enc.v (r1 : (List UInt8)), Enc.v (by2 : UInt8)] (· = Enc.v (r : (List UInt8))) := by
  refine Fun.of b62 (Nat.le_of_ble_eq_true rfl) (allVal.mem ⟨(by exact (v_val _)), (by exact (v_val _)), trivial⟩) ?_
  unfold k62
  have nd : Nd [] := Nd_nil
  unfold X.matrix_scaled at hX
  refine TK.seq_k fun K3 hK3 => ?_
  refine TK.reg ?_
  refine TL.p (C := cx) (gc := true) (p_mv rfl) rfl rfl ?_
  refine TL.nil ?_
  refine hK3 _ _ ?_
  refine TK.seq_k fun K4 hK4 => ?_
  refine TK.reg ?_
  refine TL.p (C := cx) (gc := true) (p_mv rfl) rfl rfl ?_
  refine TL.p (C := cx) (gc := true) (p_lenL (xs := r1) kd23 rfl) rfl rfl ?_
  obtain ⟨u5, hu5, hX⟩ := bind_some hX
  refine TL.mkO (C := cx) nd (0 : UInt8) kd23 ty5 rfl (fun j hj => by (have : j = 0 := by simpa [Enc.sz] using hj); subst this; rfl) rfl rfl (by decide) (need_t hu5) rfl fun b6 nd => ?_
  refine TL.p (C := cx) (gc := true) (p_mv rfl) rfl rfl ?_
  refine TL.nil ?_
  refine hK4 _ _ ?_
  refine TK.seq_k fun K7 hK7 => ?_
  refine TK.seq_k fun K8 hK8 => ?_
  refine TK.reg ?_
  refine TL.p (C := cx) (gc := true) (p_mv rfl) rfl rfl ?_
  refine TL.p (C := cx) (gc := true) (p_lenL (xs := r1) kd23 rfl) rfl rfl ?_
  refine TL.p (C := cx) (gc := true) (p_mv rfl) rfl rfl ?_
  refine TL.nil ?_
  refine hK8 _ _ ?_
  refine TK.block ?_
  obtain ⟨o9, hO9, hA9⟩ := bind_some hX
  have E9 : ∀ (l14 : List UInt8) (env : Env) (h : Hp), (∃ b13, keepE [5] env = [(5, true, OL (α := UInt8) b13 l14)] ∧ Nd [(b13, RL (α := UInt8) 5 l14)] ∧ HSub [(b13, RL (α := UInt8) 5 l14)] h) → X.matrix_scaled_e9 l14 = some r → K7 env h := by
    intro l14 env h hE hX
    obtain ⟨b13, henv, nd, hs⟩ := hE
    unfold X.matrix_scaled_e9 at hX
    refine hK7 _ _ (TK.keep [5] ?_)
    rw [henv]
    refine TK.subH hs ?_
    refine TK.seq_k fun K15 hK15 => ?_
    refine TK.reg ?_
    refine TL.p (C := cx) (gc := true) (p_mv rfl) rfl rfl ?_
    refine TL.p (C := cx) (gc := true) (p_mv rfl) rfl rfl ?_
    refine TL.nil ?_
    refine hK15 _ _ ?_
    refine TK.lay [(4, L l14)] nd (j := 0) rfl ⟨⟨_, rfl, fix_OL nd (j := 0) rfl, rfl⟩, trivial⟩ fun nd => ?_
    refine TK.ret ?_
    try dsimp only [thenQ]
    exact ret1 (v := Enc.v (l14 : (List UInt8))) rfl (by obtain rfl := some_in hX; rfl) (v_val _)
  refine TK.iter [1, 5, 11, 12, 13] (fun s env h => match s with | (out11, x12) => ∃ b10, env = [(1, true, Enc.v (by2 : UInt8)), (5, true, OL (α := UInt8) b10 out11), (11, true, Enc.v (r1 : (List UInt8))), (12, true, Enc.v ((r1.length : Int) : Int)), (13, true, Enc.v (x12 : Int))] ∧ Nd [(b10, RL (α := UInt8) 5 out11)] ∧ HSub [(b10, RL (α := UInt8) 5 out11)] h) hO9 ⟨b6, rfl, (Nd.pick nd (is := [0]) (by decide)), (HSub.pick nd (is := [0]) (by decide))⟩ ?_
  rintro ⟨out11, x12⟩ env h x9x ⟨b10, rfl, nd, hs⟩ hX hR9
  refine TK.subH hs ?_
  unfold X.matrix_scaled_s9 at hX
  try dsimp only at hX
  refine TK.seq_k fun K16 hK16 => ?_
  refine TK.reg ?_
  refine TL.p (C := cx) (gc := true) (p_lss rfl rfl) rfl rfl ?_
  refine TL.nil ?_
  refine hK16 _ _ ?_
  refine TK.seq_k fun K17 hK17 => ?_
  refine TK.cond (b := (decide (x12 < (r1.length : Int)))) rfl (fun hc => ?_) (fun hc => ?_)
  · have hX := ite_t hc hX
    refine TK.skip ?_
    refine hK17 _ _ ?_
    refine TK.seq_k fun K18 hK18 => ?_
    refine TK.block ?_
    refine TK.seq_k fun K19 hK19 => ?_
    refine TK.reg ?_
    refine TL.p (C := cx) (gc := true) (p_mv rfl) rfl rfl ?_
    obtain ⟨e20, he20, hX⟩ := bind_some hX
    refine TL.p (C := cx) (gc := true) (p_iaL (xs := r1) kd23 ty5 rfl rfl rfl (fun _ => he20)) rfl rfl ?_
    refine TL.p (C := cx) (gc := true) (p_ldE (xs := r1) (a := e20) (e20 : UInt8) ty5 rfl rfl (fun _ => he20) rfl rfl rfl) rfl rfl ?_
    refine TL.p (C := cx) (gc := true) (p_mv rfl) rfl rfl ?_
    refine TL.p (C := cx) (gc := true) (p_mv rfl) rfl rfl ?_
    refine TL.nil ?_
    refine hK19 _ _ ?_
    refine TK.reg ?_
    refine TL.p (C := cx) (gc := true) (p_mv rfl) rfl rfl ?_
    refine TL.p (C := cx) (gc := true) (p_mv rfl) rfl rfl ?_
    refine TL.p (C := cx) (gc := true) (p_mv rfl) rfl rfl ?_
    refine TL.p (C := cx) (gc := true) (p_mv rfl) rfl rfl ?_
    obtain ⟨r21, hr21, hX⟩ := bind_some hX
    refine TL.cvX rfl rfl rfl (fun _ => ⟨rfl, ⟨rfl, ⟨rfl, trivial⟩⟩⟩) (fun e => ok_gf_Mul e20 by2 _ hr21) ?_
    obtain ⟨e22, he22, hX⟩ := bind_some hX
    refine TL.p (C := cx) (gc := true) (p_iaO (xs := out11) kd23 ty5 rfl rfl rfl nd (j := 0) rfl (fun _ => he22)) rfl rfl ?_
    refine TL.stW (C := cx) (xs := out11) (i := x12) (lu := Enc.cl (r21 : UInt8)) (a' := r21) nd ty5 rfl (j := 0) rfl (by simp [Enc.sz]) (inb_of he22 (by simp)) rfl (Cells_v (r21 : UInt8)) rfl (WkL_refl _) fun nd => ?_
    refine TL.cv 5 (OL b10 (out11.set x12.toNat r21)) rfl (Wk_eq (OL_len (by simp))) ?_
    refine TL.nil ?_
    refine hK18 _ _ ?_
    refine TK.reg ?_
    refine TL.p (C := cx) (gc := true) (p_add rfl rfl) rfl rfl ?_
    refine TL.p (C := cx) (gc := true) (p_mv rfl) rfl rfl ?_
    refine TL.nil ?_
    exact ⟨_, (some_in hX).symm, b10, rfl, (Nd.pick nd (is := [0]) (by decide)), (HSub.pick nd (is := [0]) (by decide))⟩
  · have hX := ite_f hc hX
    refine TK.exit ?_
    obtain rfl := hR9 _ (some_in hX).symm
    exact E9 out11 _ _ ⟨b10, rfl, (Nd.pick nd (is := [0]) (by decide)), (HSub.pick nd (is := [0]) (by decide))⟩ hA9

/-- cartridge/gf.Add -/
theorem ok_gf_Add (a1 : UInt8) (b2 : UInt8) (r : UInt8) (hX : X.gf_Add a1 b2 = some r) : Fun Try.prog 74 [Enc.v (a1 : UInt8), Enc.v (b2 : UInt8)] (· = Enc.v (r : UInt8)) := by
  refine Fun.of b74 (Nat.le_of_ble_eq_true rfl) (allVal.mem ⟨(by exact (v_val _)), (by exact (v_val _)), trivial⟩) ?_
  unfold k74
  have nd : Nd [] := Nd_nil
  unfold X.gf_Add at hX
  refine TK.seq_k fun K3 hK3 => ?_
  refine TK.reg ?_
  refine TL.p (C := cx) (gc := true) (p_mv rfl) rfl rfl ?_
  refine TL.nil ?_
  refine hK3 _ _ ?_
  refine TK.seq_k fun K4 hK4 => ?_
  refine TK.reg ?_
  refine TL.p (C := cx) (gc := true) (p_mv rfl) rfl rfl ?_
  refine TL.p (C := cx) (gc := true) (p_mv rfl) rfl rfl ?_
  refine TL.p (C := cx) (gc := true) (p8_xor (a := a1) (b := b2) rfl rfl) rfl rfl ?_
  refine TL.p (C := cx) (gc := true) (p_mv rfl) rfl rfl ?_
  refine TL.nil ?_
  refine hK4 _ _ ?_
  refine TK.ret ?_
  try dsimp only [thenQ]
  exact ret1 (v := Enc.v ((a1 ^^^ b2) : UInt8)) rfl (by obtain rfl := some_in hX; rfl) (v_val _)

end Go.Proofs.Ytgkbjnhpmlfgdaa
