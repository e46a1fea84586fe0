import Derived.Test.YtgkbjnhpmlfgdaaXFn
import Derived.Test.YtgkbjnhpmlfgdaaXS
import Derived.Test.YtgkbjnhpmlfgdaaAmK0
import Derived.Test.YtgkbjnhpmlfgdaaAmK1
import Derived.Test.YtgkbjnhpmlfgdaaAmK2
import Derived.Test.YtgkbjnhpmlfgdaaXP1
/- That they do. -/
namespace Go.Proofs.Ytgkbjnhpmlfgdaa
open Go.AM Go.AX
set_option linter.unusedVariables false
set_option maxRecDepth 20000

/-- cartridge/cartridgelaw2.alive -/
theorem ok_cartridgelaw2_alive  (r : Bool) (hX : X.cartridgelaw2_alive = some r) : Fun Try.prog 14 [] (· = Enc.v (r : Bool)) := by
  refine Fun.of b14 (Nat.le_of_ble_eq_true rfl) (fun x hx => by cases hx) ?_
  unfold k14
  have nd : Nd [] := Nd_nil
  unfold X.cartridgelaw2_alive at hX
  refine TK.seq_k fun K1 hK1 => ?_
  refine TK.reg ?_
  refine TL.p (C := cx) (gc := true) (p_mv rfl) rfl rfl ?_
  refine TL.nil ?_
  refine hK1 _ _ ?_
  refine TK.seq_k fun K2 hK2 => ?_
  refine TK.reg ?_
  refine TL.lit (C := cx) ([(1 : UInt8)] : List UInt8) kd23 ty5 rfl ⟨⟨rfl, rfl⟩, trivial⟩ rfl rfl rfl ?_
  refine TL.lit (C := cx) ([([(1 : UInt8)] : List UInt8)] : List (List UInt8)) kd22 ty23 rfl ⟨⟨rfl, rfl⟩, trivial⟩ rfl rfl rfl ?_
  obtain ⟨r3, hr3, hX⟩ := bind_some hX
  refine TL.cvX rfl rfl rfl (fun _ => ⟨rfl, ⟨rfl, trivial⟩⟩) (fun e => ok_matrix_Inverse ([([(1 : UInt8)] : List UInt8)] : List (List UInt8)) _ hr3) ?_
  refine TL.p (C := cx) (gc := true) (p_mv rfl) rfl rfl ?_
  refine TL.p (C := cx) (gc := true) (p_ex rfl rfl (by decide)) rfl rfl ?_
  refine TL.p (C := cx) (gc := true) (p_ex rfl rfl (by decide)) rfl rfl ?_
  refine TL.p (C := cx) (gc := true) (p_mv rfl) rfl rfl ?_
  refine TL.p (C := cx) (gc := true) (p_mv rfl) rfl rfl ?_
  refine TL.nil ?_
  refine hK2 _ _ ?_
  refine TK.seq_k fun K4 hK4 => ?_
  refine TK.reg ?_
  refine TL.lit (C := cx) ([(1 : UInt8), (1 : UInt8)] : List UInt8) kd23 ty5 rfl ⟨⟨rfl, rfl⟩, ⟨rfl, rfl⟩, trivial⟩ rfl rfl rfl ?_
  refine TL.lit (C := cx) ([([(1 : UInt8), (1 : UInt8)] : List UInt8)] : List (List UInt8)) kd22 ty23 rfl ⟨⟨rfl, rfl⟩, trivial⟩ rfl rfl rfl ?_
  refine TL.lit (C := cx) ([(2 : UInt8), (3 : UInt8)] : List UInt8) kd23 ty5 rfl ⟨⟨rfl, rfl⟩, ⟨rfl, rfl⟩, trivial⟩ rfl rfl rfl ?_
  obtain ⟨r5, hr5, hX⟩ := bind_some hX
  refine TL.cvX rfl rfl rfl (fun _ => ⟨rfl, ⟨rfl, ⟨rfl, trivial⟩⟩⟩) (fun e => ok_matrix_Apply ([([(1 : UInt8), (1 : UInt8)] : List UInt8)] : List (List UInt8)) ([(2 : UInt8), (3 : UInt8)] : List UInt8) _ hr5) ?_
  refine TL.p (C := cx) (gc := true) (p_mv rfl) rfl rfl ?_
  refine TL.p (C := cx) (gc := true) (p_ex rfl rfl (by decide)) rfl rfl ?_
  refine TL.p (C := cx) (gc := true) (p_ex rfl rfl (by decide)) rfl rfl ?_
  refine TL.p (C := cx) (gc := true) (p_mv rfl) rfl rfl ?_
  refine TL.p (C := cx) (gc := true) (p_mv rfl) rfl rfl ?_
  refine TL.nil ?_
  refine hK4 _ _ ?_
  refine TK.seq_k fun K6 hK6 => ?_
  refine TK.reg ?_
  refine TL.p (C := cx) (gc := true) (p_mv rfl) rfl rfl ?_
  obtain ⟨r7, hr7, hX⟩ := bind_some hX
  refine TL.cvX rfl rfl rfl (fun _ => ⟨rfl, ⟨rfl, trivial⟩⟩) (fun e => ok_cartridgelaw2_num r3.2 _ hr7) ?_
  refine TL.p (C := cx) (gc := true) (p_eql rfl rfl) rfl rfl ?_
  refine TL.p (C := cx) (gc := true) (p_mv rfl) rfl rfl ?_
  refine TL.p (C := cx) (gc := ((r7 == (0 : Int)))) (p_mv rfl (hg := fun e => rfl)) (gcT1 rfl) rfl ?_
  refine TL.p (C := cx) (gc := ((r7 == (0 : Int)))) (p_lenL (xs := r3.1) kd22 rfl (hg := fun e => e)) (gcT1 rfl) rfl ?_
  refine TL.p (C := cx) (gc := ((r7 == (0 : Int)))) (p_eql rfl rfl (hg := fun e => ⟨e, rfl⟩)) (gcT1 rfl) rfl ?_
  refine TL.p (C := cx) (gc := true) (p_and rfl rfl (fun e => ⟨rfl, fun h => h⟩)) rfl rfl ?_
  refine TL.p (C := cx) (gc := true) (p_mv rfl) rfl rfl ?_
  refine TL.p (C := cx) (gc := (((r7 == (0 : Int)) && ((r3.1.length : Int) == (1 : Int))))) (p_mv rfl (hg := fun e => rfl)) (gcT1 rfl) rfl ?_
  obtain ⟨e8, he8, hX⟩ := bind_some hX
  refine TL.p (C := cx) (gc := (((r7 == (0 : Int)) && ((r3.1.length : Int) == (1 : Int))))) (p_iaL (xs := r3.1) kd22 ty23 rfl rfl rfl (fun e => optG_t he8 e) (hg := fun e => ⟨e, rfl⟩)) (gcT1 rfl) rfl ?_
  refine TL.p (C := cx) (gc := (((r7 == (0 : Int)) && ((r3.1.length : Int) == (1 : Int))))) (p_ldE (xs := r3.1) (a := e8) (e8 : (List UInt8)) ty23 rfl rfl (fun e => optG_t he8 e) rfl rfl rfl (hg := fun e => e)) (gcT1 rfl) rfl ?_
  obtain ⟨e9, he9, hX⟩ := bind_some hX
  refine TL.p (C := cx) (gc := (((r7 == (0 : Int)) && ((r3.1.length : Int) == (1 : Int))))) (p_iaL (xs := e8) kd23 ty5 rfl rfl rfl (fun e => optG_t he9 e) (hg := fun e => ⟨e, rfl⟩)) (gcT1 rfl) rfl ?_
  refine TL.p (C := cx) (gc := (((r7 == (0 : Int)) && ((r3.1.length : Int) == (1 : Int))))) (p_ldE (xs := e8) (a := e9) (e9 : UInt8) ty5 rfl rfl (fun e => optG_t he9 e) rfl rfl rfl (hg := fun e => e)) (gcT1 rfl) rfl ?_
  refine TL.p (C := cx) (gc := (((r7 == (0 : Int)) && ((r3.1.length : Int) == (1 : Int))))) (p8_eql (a := e9) (b := (1 : UInt8)) rfl rfl (hg := fun e => ⟨e, rfl⟩)) (gcT1 rfl) rfl ?_
  refine TL.p (C := cx) (gc := true) (p_and rfl rfl (fun e => ⟨rfl, fun h => h⟩)) rfl rfl ?_
  refine TL.p (C := cx) (gc := true) (p_mv rfl) rfl rfl ?_
  refine TL.p (C := cx) (gc := ((((r7 == (0 : Int)) && ((r3.1.length : Int) == (1 : Int))) && (e9 == (1 : UInt8))))) (p_mv rfl (hg := fun e => rfl)) (gcT1 rfl) rfl ?_
  obtain ⟨r10, hr10, hX⟩ := bind_some hX
  refine TL.cvX (gcT1 rfl) rfl rfl (fun e => ⟨rfl, ⟨e, trivial⟩⟩) (fun e => ok_cartridgelaw2_num r5.2 _ (optG_t hr10 e)) ?_
  refine TL.p (C := cx) (gc := ((((r7 == (0 : Int)) && ((r3.1.length : Int) == (1 : Int))) && (e9 == (1 : UInt8))))) (p_eql rfl rfl (hg := fun e => ⟨e, rfl⟩)) (gcT1 rfl) rfl ?_
  refine TL.p (C := cx) (gc := true) (p_and rfl rfl (fun e => ⟨rfl, fun h => h⟩)) rfl rfl ?_
  refine TL.p (C := cx) (gc := true) (p_mv rfl) rfl rfl ?_
  refine TL.p (C := cx) (gc := (((((r7 == (0 : Int)) && ((r3.1.length : Int) == (1 : Int))) && (e9 == (1 : UInt8))) && (r10 == (0 : Int))))) (p_mv rfl (hg := fun e => rfl)) (gcT1 rfl) rfl ?_
  refine TL.p (C := cx) (gc := (((((r7 == (0 : Int)) && ((r3.1.length : Int) == (1 : Int))) && (e9 == (1 : UInt8))) && (r10 == (0 : Int))))) (p_lenL (xs := r5.1) kd23 rfl (hg := fun e => e)) (gcT1 rfl) rfl ?_
  refine TL.p (C := cx) (gc := (((((r7 == (0 : Int)) && ((r3.1.length : Int) == (1 : Int))) && (e9 == (1 : UInt8))) && (r10 == (0 : Int))))) (p_eql rfl rfl (hg := fun e => ⟨e, rfl⟩)) (gcT1 rfl) rfl ?_
  refine TL.p (C := cx) (gc := true) (p_and rfl rfl (fun e => ⟨rfl, fun h => h⟩)) rfl rfl ?_
  refine TL.p (C := cx) (gc := true) (p_mv rfl) rfl rfl ?_
  refine TL.p (C := cx) (gc := ((((((r7 == (0 : Int)) && ((r3.1.length : Int) == (1 : Int))) && (e9 == (1 : UInt8))) && (r10 == (0 : Int))) && ((r5.1.length : Int) == (1 : Int))))) (p_mv rfl (hg := fun e => rfl)) (gcT1 rfl) rfl ?_
  obtain ⟨e11, he11, hX⟩ := bind_some hX
  refine TL.p (C := cx) (gc := ((((((r7 == (0 : Int)) && ((r3.1.length : Int) == (1 : Int))) && (e9 == (1 : UInt8))) && (r10 == (0 : Int))) && ((r5.1.length : Int) == (1 : Int))))) (p_iaL (xs := r5.1) kd23 ty5 rfl rfl rfl (fun e => optG_t he11 e) (hg := fun e => ⟨e, rfl⟩)) (gcT1 rfl) rfl ?_
  refine TL.p (C := cx) (gc := ((((((r7 == (0 : Int)) && ((r3.1.length : Int) == (1 : Int))) && (e9 == (1 : UInt8))) && (r10 == (0 : Int))) && ((r5.1.length : Int) == (1 : Int))))) (p_ldE (xs := r5.1) (a := e11) (e11 : UInt8) ty5 rfl rfl (fun e => optG_t he11 e) rfl rfl rfl (hg := fun e => e)) (gcT1 rfl) rfl ?_
  refine TL.p (C := cx) (gc := ((((((r7 == (0 : Int)) && ((r3.1.length : Int) == (1 : Int))) && (e9 == (1 : UInt8))) && (r10 == (0 : Int))) && ((r5.1.length : Int) == (1 : Int))))) (p8_eql (a := e11) (b := (1 : UInt8)) rfl rfl (hg := fun e => ⟨e, rfl⟩)) (gcT1 rfl) rfl ?_
  refine TL.p (C := cx) (gc := true) (p_and rfl rfl (fun e => ⟨rfl, fun h => h⟩)) rfl rfl ?_
  refine TL.p (C := cx) (gc := true) (p_mv rfl) rfl rfl ?_
  refine TL.p (C := cx) (gc := (((((((r7 == (0 : Int)) && ((r3.1.length : Int) == (1 : Int))) && (e9 == (1 : UInt8))) && (r10 == (0 : Int))) && ((r5.1.length : Int) == (1 : Int))) && (e11 == (1 : UInt8))))) (p_mv rfl (hg := fun e => rfl)) (gcT1 rfl) rfl ?_
  obtain ⟨r12, hr12, hX⟩ := bind_some hX
  refine TL.cvX (gcT1 rfl) rfl rfl (fun e => ⟨rfl, ⟨e, trivial⟩⟩) (fun e => ok_matrix_Right r3.1 _ (optG_t hr12 e)) ?_
  refine TL.p (C := cx) (gc := true) (p_and rfl rfl (fun e => ⟨rfl, fun h => h⟩)) rfl rfl ?_
  refine TL.p (C := cx) (gc := true) (p_mv rfl) rfl rfl ?_
  refine TL.nil ?_
  refine hK6 _ _ ?_
  refine TK.ret ?_
  try dsimp only [thenQ]
  exact ret1 (v := Enc.v ((((((((r7 == (0 : Int)) && ((r3.1.length : Int) == (1 : Int))) && (e9 == (1 : UInt8))) && (r10 == (0 : Int))) && ((r5.1.length : Int) == (1 : Int))) && (e11 == (1 : UInt8))) && r12) : Bool)) rfl (by obtain rfl := some_in hX; rfl) (v_val _)

/-- cartridge/cartridgelaw2.Few -/
theorem ok_cartridgelaw2_Few (m1 : (List (List UInt8))) (r : Bool) (hX : X.cartridgelaw2_Few m1 = some r) : Fun Try.prog 15 [Enc.v (m1 : (List (List UInt8)))] (· = Enc.v (r : Bool)) := by
  refine Fun.of b15 (Nat.le_of_ble_eq_true rfl) (allVal.mem ⟨(by exact (v_val _)), trivial⟩) ?_
  unfold k15
  have nd : Nd [] := Nd_nil
  unfold X.cartridgelaw2_Few at hX
  refine TK.seq_k fun K2 hK2 => ?_
  refine TK.reg ?_
  refine TL.p (C := cx) (gc := true) (p_mv rfl) rfl rfl ?_
  refine TL.nil ?_
  refine hK2 _ _ ?_
  refine TK.seq_k fun K3 hK3 => ?_
  refine TK.reg ?_
  refine TL.p (C := cx) (gc := true) (p_mv rfl) rfl rfl ?_
  refine TL.nil ?_
  refine hK3 _ _ ?_
  refine TK.seq_k fun K4 hK4 => ?_
  refine TK.seq_k fun K5 hK5 => ?_
  refine TK.reg ?_
  refine TL.p (C := cx) (gc := true) (p_mv rfl) rfl rfl ?_
  refine TL.nil ?_
  refine hK5 _ _ ?_
  refine TK.block ?_
  obtain ⟨o6, hO6, hA6⟩ := bind_some hX
  have E6 : ∀ (n9 : Int) (env : Env) (h : Hp), (∃ _u : Unit, keepE [3] env = [(3, true, Enc.v (n9 : Int))] ∧ Nd [] ∧ HSub [] h) → X.cartridgelaw2_Few_e6 n9 = some r → K4 env h := by
    intro n9 env h hE hX
    obtain ⟨_u, henv, nd, hs⟩ := hE
    unfold X.cartridgelaw2_Few_e6 at hX
    refine hK4 _ _ (TK.keep [3] ?_)
    rw [henv]
    refine TK.subH hs ?_
    refine TK.seq_k fun K10 hK10 => ?_
    refine TK.reg ?_
    refine TL.p (C := cx) (gc := true) (p_mv rfl) rfl rfl ?_
    refine TL.p (C := cx) (gc := true) (p_leq rfl rfl) rfl rfl ?_
    refine TL.p (C := cx) (gc := true) (p_mv rfl) rfl rfl ?_
    refine TL.nil ?_
    refine hK10 _ _ ?_
    refine TK.ret ?_
    try dsimp only [thenQ]
    exact ret1 (v := Enc.v ((decide (n9 ≤ (2000 : Int))) : Bool)) rfl (by obtain rfl := some_in hX; rfl) (v_val _)
  refine TK.iter [0, 3, 4] (fun s env h => match s with | (n7, i8) => ∃ _u : Unit, env = [(0, true, Enc.v (m1 : (List (List UInt8)))), (3, true, Enc.v (n7 : Int)), (4, true, Enc.v (i8 : Int))] ∧ Nd [] ∧ HSub [] h) hO6 ⟨(), rfl, Nd_nil, HSub.refl _⟩ ?_
  rintro ⟨n7, i8⟩ env h x6x ⟨_u, rfl, nd, hs⟩ hX hR6
  refine TK.subH hs ?_
  unfold X.cartridgelaw2_Few_s6 at hX
  try dsimp only at hX
  refine TK.seq_k fun K11 hK11 => ?_
  refine TK.seq_k fun K12 hK12 => ?_
  refine TK.reg ?_
  refine TL.p (C := cx) (gc := true) (p_mv rfl) rfl rfl ?_
  refine TL.p (C := cx) (gc := true) (p_mv rfl) rfl rfl ?_
  refine TL.p (C := cx) (gc := true) (p_lenL (xs := m1) kd22 rfl) rfl rfl ?_
  refine TL.p (C := cx) (gc := true) (p_lss rfl rfl) rfl rfl ?_
  refine TL.p (C := cx) (gc := true) (p_mv rfl) rfl rfl ?_
  refine TL.p (C := cx) (gc := ((decide (i8 < (m1.length : Int))))) (p_mv rfl (hg := fun e => rfl)) (gcT1 rfl) rfl ?_
  refine TL.p (C := cx) (gc := ((decide (i8 < (m1.length : Int))))) (p_leq rfl rfl (hg := fun e => ⟨e, rfl⟩)) (gcT1 rfl) rfl ?_
  refine TL.p (C := cx) (gc := true) (p_and rfl rfl (fun e => ⟨rfl, fun h => h⟩)) rfl rfl ?_
  refine TL.nil ?_
  refine hK12 _ _ ?_
  refine TK.cond (b := ((decide (i8 < (m1.length : Int))) && (decide (n7 ≤ (2000 : Int))))) rfl (fun hc => ?_) (fun hc => ?_)
  · have hX := ite_t hc hX
    refine TK.skip ?_
    refine hK11 _ _ ?_
    refine TK.seq_k fun K13 hK13 => ?_
    refine TK.block ?_
    refine TK.reg ?_
    refine TL.p (C := cx) (gc := true) (p_mv rfl) rfl rfl ?_
    refine TL.p (C := cx) (gc := true) (p_add rfl rfl) rfl rfl ?_
    refine TL.p (C := cx) (gc := true) (p_mv rfl) rfl rfl ?_
    refine TL.p (C := cx) (gc := true) (p_mv rfl) rfl rfl ?_
    obtain ⟨e14, he14, hX⟩ := bind_some hX
    refine TL.p (C := cx) (gc := true) (p_iaL (xs := m1) kd22 ty23 rfl rfl rfl (fun _ => he14)) rfl rfl ?_
    refine TL.p (C := cx) (gc := true) (p_ldE (xs := m1) (a := e14) (e14 : (List UInt8)) ty23 rfl rfl (fun _ => he14) rfl rfl rfl) rfl rfl ?_
    refine TL.p (C := cx) (gc := true) (p_lenL (xs := e14) kd23 rfl) rfl rfl ?_
    refine TL.p (C := cx) (gc := true) (p_add rfl rfl) rfl rfl ?_
    refine TL.p (C := cx) (gc := true) (p_mv rfl) rfl rfl ?_
    refine TL.nil ?_
    refine hK13 _ _ ?_
    refine TK.reg ?_
    refine TL.p (C := cx) (gc := true) (p_mv rfl) rfl rfl ?_
    refine TL.p (C := cx) (gc := true) (p_add rfl rfl) rfl rfl ?_
    refine TL.p (C := cx) (gc := true) (p_mv rfl) rfl rfl ?_
    refine TL.nil ?_
    exact ⟨_, (some_in hX).symm, (), rfl, Nd_nil, HSub.refl _⟩
  · have hX := ite_f hc hX
    refine TK.exit ?_
    obtain rfl := hR6 _ (some_in hX).symm
    exact E6 n7 _ _ ⟨(), rfl, Nd_nil, HSub.refl _⟩ hA6

/-- cartridge/cartridgeref1.RightMatrix -/
theorem ok_cartridgeref1_RightMatrix (m1 : (List (List UInt8))) (r : Bool) (hX : X.cartridgeref1_RightMatrix m1 = some r) : Fun Try.prog 16 [Enc.v (m1 : (List (List UInt8)))] (· = Enc.v (r : Bool)) := by
  refine Fun.of b16 (Nat.le_of_ble_eq_true rfl) (allVal.mem ⟨(by exact (v_val _)), trivial⟩) ?_
  unfold k16
  have nd : Nd [] := Nd_nil
  unfold X.cartridgeref1_RightMatrix at hX
  refine TK.seq_k fun K2 hK2 => ?_
  refine TK.reg ?_
  refine TL.p (C := cx) (gc := true) (p_mv rfl) rfl rfl ?_
  refine TL.nil ?_
  refine hK2 _ _ ?_
  refine TK.seq_k fun K3 hK3 => ?_
  refine TK.seq_k fun K4 hK4 => ?_
  refine TK.reg ?_
  refine TL.p (C := cx) (gc := true) (p_mv rfl) rfl rfl ?_
  refine TL.p (C := cx) (gc := true) (p_lenL (xs := m1) kd22 rfl) rfl rfl ?_
  refine TL.p (C := cx) (gc := true) (p_lss rfl rfl) rfl rfl ?_
  refine TL.p (C := cx) (gc := true) (p_mv rfl) rfl rfl ?_
  refine TL.p (C := cx) (gc := (!((decide ((m1.length : Int) < (1 : Int)))))) (p_mv rfl (hg := fun e => rfl)) (gcF1 rfl) rfl ?_
  refine TL.p (C := cx) (gc := (!((decide ((m1.length : Int) < (1 : Int)))))) (p_lenL (xs := m1) kd22 rfl (hg := fun e => e)) (gcF1 rfl) rfl ?_
  refine TL.p (C := cx) (gc := (!((decide ((m1.length : Int) < (1 : Int)))))) (p_gtr rfl rfl (hg := fun e => ⟨e, rfl⟩)) (gcF1 rfl) rfl ?_
  refine TL.p (C := cx) (gc := true) (p_or rfl rfl (fun e => ⟨rfl, fun h => (not_t h)⟩)) rfl rfl ?_
  refine TL.p (C := cx) (gc := true) (p_mv rfl) rfl rfl ?_
  refine TL.p (C := cx) (gc := (!(((decide ((m1.length : Int) < (1 : Int))) || (decide ((m1.length : Int) > (255 : Int))))))) (p_mv rfl (hg := fun e => rfl)) (gcF1 rfl) rfl ?_
  obtain ⟨e5, he5, hX⟩ := bind_some hX
  refine TL.p (C := cx) (gc := (!(((decide ((m1.length : Int) < (1 : Int))) || (decide ((m1.length : Int) > (255 : Int))))))) (p_iaL (xs := m1) kd22 ty23 rfl rfl rfl (fun e => optG_t he5 e) (hg := fun e => ⟨e, rfl⟩)) (gcF1 rfl) rfl ?_
  refine TL.p (C := cx) (gc := (!(((decide ((m1.length : Int) < (1 : Int))) || (decide ((m1.length : Int) > (255 : Int))))))) (p_ldE (xs := m1) (a := e5) (e5 : (List UInt8)) ty23 rfl rfl (fun e => optG_t he5 e) rfl rfl rfl (hg := fun e => e)) (gcF1 rfl) rfl ?_
  refine TL.p (C := cx) (gc := (!(((decide ((m1.length : Int) < (1 : Int))) || (decide ((m1.length : Int) > (255 : Int))))))) (p_lenL (xs := e5) kd23 rfl (hg := fun e => e)) (gcF1 rfl) rfl ?_
  refine TL.p (C := cx) (gc := (!(((decide ((m1.length : Int) < (1 : Int))) || (decide ((m1.length : Int) > (255 : Int))))))) (p_lss rfl rfl (hg := fun e => ⟨e, rfl⟩)) (gcF1 rfl) rfl ?_
  refine TL.p (C := cx) (gc := true) (p_or rfl rfl (fun e => ⟨rfl, fun h => (not_t h)⟩)) rfl rfl ?_
  refine TL.p (C := cx) (gc := true) (p_mv rfl) rfl rfl ?_
  refine TL.p (C := cx) (gc := (!((((decide ((m1.length : Int) < (1 : Int))) || (decide ((m1.length : Int) > (255 : Int)))) || (decide ((e5.length : Int) < (1 : Int))))))) (p_mv rfl (hg := fun e => rfl)) (gcF1 rfl) rfl ?_
  obtain ⟨e6, he6, hX⟩ := bind_some hX
  refine TL.p (C := cx) (gc := (!((((decide ((m1.length : Int) < (1 : Int))) || (decide ((m1.length : Int) > (255 : Int)))) || (decide ((e5.length : Int) < (1 : Int))))))) (p_iaL (xs := m1) kd22 ty23 rfl rfl rfl (fun e => optG_t he6 e) (hg := fun e => ⟨e, rfl⟩)) (gcF1 rfl) rfl ?_
  refine TL.p (C := cx) (gc := (!((((decide ((m1.length : Int) < (1 : Int))) || (decide ((m1.length : Int) > (255 : Int)))) || (decide ((e5.length : Int) < (1 : Int))))))) (p_ldE (xs := m1) (a := e6) (e6 : (List UInt8)) ty23 rfl rfl (fun e => optG_t he6 e) rfl rfl rfl (hg := fun e => e)) (gcF1 rfl) rfl ?_
  refine TL.p (C := cx) (gc := (!((((decide ((m1.length : Int) < (1 : Int))) || (decide ((m1.length : Int) > (255 : Int)))) || (decide ((e5.length : Int) < (1 : Int))))))) (p_lenL (xs := e6) kd23 rfl (hg := fun e => e)) (gcF1 rfl) rfl ?_
  refine TL.p (C := cx) (gc := (!((((decide ((m1.length : Int) < (1 : Int))) || (decide ((m1.length : Int) > (255 : Int)))) || (decide ((e5.length : Int) < (1 : Int))))))) (p_gtr rfl rfl (hg := fun e => ⟨e, rfl⟩)) (gcF1 rfl) rfl ?_
  refine TL.p (C := cx) (gc := true) (p_or rfl rfl (fun e => ⟨rfl, fun h => (not_t h)⟩)) rfl rfl ?_
  refine TL.nil ?_
  refine hK4 _ _ ?_
  refine TK.cond (b := ((((decide ((m1.length : Int) < (1 : Int))) || (decide ((m1.length : Int) > (255 : Int)))) || (decide ((e5.length : Int) < (1 : Int)))) || (decide ((e6.length : Int) > (255 : Int))))) rfl (fun hc => ?_) (fun hc => ?_)
  · have hX := ite_t hc hX
    refine TK.seq_k fun K7 hK7 => ?_
    refine TK.reg ?_
    refine TL.p (C := cx) (gc := true) (p_mv rfl) rfl rfl ?_
    refine TL.nil ?_
    refine hK7 _ _ ?_
    refine TK.ret ?_
    try dsimp only [thenQ]
    exact ret1 (v := Enc.v (false : Bool)) rfl (by obtain rfl := some_in hX; rfl) (v_val _)
  · have hX := ite_f hc hX
    refine TK.skip ?_
    refine hK3 _ _ ?_
    refine TK.seq_k fun K8 hK8 => ?_
    refine TK.seq_k fun K9 hK9 => ?_
    refine TK.reg ?_
    refine TL.p (C := cx) (gc := true) (p_mv rfl) rfl rfl ?_
    refine TL.nil ?_
    refine hK9 _ _ ?_
    refine TK.block ?_
    obtain ⟨o10, hO10, hA10⟩ := bind_some hX
    have E10 : ∀ (env : Env) (h : Hp), (∃ _u : Unit, keepE [] env = [] ∧ Nd [] ∧ HSub [] h) → X.cartridgeref1_RightMatrix_e10 = some r → K8 env h := by
      intro  env h hE hX
      obtain ⟨_u, henv, nd, hs⟩ := hE
      unfold X.cartridgeref1_RightMatrix_e10 at hX
      refine hK8 _ _ (TK.keep [] ?_)
      rw [henv]
      refine TK.subH hs ?_
      refine TK.seq_k fun K12 hK12 => ?_
      refine TK.reg ?_
      refine TL.p (C := cx) (gc := true) (p_mv rfl) rfl rfl ?_
      refine TL.nil ?_
      refine hK12 _ _ ?_
      refine TK.ret ?_
      try dsimp only [thenQ]
      exact ret1 (v := Enc.v (true : Bool)) rfl (by obtain rfl := some_in hX; rfl) (v_val _)
    refine TK.iter [0, 3] (fun s env h => match s with | i11 => ∃ _u : Unit, env = [(0, true, Enc.v (m1 : (List (List UInt8)))), (3, true, Enc.v (i11 : Int))] ∧ Nd [] ∧ HSub [] h) hO10 ⟨(), rfl, Nd_nil, HSub.refl _⟩ ?_
    rintro i11 env h x10x ⟨_u, rfl, nd, hs⟩ hX hR10
    refine TK.subH hs ?_
    unfold X.cartridgeref1_RightMatrix_s10 at hX
    try dsimp only at hX
    refine TK.seq_k fun K13 hK13 => ?_
    refine TK.seq_k fun K14 hK14 => ?_
    refine TK.reg ?_
    refine TL.p (C := cx) (gc := true) (p_mv rfl) rfl rfl ?_
    refine TL.p (C := cx) (gc := true) (p_mv rfl) rfl rfl ?_
    refine TL.p (C := cx) (gc := true) (p_lenL (xs := m1) kd22 rfl) rfl rfl ?_
    refine TL.p (C := cx) (gc := true) (p_lss rfl rfl) rfl rfl ?_
    refine TL.nil ?_
    refine hK14 _ _ ?_
    refine TK.cond (b := (decide (i11 < (m1.length : Int)))) rfl (fun hc => ?_) (fun hc => ?_)
    · have hX := ite_t hc hX
      refine TK.skip ?_
      refine hK13 _ _ ?_
      refine TK.seq_k fun K15 hK15 => ?_
      refine TK.block ?_
      refine TK.seq_k fun K16 hK16 => ?_
      have ndS : Nd [] := Nd.pick nd (is := []) (by decide)
      refine TK.drwX (h := []) (hS := []) [(0, 0), (0, 1), (0, 2), (0, 3), (0, 4), (0, 5), (0, 6), (0, 7), (0, 8), (0, 9)] mixed (by kernel_rfl) (HSub_app nd) ?_
      refine DR0 (gc := true) rfl (vok_p (C := cx) (p_mv rfl)) rfl rfl ?_
      refine DR0 (gc := true) rfl (vok_p (C := cx) (p_mv rfl)) rfl rfl ?_
      obtain ⟨e17, he17, hX⟩ := bind_some hX
      refine DR0 (gc := true) rfl (vok_p (C := cx) (p_iaL (xs := m1) kd22 ty23 rfl rfl rfl (fun _ => he17))) rfl rfl ?_
      refine DR0 (gc := true) rfl (vok_p (C := cx) (p_ldE (xs := m1) (a := e17) (e17 : (List UInt8)) ty23 rfl rfl (fun _ => he17) rfl rfl rfl)) rfl rfl ?_
      refine DR0 (gc := true) rfl (vok_p (C := cx) (p_lenL (xs := e17) kd23 rfl)) rfl rfl ?_
      refine DR0 (gc := true) rfl (vok_p (C := cx) (p_mv rfl)) rfl rfl ?_
      obtain ⟨e18, he18, hX⟩ := bind_some hX
      refine DR0 (gc := true) rfl (vok_p (C := cx) (p_iaL (xs := m1) kd22 ty23 rfl rfl rfl (fun _ => he18))) rfl rfl ?_
      refine DR0 (gc := true) rfl (vok_p (C := cx) (p_ldE (xs := m1) (a := e18) (e18 : (List UInt8)) ty23 rfl rfl (fun _ => he18) rfl rfl rfl)) rfl rfl ?_
      refine DR0 (gc := true) rfl (vok_p (C := cx) (p_lenL (xs := e18) kd23 rfl)) rfl rfl ?_
      refine DR0 (gc := true) rfl (vok_p (C := cx) (p_neq rfl rfl)) rfl rfl ?_
      refine DRend ?_
      refine hK16 _ _ ?_
      refine TK.cond (b := ((e17.length : Int) != (e18.length : Int))) rfl (fun hc => ?_) (fun hc => ?_)
      · have hX := ite_t hc hX
        refine TK.seq_k fun K19 hK19 => ?_
        refine TK.reg ?_
        refine TL.p (C := cx) (gc := true) (p_mv rfl) rfl rfl ?_
        refine TL.nil ?_
        refine hK19 _ _ ?_
        refine TK.ret ?_
        obtain rfl := hR10 _ (some_in hX).symm
        replace hX := hA10
        try dsimp only [thenQ]
        exact ret1 (v := Enc.v (false : Bool)) rfl (by obtain rfl := some_in hX; rfl) (v_val _)
      · have hX := ite_f hc hX
        refine TK.skip ?_
        refine hK15 _ _ ?_
        refine TK.reg ?_
        refine TL.p (C := cx) (gc := true) (p_mv rfl) rfl rfl ?_
        refine TL.p (C := cx) (gc := true) (p_add rfl rfl) rfl rfl ?_
        refine TL.p (C := cx) (gc := true) (p_mv rfl) rfl rfl ?_
        refine TL.nil ?_
        exact ⟨_, (some_in hX).symm, (), rfl, Nd_nil, HSub.refl _⟩
    · have hX := ite_f hc hX
      refine TK.exit ?_
      obtain rfl := hR10 _ (some_in hX).symm
      exact E10 _ _ ⟨(), rfl, Nd_nil, HSub.refl _⟩ hA10

/-- cartridge/cartridgelaw2.MatrixUndoes -/
theorem ok_cartridgelaw2_MatrixUndoes (m1 : (List (List UInt8))) (v2 : (List UInt8)) (r : Bool) (hX : X.cartridgelaw2_MatrixUndoes m1 v2 = some r) : Fun Try.prog 3 [Enc.v (m1 : (List (List UInt8))), Enc.v (v2 : (List UInt8))] (· = Enc.v (r : Bool)) := by
  refine Fun.of b3 (Nat.le_of_ble_eq_true rfl) (allVal.mem ⟨(by exact (v_val _)), (by exact (v_val _)), trivial⟩) ?_
  unfold k3
  have nd : Nd [] := Nd_nil
  unfold X.cartridgelaw2_MatrixUndoes at hX
  refine TK.seq_k fun K3 hK3 => ?_
  refine TK.reg ?_
  refine TL.p (C := cx) (gc := true) (p_mv rfl) rfl rfl ?_
  refine TL.nil ?_
  refine hK3 _ _ ?_
  refine TK.seq_k fun K4 hK4 => ?_
  refine TK.reg ?_
  obtain ⟨r5, hr5, hX⟩ := bind_some hX
  refine TL.cvX rfl rfl rfl (fun _ => ⟨rfl, trivial⟩) (fun e => ok_cartridgelaw2_alive  _ hr5) ?_
  refine TL.p (C := cx) (gc := true) (p_mv rfl) rfl rfl ?_
  refine TL.nil ?_
  refine hK4 _ _ ?_
  refine TK.seq_k fun K6 hK6 => ?_
  refine TK.seq_k fun K7 hK7 => ?_
  refine TK.reg ?_
  refine TL.p (C := cx) (gc := true) (p_mv rfl) rfl rfl ?_
  refine TL.p (C := cx) (gc := true) (p_not rfl) rfl rfl ?_
  refine TL.p (C := cx) (gc := true) (p_mv rfl) rfl rfl ?_
  refine TL.p (C := cx) (gc := (!((!r5)))) (p_mv rfl (hg := fun e => rfl)) (gcF1 rfl) rfl ?_
  obtain ⟨r8, hr8, hX⟩ := bind_some hX
  refine TL.cvX (gcF1 rfl) rfl rfl (fun e => ⟨rfl, ⟨e, trivial⟩⟩) (fun e => ok_cartridgelaw2_Few m1 _ (optG_t hr8 e)) ?_
  refine TL.p (C := cx) (gc := (!((!r5)))) (p_not rfl (hg := fun e => e)) (gcF1 rfl) rfl ?_
  refine TL.p (C := cx) (gc := true) (p_or rfl rfl (fun e => ⟨rfl, fun h => (not_t h)⟩)) rfl rfl ?_
  refine TL.p (C := cx) (gc := true) (p_mv rfl) rfl rfl ?_
  refine TL.p (C := cx) (gc := (!(((!r5) || (!r8))))) (p_mv rfl (hg := fun e => rfl)) (gcF1 rfl) rfl ?_
  obtain ⟨r9, hr9, hX⟩ := bind_some hX
  refine TL.cvX (gcF1 rfl) rfl rfl (fun e => ⟨rfl, ⟨e, trivial⟩⟩) (fun e => ok_cartridgeref1_RightMatrix m1 _ (optG_t hr9 e)) ?_
  refine TL.p (C := cx) (gc := (!(((!r5) || (!r8))))) (p_not rfl (hg := fun e => e)) (gcF1 rfl) rfl ?_
  refine TL.p (C := cx) (gc := true) (p_or rfl rfl (fun e => ⟨rfl, fun h => (not_t h)⟩)) rfl rfl ?_
  refine TL.p (C := cx) (gc := true) (p_mv rfl) rfl rfl ?_
  refine TL.p (C := cx) (gc := (!((((!r5) || (!r8)) || (!r9))))) (p_mv rfl (hg := fun e => rfl)) (gcF1 rfl) rfl ?_
  refine TL.p (C := cx) (gc := (!((((!r5) || (!r8)) || (!r9))))) (p_lenL (xs := m1) kd22 rfl (hg := fun e => e)) (gcF1 rfl) rfl ?_
  refine TL.p (C := cx) (gc := (!((((!r5) || (!r8)) || (!r9))))) (p_mv rfl (hg := fun e => rfl)) (gcF1 rfl) rfl ?_
  obtain ⟨e10, he10, hX⟩ := bind_some hX
  refine TL.p (C := cx) (gc := (!((((!r5) || (!r8)) || (!r9))))) (p_iaL (xs := m1) kd22 ty23 rfl rfl rfl (fun e => optG_t he10 e) (hg := fun e => ⟨e, rfl⟩)) (gcF1 rfl) rfl ?_
  refine TL.p (C := cx) (gc := (!((((!r5) || (!r8)) || (!r9))))) (p_ldE (xs := m1) (a := e10) (e10 : (List UInt8)) ty23 rfl rfl (fun e => optG_t he10 e) rfl rfl rfl (hg := fun e => e)) (gcF1 rfl) rfl ?_
  refine TL.p (C := cx) (gc := (!((((!r5) || (!r8)) || (!r9))))) (p_lenL (xs := e10) kd23 rfl (hg := fun e => e)) (gcF1 rfl) rfl ?_
  refine TL.p (C := cx) (gc := (!((((!r5) || (!r8)) || (!r9))))) (p_neq rfl rfl (hg := fun e => ⟨e, e⟩)) (gcF1 rfl) rfl ?_
  refine TL.p (C := cx) (gc := true) (p_or rfl rfl (fun e => ⟨rfl, fun h => (not_t h)⟩)) rfl rfl ?_
  refine TL.p (C := cx) (gc := true) (p_mv rfl) rfl rfl ?_
  refine TL.p (C := cx) (gc := (!(((((!r5) || (!r8)) || (!r9)) || ((m1.length : Int) != (e10.length : Int)))))) (p_mv rfl (hg := fun e => rfl)) (gcF1 rfl) rfl ?_
  refine TL.p (C := cx) (gc := (!(((((!r5) || (!r8)) || (!r9)) || ((m1.length : Int) != (e10.length : Int)))))) (p_lenL (xs := v2) kd23 rfl (hg := fun e => e)) (gcF1 rfl) rfl ?_
  refine TL.p (C := cx) (gc := (!(((((!r5) || (!r8)) || (!r9)) || ((m1.length : Int) != (e10.length : Int)))))) (p_mv rfl (hg := fun e => rfl)) (gcF1 rfl) rfl ?_
  refine TL.p (C := cx) (gc := (!(((((!r5) || (!r8)) || (!r9)) || ((m1.length : Int) != (e10.length : Int)))))) (p_lenL (xs := m1) kd22 rfl (hg := fun e => e)) (gcF1 rfl) rfl ?_
  refine TL.p (C := cx) (gc := (!(((((!r5) || (!r8)) || (!r9)) || ((m1.length : Int) != (e10.length : Int)))))) (p_neq rfl rfl (hg := fun e => ⟨e, e⟩)) (gcF1 rfl) rfl ?_
  refine TL.p (C := cx) (gc := true) (p_or rfl rfl (fun e => ⟨rfl, fun h => (not_t h)⟩)) rfl rfl ?_
  refine TL.p (C := cx) (gc := true) (p_mv rfl) rfl rfl ?_
  refine TL.p (C := cx) (gc := (!((((((!r5) || (!r8)) || (!r9)) || ((m1.length : Int) != (e10.length : Int))) || ((v2.length : Int) != (m1.length : Int)))))) (p_mv rfl (hg := fun e => rfl)) (gcF1 rfl) rfl ?_
  refine TL.p (C := cx) (gc := (!((((((!r5) || (!r8)) || (!r9)) || ((m1.length : Int) != (e10.length : Int))) || ((v2.length : Int) != (m1.length : Int)))))) (p_lenL (xs := m1) kd22 rfl (hg := fun e => e)) (gcF1 rfl) rfl ?_
  refine TL.p (C := cx) (gc := (!((((((!r5) || (!r8)) || (!r9)) || ((m1.length : Int) != (e10.length : Int))) || ((v2.length : Int) != (m1.length : Int)))))) (p_gtr rfl rfl (hg := fun e => ⟨e, rfl⟩)) (gcF1 rfl) rfl ?_
  refine TL.p (C := cx) (gc := true) (p_or rfl rfl (fun e => ⟨rfl, fun h => (not_t h)⟩)) rfl rfl ?_
  refine TL.nil ?_
  refine hK7 _ _ ?_
  refine TK.cond (b := ((((((!r5) || (!r8)) || (!r9)) || ((m1.length : Int) != (e10.length : Int))) || ((v2.length : Int) != (m1.length : Int))) || (decide ((m1.length : Int) > (20 : Int))))) rfl (fun hc => ?_) (fun hc => ?_)
  · have hX := ite_t hc hX
    refine TK.seq_k fun K11 hK11 => ?_
    refine TK.reg ?_
    refine TL.p (C := cx) (gc := true) (p_mv rfl) rfl rfl ?_
    refine TL.p (C := cx) (gc := true) (p_mv rfl) rfl rfl ?_
    refine TL.nil ?_
    refine hK11 _ _ ?_
    refine TK.ret ?_
    try dsimp only [thenQ]
    exact ret1 (v := Enc.v (r5 : Bool)) rfl (by obtain rfl := some_in hX; rfl) (v_val _)
  · have hX := ite_f hc hX
    refine TK.skip ?_
    refine hK6 _ _ ?_
    refine TK.seq_k fun K12 hK12 => ?_
    refine TK.reg ?_
    refine TL.p (C := cx) (gc := true) (p_mv rfl) rfl rfl ?_
    obtain ⟨r13, hr13, hX⟩ := bind_some hX
    refine TL.cvX rfl rfl rfl (fun _ => ⟨rfl, ⟨rfl, trivial⟩⟩) (fun e => ok_matrix_Inverse m1 _ hr13) ?_
    refine TL.p (C := cx) (gc := true) (p_mv rfl) rfl rfl ?_
    refine TL.p (C := cx) (gc := true) (p_ex rfl rfl (by decide)) rfl rfl ?_
    refine TL.p (C := cx) (gc := true) (p_ex rfl rfl (by decide)) rfl rfl ?_
    refine TL.p (C := cx) (gc := true) (p_mv rfl) rfl rfl ?_
    refine TL.p (C := cx) (gc := true) (p_mv rfl) rfl rfl ?_
    refine TL.nil ?_
    refine hK12 _ _ ?_
    refine TK.seq_k fun K14 hK14 => ?_
    refine TK.seq_k fun K15 hK15 => ?_
    refine TK.reg ?_
    refine TL.p (C := cx) (gc := true) (p_mv rfl) rfl rfl ?_
    obtain ⟨r16, hr16, hX⟩ := bind_some hX
    refine TL.cvX rfl rfl rfl (fun _ => ⟨rfl, ⟨rfl, trivial⟩⟩) (fun e => ok_cartridgelaw2_num r13.2 _ hr16) ?_
    refine TL.p (C := cx) (gc := true) (p_neq rfl rfl) rfl rfl ?_
    refine TL.nil ?_
    refine hK15 _ _ ?_
    refine TK.cond (b := (r16 != (0 : Int))) rfl (fun hc => ?_) (fun hc => ?_)
    · have hX := ite_t hc hX
      refine TK.seq_k fun K17 hK17 => ?_
      refine TK.reg ?_
      refine TL.p (C := cx) (gc := true) (p_mv rfl) rfl rfl ?_
      obtain ⟨r18, hr18, hX⟩ := bind_some hX
      refine TL.cvX rfl rfl rfl (fun _ => ⟨rfl, ⟨rfl, trivial⟩⟩) (fun e => ok_cartridgelaw2_num r13.2 _ hr18) ?_
      refine TL.p (C := cx) (gc := true) (p_eql rfl rfl) rfl rfl ?_
      refine TL.p (C := cx) (gc := true) (p_mv rfl) rfl rfl ?_
      refine TL.nil ?_
      refine hK17 _ _ ?_
      refine TK.ret ?_
      try dsimp only [thenQ]
      exact ret1 (v := Enc.v ((r18 == (12 : Int)) : Bool)) rfl (by obtain rfl := some_in hX; rfl) (v_val _)
    · have hX := ite_f hc hX
      refine TK.skip ?_
      refine hK14 _ _ ?_
      refine TK.seq_k fun K19 hK19 => ?_
      refine TK.reg ?_
      refine TL.p (C := cx) (gc := true) (p_mv rfl) rfl rfl ?_
      refine TL.p (C := cx) (gc := true) (p_mv rfl) rfl rfl ?_
      obtain ⟨r20, hr20, hX⟩ := bind_some hX
      refine TL.cvX rfl rfl rfl (fun _ => ⟨rfl, ⟨rfl, ⟨rfl, trivial⟩⟩⟩) (fun e => ok_matrix_Apply m1 v2 _ hr20) ?_
      refine TL.p (C := cx) (gc := true) (p_mv rfl) rfl rfl ?_
      refine TL.p (C := cx) (gc := true) (p_ex rfl rfl (by decide)) rfl rfl ?_
      refine TL.p (C := cx) (gc := true) (p_ex rfl rfl (by decide)) rfl rfl ?_
      refine TL.p (C := cx) (gc := true) (p_mv rfl) rfl rfl ?_
      refine TL.p (C := cx) (gc := true) (p_mv rfl) rfl rfl ?_
      refine TL.nil ?_
      refine hK19 _ _ ?_
      refine TK.seq_k fun K21 hK21 => ?_
      refine TK.reg ?_
      refine TL.p (C := cx) (gc := true) (p_mv rfl) rfl rfl ?_
      refine TL.p (C := cx) (gc := true) (p_mv rfl) rfl rfl ?_
      obtain ⟨r22, hr22, hX⟩ := bind_some hX
      refine TL.cvX rfl rfl rfl (fun _ => ⟨rfl, ⟨rfl, ⟨rfl, trivial⟩⟩⟩) (fun e => ok_matrix_Apply r13.1 r20.1 _ hr22) ?_
      refine TL.p (C := cx) (gc := true) (p_mv rfl) rfl rfl ?_
      refine TL.p (C := cx) (gc := true) (p_ex rfl rfl (by decide)) rfl rfl ?_
      refine TL.p (C := cx) (gc := true) (p_ex rfl rfl (by decide)) rfl rfl ?_
      refine TL.p (C := cx) (gc := true) (p_mv rfl) rfl rfl ?_
      refine TL.p (C := cx) (gc := true) (p_mv rfl) rfl rfl ?_
      refine TL.nil ?_
      refine hK21 _ _ ?_
      refine TK.seq_k fun K23 hK23 => ?_
      refine TK.reg ?_
      refine TL.p (C := cx) (gc := true) (p_mv rfl) rfl rfl ?_
      obtain ⟨r24, hr24, hX⟩ := bind_some hX
      refine TL.cvX rfl rfl rfl (fun _ => ⟨rfl, ⟨rfl, trivial⟩⟩) (fun e => ok_cartridgelaw2_num r20.2 _ hr24) ?_
      refine TL.p (C := cx) (gc := true) (p_eql rfl rfl) rfl rfl ?_
      refine TL.p (C := cx) (gc := true) (p_mv rfl) rfl rfl ?_
      refine TL.p (C := cx) (gc := ((r24 == (0 : Int)))) (p_mv rfl (hg := fun e => rfl)) (gcT1 rfl) rfl ?_
      obtain ⟨r25, hr25, hX⟩ := bind_some hX
      refine TL.cvX (gcT1 rfl) rfl rfl (fun e => ⟨rfl, ⟨e, trivial⟩⟩) (fun e => ok_cartridgelaw2_num r22.2 _ (optG_t hr25 e)) ?_
      refine TL.p (C := cx) (gc := ((r24 == (0 : Int)))) (p_eql rfl rfl (hg := fun e => ⟨e, rfl⟩)) (gcT1 rfl) rfl ?_
      refine TL.p (C := cx) (gc := true) (p_and rfl rfl (fun e => ⟨rfl, fun h => h⟩)) rfl rfl ?_
      refine TL.p (C := cx) (gc := true) (p_mv rfl) rfl rfl ?_
      refine TL.p (C := cx) (gc := (((r24 == (0 : Int)) && (r25 == (0 : Int))))) (p_mv rfl (hg := fun e => rfl)) (gcT1 rfl) rfl ?_
      refine TL.ofV (gc := (((r24 == (0 : Int)) && (r25 == (0 : Int))))) (vok_cvtBS (C := cx) (gc := (((r24 == (0 : Int)) && (r25 == (0 : Int))))) (xs := r22.1) kd23 kd5 kd9 rfl (look_v (v := Enc.v (r22.1 : (List UInt8))) (v_val _)) (hg := fun e => e)) (gcT1 rfl) rfl ?_
      refine TL.p (C := cx) (gc := (((r24 == (0 : Int)) && (r25 == (0 : Int))))) (p_mv rfl (hg := fun e => rfl)) (gcT1 rfl) rfl ?_
      refine TL.ofV (gc := (((r24 == (0 : Int)) && (r25 == (0 : Int))))) (vok_cvtBS (C := cx) (gc := (((r24 == (0 : Int)) && (r25 == (0 : Int))))) (xs := v2) kd23 kd5 kd9 rfl (look_v (v := Enc.v (v2 : (List UInt8))) (v_val _)) (hg := fun e => e)) (gcT1 rfl) rfl ?_
      refine TL.p (C := cx) (gc := (((r24 == (0 : Int)) && (r25 == (0 : Int))))) (ps_eql (s := (Str.mk r22.1)) (r := (Str.mk v2)) rfl rfl (hg := fun e => ⟨e, e⟩)) (gcT1 rfl) rfl ?_
      refine TL.p (C := cx) (gc := true) (p_and rfl rfl (fun e => ⟨rfl, fun h => h⟩)) rfl rfl ?_
      refine TL.p (C := cx) (gc := true) (p_mv rfl) rfl rfl ?_
      refine TL.nil ?_
      refine hK23 _ _ ?_
      refine TK.ret ?_
      try dsimp only [thenQ]
      exact ret1 (v := Enc.v ((((r24 == (0 : Int)) && (r25 == (0 : Int))) && ((Str.mk r22.1).l == (Str.mk v2).l)) : Bool)) rfl (by obtain rfl := some_in hX; rfl) (v_val _)

end Go.Proofs.Ytgkbjnhpmlfgdaa
