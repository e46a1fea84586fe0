import Derived.Test.YtgkbjnhpmlfgdaaXFn
import Derived.Test.YtgkbjnhpmlfgdaaXS
import Derived.Test.YtgkbjnhpmlfgdaaAmK0
import Derived.Test.YtgkbjnhpmlfgdaaXP0
/- That they do. -/
namespace Go.Proofs.Ytgkbjnhpmlfgdaa
open Go.AM Go.AX
set_option linter.unusedVariables false
set_option maxRecDepth 20000

/-- cartridge/cartridgeref22.NewRobot -/
theorem ok_cartridgeref22_NewRobot (labels1 : (List Int)) (drives2 : Int) (nd : Nd []) (r : ((Option ((List Int) × (List Int) × (List Int) × (List Int) × (List Int))) × Int)) (hX : X.cartridgeref22_NewRobot labels1 drives2 = some r) : TCX Try.prog 45 [Enc.v (labels1 : (List Int)), Enc.v (drives2 : Int)] [] (fun rv h' => match r.1 with | none => (rv = .tup 2 (ofL [.nilp, Enc.v (r.2 : Int)]) ∧ h' = []) | some ov => (∃ b25 b26 b27 b28 b29 b30 b31 pre32, rv = .tup 2 (ofL [.ref b25 0 3, Enc.v (r.2 : Int)]) ∧ h' = [(b25, RV 84 [.ref b26 0 3, OL (α := Int) b30 ov.2.2.2.1, OQ (α := Int) b31 pre32 ov.2.2.2.2]), (b26, RV 118 [OL (α := Int) b27 ov.1, OL (α := Int) b28 ov.2.1, OL (α := Int) b29 ov.2.2.1]), (b27, RL (α := Int) 3 ov.1), (b28, RL (α := Int) 3 ov.2.1), (b29, RL (α := Int) 3 ov.2.2.1), (b30, RL (α := Int) 3 ov.2.2.2.1), (b31, RL (α := Int) 3 (pre32 ++ ov.2.2.2.2))])) := by
  refine TCX.of b45 (Nat.le_of_ble_eq_true rfl) ?_
  unfold k45
  unfold X.cartridgeref22_NewRobot at hX
  refine TK.seq_k fun K3 hK3 => ?_
  refine TK.reg ?_
  refine TL.p (C := cx) (gc := true) (p_mv rfl) rfl rfl ?_
  refine TL.p (C := cx) (gc := true) (p_mv rfl) rfl rfl ?_
  refine TL.nil ?_
  refine hK3 _ _ ?_
  refine TK.seq_k fun K4 hK4 => ?_
  refine TK.reg ?_
  refine TL.p (C := cx) (gc := true) (p_mv rfl) rfl rfl ?_
  refine TL.p (C := cx) (gc := true) (p_mv rfl) rfl rfl ?_
  obtain ⟨r5, hr5, hX⟩ := bind_some hX
  refine TL.tcX [] [] rfl nd (dlt rfl) rfl ⟨rfl, ⟨rfl, ⟨rfl, trivial⟩⟩⟩ (ok_cartridgeref22_NewShelf labels1 drives2 (Nd.take nd 0 rfl) _ hr5) ?_
  rintro _ _ hQ nd
  cases hqr5 : r5.1 with
  | none =>
    simp only [hqr5] at hQ hX
    obtain ⟨rfl, rfl⟩ := hQ
    refine TL.p (C := cx) (gc := true) (p_mv rfl) rfl rfl ?_
    refine TL.p (C := cx) (gc := true) (p_ex rfl rfl (by decide)) rfl rfl ?_
    refine TL.p (C := cx) (gc := true) (p_ex rfl rfl (by decide)) rfl rfl ?_
    refine TL.p (C := cx) (gc := true) (p_mv rfl) rfl rfl ?_
    refine TL.p (C := cx) (gc := true) (p_mv rfl) rfl rfl ?_
    refine TL.nil ?_
    refine hK4 _ _ ?_
    refine TK.seq_k fun K6 hK6 => ?_
    refine TK.seq_k fun K7 hK7 => ?_
    refine TK.reg ?_
    refine TL.p (C := cx) (gc := true) (p_mv rfl) rfl rfl ?_
    refine TL.p (C := cx) (gc := true) (p_neq rfl rfl) rfl rfl ?_
    refine TL.nil ?_
    refine hK7 _ _ ?_
    refine TK.cond (b := (r5.2 != (0 : Int))) rfl (fun hc => ?_) (fun hc => ?_)
    · have hX := ite_t hc hX
      refine TK.seq_k fun K8 hK8 => ?_
      refine TK.reg ?_
      refine TL.p (C := cx) (gc := true) (p_mv rfl) rfl rfl ?_
      refine TL.p (C := cx) (gc := true) (p_mv rfl) rfl rfl ?_
      refine TL.p (C := cx) (gc := true) (p_mv rfl) rfl rfl ?_
      refine TL.nil ?_
      refine hK8 _ _ ?_
      refine TK.ret ?_
      try dsimp only [thenQ]
      exact retX (v := .tup 2 (ofL [.nilp, Enc.v (r5.2 : Int)])) (resN (vs := [.nilp, Enc.v (r5.2 : Int)]) ⟨rfl, rfl, trivial⟩) (by obtain rfl := some_in hX; exact ⟨rfl, rfl⟩) nd (inH_tup (l := [.nilp, Enc.v (r5.2 : Int)]) ⟨trivial, inH_val (v_val _), trivial⟩) trivial
    · have hX := ite_f hc hX
      refine TK.skip ?_
      refine hK6 _ _ ?_
      refine TK.seq_k fun K9 hK9 => ?_
      refine TK.reg ?_
      refine TL.p (C := cx) (gc := true) (p_mv rfl) rfl rfl ?_
      refine TL.p (C := cx) (gc := true) (p_bld (l := [.nilp, .nils, .nils]) ty84 rfl all84 rfl (fun _ => ⟨⟨rfl, trivial, rfl⟩, trivial⟩)) rfl rfl ?_
      refine TL.boxO (C := cx) (lu := [.nilp, .nils, .nils]) nd rfl (Cells_agg rfl (allA.mem ⟨trivial, trivial, trivial, trivial⟩)) rfl fun b10 nd => ?_
      refine TL.p (C := cx) (gc := true) (p_mv rfl) rfl rfl ?_
      refine TL.p (C := cx) (gc := true) (p_mv rfl) rfl rfl ?_
      refine TL.nil ?_
      refine hK9 _ _ ?_
      refine TK.ownC (α := Int) nd (j := 0) rfl 1 3 (.inl rfl) fun b11 nd => ?_
      refine TK.ownC (α := Int) nd (j := 1) rfl 2 3 (.inl rfl) fun b12 nd => ?_
      cases hX
  | some o13 =>
    simp only [hqr5] at hQ hX
    obtain ⟨b14, b15, b16, b17, rfl, rfl⟩ := hQ
    refine TL.p (C := cx) (gc := true) (p_mv rfl) rfl rfl ?_
    refine TL.p (C := cx) (gc := true) (p_ex rfl rfl (by decide)) rfl rfl ?_
    refine TL.p (C := cx) (gc := true) (p_ex rfl rfl (by decide)) rfl rfl ?_
    refine TL.p (C := cx) (gc := true) (p_mv rfl) rfl rfl ?_
    refine TL.p (C := cx) (gc := true) (p_mv rfl) rfl rfl ?_
    refine TL.nil ?_
    refine hK4 _ _ ?_
    refine TK.seq_k fun K18 hK18 => ?_
    refine TK.seq_k fun K19 hK19 => ?_
    refine TK.reg ?_
    refine TL.p (C := cx) (gc := true) (p_mv rfl) rfl rfl ?_
    refine TL.p (C := cx) (gc := true) (p_neq rfl rfl) rfl rfl ?_
    refine TL.nil ?_
    refine hK19 _ _ ?_
    refine TK.cond (b := (r5.2 != (0 : Int))) rfl (fun hc => ?_) (fun hc => ?_)
    · have hX := ite_t hc hX
      refine TK.seq_k fun K20 hK20 => ?_
      refine TK.reg ?_
      refine TL.p (C := cx) (gc := true) (p_mv rfl) rfl rfl ?_
      refine TL.p (C := cx) (gc := true) (p_mv rfl) rfl rfl ?_
      refine TL.p (C := cx) (gc := true) (p_mv rfl) rfl rfl ?_
      refine TL.nil ?_
      refine hK20 _ _ ?_
      refine TK.pick [] nd (by decide) fun nd => ?_
      refine TK.ret ?_
      try dsimp only [thenQ]
      exact retX (v := .tup 2 (ofL [.nilp, Enc.v (r5.2 : Int)])) (resN (vs := [.nilp, Enc.v (r5.2 : Int)]) ⟨rfl, rfl, trivial⟩) (by obtain rfl := some_in hX; exact ⟨rfl, rfl⟩) nd (inH_tup (l := [.nilp, Enc.v (r5.2 : Int)]) ⟨trivial, inH_val (v_val _), trivial⟩) trivial
    · have hX := ite_f hc hX
      refine TK.skip ?_
      refine hK18 _ _ ?_
      refine TK.seq_k fun K21 hK21 => ?_
      refine TK.reg ?_
      refine TL.p (C := cx) (gc := true) (p_mv rfl) rfl rfl ?_
      refine TL.p (C := cx) (gc := true) (p_bld (l := [.ref b14 0 3, .nils, .nils]) ty84 rfl all84 rfl (fun _ => ⟨⟨rfl, (refOK_of nd (j := 0) rfl rfl), rfl⟩, trivial⟩)) rfl rfl ?_
      refine TL.boxO (C := cx) (lu := [.ref b14 0 3, .nils, .nils]) nd rfl (Cells_agg rfl (allA.mem ⟨oneA_ref (refOK_of nd (j := 0) rfl rfl), trivial, trivial, trivial⟩)) rfl fun b22 nd => ?_
      refine TL.p (C := cx) (gc := true) (p_mv rfl) rfl rfl ?_
      refine TL.p (C := cx) (gc := true) (p_mv rfl) rfl rfl ?_
      refine TL.nil ?_
      refine hK21 _ _ ?_
      refine TK.ownC (α := Int) nd (j := 0) rfl 1 3 (.inl rfl) fun b23 nd => ?_
      refine TK.ownC (α := Int) nd (j := 1) rfl 2 3 (.inl rfl) fun b24 nd => ?_
      refine TK.pick [2, 3, 4, 5, 6, 1, 0] nd (by decide) fun nd => ?_
      refine TK.ret ?_
      try dsimp only [thenQ]
      exact retX (v := .tup 2 (ofL [.ref b22 0 3, Enc.v ((0 : Int) : Int)])) (resN (vs := [.ref b22 0 3, Enc.v ((0 : Int) : Int)]) ⟨rfl, rfl, trivial⟩) (by obtain rfl := some_in hX; exact ⟨b22, b14, b15, b16, b17, b23, b24, ([] : List Int), rfl, rfl⟩) nd (inH_tup (l := [.ref b22 0 3, Enc.v ((0 : Int) : Int)]) ⟨inH_ref nd (j := 0) rfl, inH_val (v_val _), trivial⟩) ⟨rowIn_RV ⟨inH_ref nd (j := 1) rfl, inH_rs nd (j := 5) rfl, inH_rs nd (j := 6) rfl, trivial⟩, rowIn_RV ⟨inH_rs nd (j := 2) rfl, inH_rs nd (j := 3) rfl, inH_rs nd (j := 4) rfl, trivial⟩, rowIn_RL, rowIn_RL, rowIn_RL, rowIn_RL, rowIn_RL, trivial⟩

/-- (*cartridge/robot.Robot).is -/
theorem ok_robot_Robot_is_nil (label1 : Int) (r : Bool) (hX : X.robot_Robot_is_nil label1 = some r) : Fun Try.prog 79 [.nilp, Enc.v (label1 : Int)] (· = Enc.v (r : Bool)) := by
  refine Fun.of b79 (Nat.le_of_ble_eq_true rfl) (allVal.mem ⟨(by exact trivial), (by exact (v_val _)), trivial⟩) ?_
  unfold k79
  have nd : Nd [] := Nd_nil
  unfold X.robot_Robot_is_nil at hX
  refine TK.seq_k fun K2 hK2 => ?_
  refine TK.reg ?_
  refine TL.p (C := cx) (gc := true) (p_mv rfl) rfl rfl ?_
  refine TL.nil ?_
  refine hK2 _ _ ?_
  refine TK.seq_k fun K3 hK3 => ?_
  refine TK.reg ?_
  refine TL.p (C := cx) (gc := true) (p_mv rfl) rfl rfl ?_
  refine TL.p (C := cx) (gc := true) (p_neN kd64 rfl rfl) rfl rfl ?_
  refine TL.p (C := cx) (gc := true) (p_mv rfl) rfl rfl ?_
  refine TL.p (C := cx) (gc := false) (v := .nilp) (fun e => by cases e) rfl rfl ?_
  refine TL.p (C := cx) (gc := false) (v := .nilp) (fun e => by cases e) rfl rfl ?_
  refine TL.p (C := cx) (gc := false) (v := .nilp) (fun e => by cases e) rfl rfl ?_
  refine TL.p (C := cx) (gc := false) (v := .nilp) (fun e => by cases e) rfl rfl ?_
  refine TL.p (C := cx) (gc := false) (v := Enc.v ((0 : Int) : Int)) (fun e => by cases e) rfl rfl ?_
  refine TL.p (C := cx) (gc := false) (v := Enc.v (false : Bool)) (fun e => by cases e) rfl rfl ?_
  refine TL.p (C := cx) (gc := true) (p_and rfl rfl (fun e => ⟨rfl, fun h => h⟩)) rfl rfl ?_
  refine TL.p (C := cx) (gc := true) (p_mv rfl) rfl rfl ?_
  refine TL.nil ?_
  refine hK3 _ _ ?_
  refine TK.ret ?_
  try dsimp only [thenQ]
  exact ret1 (v := Enc.v (false : Bool)) rfl (by obtain rfl := some_in hX; rfl) (v_val _)

/-- (*cartridge/robot.Robot).Ask -/
theorem ok_robot_Robot_Ask_nil (label1 : Int) (r : Int) (hX : X.robot_Robot_Ask_nil label1 = some r) : Fun Try.prog 46 [.nilp, Enc.v (label1 : Int)] (· = Enc.v (r : Int)) := by
  refine Fun.of b46 (Nat.le_of_ble_eq_true rfl) (allVal.mem ⟨(by exact trivial), (by exact (v_val _)), trivial⟩) ?_
  unfold k46
  have nd : Nd [] := Nd_nil
  unfold X.robot_Robot_Ask_nil at hX
  refine TK.seq_k fun K2 hK2 => ?_
  refine TK.reg ?_
  refine TL.p (C := cx) (gc := true) (p_mv rfl) rfl rfl ?_
  refine TL.nil ?_
  refine hK2 _ _ ?_
  refine TK.seq_k fun K3 hK3 => ?_
  refine TK.seq_k fun K4 hK4 => ?_
  refine TK.reg ?_
  refine TL.p (C := cx) (gc := true) (p_mv rfl) rfl rfl ?_
  refine TL.p (C := cx) (gc := true) (p_mv rfl) rfl rfl ?_
  obtain ⟨r5, hr5, hX⟩ := bind_some hX
  refine TL.cvX rfl rfl rfl (fun _ => ⟨rfl, ⟨rfl, ⟨rfl, trivial⟩⟩⟩) (fun e => ok_robot_Robot_is_nil label1 _ hr5) ?_
  refine TL.p (C := cx) (gc := true) (p_not rfl) rfl rfl ?_
  refine TL.nil ?_
  refine hK4 _ _ ?_
  refine TK.cond (b := (!r5)) rfl (fun hc => ?_) (fun hc => ?_)
  · have hX := ite_t hc hX
    refine TK.seq_k fun K6 hK6 => ?_
    refine TK.reg ?_
    refine TL.p (C := cx) (gc := true) (p_mv rfl) rfl rfl ?_
    refine TL.nil ?_
    refine hK6 _ _ ?_
    refine TK.ret ?_
    try dsimp only [thenQ]
    exact ret1 (v := Enc.v ((1 : Int) : Int)) rfl (by obtain rfl := some_in hX; rfl) (v_val _)
  · have hX := ite_f hc hX
    refine TK.skip ?_
    refine hK3 _ _ ?_
    refine TK.seq_k fun K7 hK7 => ?_
    refine TK.reg ?_
    refine TL.p (C := cx) (gc := true) (p_mv rfl) rfl rfl ?_
    cases hX

/-- (*cartridge/cartridgeref22.Robot).Ask -/
theorem ok_cartridgeref22_Robot_Ask_nil (label1 : Int) (r : Int) (hX : X.cartridgeref22_Robot_Ask_nil label1 = some r) : Fun Try.prog 47 [.nilp, Enc.v (label1 : Int)] (· = Enc.v (r : Int)) := by
  refine Fun.of b47 (Nat.le_of_ble_eq_true rfl) (allVal.mem ⟨(by exact trivial), (by exact (v_val _)), trivial⟩) ?_
  unfold k47
  have nd : Nd [] := Nd_nil
  unfold X.cartridgeref22_Robot_Ask_nil at hX
  refine TK.seq_k fun K2 hK2 => ?_
  refine TK.reg ?_
  refine TL.p (C := cx) (gc := true) (p_mv rfl) rfl rfl ?_
  refine TL.nil ?_
  refine hK2 _ _ ?_
  refine TK.seq_k fun K3 hK3 => ?_
  refine TK.seq_k fun K4 hK4 => ?_
  refine TK.reg ?_
  refine TL.p (C := cx) (gc := true) (p_mv rfl) rfl rfl ?_
  cases hX

/-- (*cartridge/robot.Robot).Waiting -/
theorem ok_robot_Robot_Waiting_nil  (r : Int) (hX : X.robot_Robot_Waiting_nil = some r) : Fun Try.prog 44 [.nilp] (· = Enc.v (r : Int)) := by
  refine Fun.of b44 (Nat.le_of_ble_eq_true rfl) (allVal.mem ⟨(by exact trivial), trivial⟩) ?_
  unfold k44
  have nd : Nd [] := Nd_nil
  unfold X.robot_Robot_Waiting_nil at hX
  refine TK.seq_k fun K1 hK1 => ?_
  refine TK.reg ?_
  refine TL.p (C := cx) (gc := true) (p_mv rfl) rfl rfl ?_
  refine TL.nil ?_
  refine hK1 _ _ ?_
  refine TK.seq_k fun K2 hK2 => ?_
  refine TK.seq_k fun K3 hK3 => ?_
  refine TK.reg ?_
  refine TL.p (C := cx) (gc := true) (p_mv rfl) rfl rfl ?_
  refine TL.p (C := cx) (gc := true) (p_eqN kd64 rfl rfl) rfl rfl ?_
  refine TL.nil ?_
  refine hK3 _ _ ?_
  refine TK.cond (b := true) rfl (fun _ => ?_) (fun hc => by simp at hc)
  refine TK.seq_k fun K4 hK4 => ?_
  refine TK.reg ?_
  refine TL.p (C := cx) (gc := true) (p_mv rfl) rfl rfl ?_
  refine TL.nil ?_
  refine hK4 _ _ ?_
  refine TK.ret ?_
  try dsimp only [thenQ]
  exact ret1 (v := Enc.v ((0 : Int) : Int)) rfl (by obtain rfl := some_in hX; rfl) (v_val _)

/-- (*cartridge/robot.Robot).ready -/
theorem ok_robot_Robot_ready_nil  (r : (Int × Bool)) (hX : X.robot_Robot_ready_nil = some r) : Fun Try.prog 81 [.nilp] (· = .tup 2 (ofL [Enc.v r.1, Enc.v r.2])) := by
  refine Fun.of b81 (Nat.le_of_ble_eq_true rfl) (allVal.mem ⟨(by exact trivial), trivial⟩) ?_
  unfold k81
  have nd : Nd [] := Nd_nil
  unfold X.robot_Robot_ready_nil at hX
  refine TK.seq_k fun K1 hK1 => ?_
  refine TK.reg ?_
  refine TL.p (C := cx) (gc := true) (p_mv rfl) rfl rfl ?_
  refine TL.p (C := cx) (gc := true) (p_mv rfl) rfl rfl ?_
  refine TL.nil ?_
  refine hK1 _ _ ?_
  refine TK.seq_k fun K2 hK2 => ?_
  refine TK.seq_k fun K3 hK3 => ?_
  refine TK.reg ?_
  refine TL.p (C := cx) (gc := true) (p_mv rfl) rfl rfl ?_
  cases hX

/-- (*cartridge/robot.Robot).pick -/
theorem ok_robot_Robot_pick_nil  (r : Unit) (hX : X.robot_Robot_pick_nil = some r) : Fun Try.prog 86 [.nilp] (· = .tup 0 (ofL [])) := by
  refine Fun.of b86 (Nat.le_of_ble_eq_true rfl) (allVal.mem ⟨(by exact trivial), trivial⟩) ?_
  unfold k86
  have nd : Nd [] := Nd_nil
  unfold X.robot_Robot_pick_nil at hX
  refine TK.endK fun KE hKE => ?_
  refine TK.seq_k fun K1 hK1 => ?_
  refine TK.reg ?_
  refine TL.p (C := cx) (gc := true) (p_mv rfl) rfl rfl ?_
  cases hX

/-- (*cartridge/robot.Robot).Step -/
theorem ok_robot_Robot_Step_nil (fail1 : Bool) (r : Bool) (hX : X.robot_Robot_Step_nil fail1 = some r) : Fun Try.prog 48 [.nilp, Enc.v (fail1 : Bool)] (· = Enc.v (r : Bool)) := by
  refine Fun.of b48 (Nat.le_of_ble_eq_true rfl) (allVal.mem ⟨(by exact trivial), (by exact (v_val _)), trivial⟩) ?_
  unfold k48
  have nd : Nd [] := Nd_nil
  unfold X.robot_Robot_Step_nil at hX
  refine TK.seq_k fun K2 hK2 => ?_
  refine TK.reg ?_
  refine TL.p (C := cx) (gc := true) (p_mv rfl) rfl rfl ?_
  refine TL.nil ?_
  refine hK2 _ _ ?_
  refine TK.seq_k fun K3 hK3 => ?_
  refine TK.seq_k fun K4 hK4 => ?_
  refine TK.reg ?_
  refine TL.p (C := cx) (gc := true) (p_mv rfl) rfl rfl ?_
  obtain ⟨r5, hr5, hX⟩ := bind_some hX
  refine TL.cvX rfl rfl rfl (fun _ => ⟨rfl, ⟨rfl, trivial⟩⟩) (fun e => ok_robot_Robot_Waiting_nil  _ hr5) ?_
  refine TL.p (C := cx) (gc := true) (p_eql rfl rfl) rfl rfl ?_
  refine TL.nil ?_
  refine hK4 _ _ ?_
  refine TK.cond (b := (r5 == (0 : Int))) rfl (fun hc => ?_) (fun hc => ?_)
  · have hX := ite_t hc hX
    refine TK.seq_k fun K6 hK6 => ?_
    refine TK.reg ?_
    refine TL.p (C := cx) (gc := true) (p_mv rfl) rfl rfl ?_
    refine TL.nil ?_
    refine hK6 _ _ ?_
    refine TK.ret ?_
    try dsimp only [thenQ]
    exact ret1 (v := Enc.v (false : Bool)) rfl (by obtain rfl := some_in hX; rfl) (v_val _)
  · have hX := ite_f hc hX
    refine TK.skip ?_
    refine hK3 _ _ ?_
    refine TK.seq_k fun K7 hK7 => ?_
    refine TK.seq_k fun K8 hK8 => ?_
    refine TK.reg ?_
    refine TL.p (C := cx) (gc := true) (p_mv rfl) rfl rfl ?_
    obtain ⟨r9, hr9, hX⟩ := bind_some hX
    refine TL.cvX rfl rfl rfl (fun _ => ⟨rfl, ⟨rfl, trivial⟩⟩) (fun e => ok_robot_Robot_ready_nil  _ hr9) ?_
    refine TL.p (C := cx) (gc := true) (p_mv rfl) rfl rfl ?_
    refine TL.p (C := cx) (gc := true) (p_ex rfl rfl (by decide)) rfl rfl ?_
    refine TL.p (C := cx) (gc := true) (p_ex rfl rfl (by decide)) rfl rfl ?_
    refine TL.p (C := cx) (gc := true) (p_mv rfl) rfl rfl ?_
    refine TL.p (C := cx) (gc := true) (p_mv rfl) rfl rfl ?_
    refine TL.nil ?_
    refine hK8 _ _ ?_
    refine TK.seq_k fun K10 hK10 => ?_
    refine TK.reg ?_
    refine TL.p (C := cx) (gc := true) (p_mv rfl) rfl rfl ?_
    refine TL.nil ?_
    refine hK10 _ _ ?_
    refine TK.cond (b := r9.2) rfl (fun hc => ?_) (fun hc => ?_)
    · have hX := ite_t hc hX
      refine TK.seq_k fun K11 hK11 => ?_
      refine TK.reg ?_
      refine TL.p (C := cx) (gc := true) (p_mv rfl) rfl rfl ?_
      cases hX
    · have hX := ite_f hc hX
      refine TK.skip ?_
      refine hK7 _ _ ?_
      refine TK.seq_k fun K12 hK12 => ?_
      have J12 : ∀ (env : Env) (h : Hp), (∃ _u : Unit, keepE [0] env = [(0, true, .nilp)] ∧ Nd [] ∧ HSub [] h) → X.robot_Robot_Step_nil_j12 = some r → K12 env h := by
        intro  env h hE hX
        obtain ⟨_u, henv, nd, hs⟩ := hE
        unfold X.robot_Robot_Step_nil_j12 at hX
        refine hK12 _ _ (TK.keep [0] ?_)
        rw [henv]
        refine TK.subH hs ?_
        refine TK.seq_k fun K13 hK13 => ?_
        refine TK.reg ?_
        refine TL.p (C := cx) (gc := true) (p_mv rfl) rfl rfl ?_
        refine TL.nil ?_
        refine hK13 _ _ ?_
        refine TK.ret ?_
        try dsimp only [thenQ]
        exact ret1 (v := Enc.v (true : Bool)) rfl (by obtain rfl := some_in hX; rfl) (v_val _)
      refine TK.seq_k fun K14 hK14 => ?_
      refine TK.reg ?_
      refine TL.p (C := cx) (gc := true) (p_mv rfl) rfl rfl ?_
      refine TL.p (C := cx) (gc := true) (p_not rfl) rfl rfl ?_
      refine TL.nil ?_
      refine hK14 _ _ ?_
      refine TK.cond (b := (!fail1)) rfl (fun hc => ?_) (fun hc => ?_)
      · have hX := ite_t hc hX
        refine TK.reg ?_
        refine TL.p (C := cx) (gc := true) (p_mv rfl) rfl rfl ?_
        obtain ⟨r15, hr15, hX⟩ := bind_some hX
        refine TL.cvX rfl rfl rfl (fun _ => ⟨rfl, ⟨rfl, trivial⟩⟩) (fun e => ok_robot_Robot_pick_nil  _ hr15) ?_
        refine TL.nil ?_
        exact J12 _ _ ⟨(), rfl, Nd_nil, HSub.refl _⟩ hX
      · have hX := ite_f hc hX
        refine TK.skip ?_
        exact J12 _ _ ⟨(), rfl, Nd_nil, HSub.refl _⟩ hX

/-- (*cartridge/cartridgeref22.Robot).Step -/
theorem ok_cartridgeref22_Robot_Step_nil (fail1 : Bool) (r : Bool) (hX : X.cartridgeref22_Robot_Step_nil fail1 = some r) : Fun Try.prog 49 [.nilp, Enc.v (fail1 : Bool)] (· = Enc.v (r : Bool)) := by
  refine Fun.of b49 (Nat.le_of_ble_eq_true rfl) (allVal.mem ⟨(by exact trivial), (by exact (v_val _)), trivial⟩) ?_
  unfold k49
  have nd : Nd [] := Nd_nil
  unfold X.cartridgeref22_Robot_Step_nil at hX
  refine TK.seq_k fun K2 hK2 => ?_
  refine TK.reg ?_
  refine TL.p (C := cx) (gc := true) (p_mv rfl) rfl rfl ?_
  refine TL.nil ?_
  refine hK2 _ _ ?_
  refine TK.seq_k fun K3 hK3 => ?_
  refine TK.seq_k fun K4 hK4 => ?_
  refine TK.reg ?_
  refine TL.p (C := cx) (gc := true) (p_mv rfl) rfl rfl ?_
  cases hX

/-- (*cartridge/robot.Robot).Serve -/
theorem ok_robot_Robot_Serve_nil (labels1 : (List Int)) (fails2 : Int) (r : (Int × Int)) (hX : X.robot_Robot_Serve_nil labels1 fails2 = some r) : Fun Try.prog 43 [.nilp, Enc.v (labels1 : (List Int)), Enc.v (fails2 : Int)] (· = .tup 2 (ofL [Enc.v r.1, Enc.v r.2])) := by
  refine Fun.of b43 (Nat.le_of_ble_eq_true rfl) (allVal.mem ⟨(by exact trivial), (by exact (v_val _)), (by exact (v_val _)), trivial⟩) ?_
  unfold k43
  have nd : Nd [] := Nd_nil
  unfold X.robot_Robot_Serve_nil at hX
  refine TK.seq_k fun K3 hK3 => ?_
  refine TK.reg ?_
  refine TL.boxV (C := cx) (lu := [.nilp]) nd rfl (Cells_one trivial) rfl ?_
  refine TL.p (C := cx) (gc := true) (p_mv rfl) rfl rfl ?_
  refine TL.p (C := cx) (gc := true) (p_mv rfl) rfl rfl ?_
  refine TL.nil ?_
  refine hK3 _ _ ?_
  refine TK.seq_k fun K4 hK4 => ?_
  refine TK.seq_k fun K5 hK5 => ?_
  refine TK.reg ?_
  refine TL.p (C := cx) (gc := true) (p_ldR (v := .nilp) ty64 rfl rfl rfl rfl rfl rfl) rfl rfl ?_
  refine TL.p (C := cx) (gc := true) (p_eqN kd64 rfl rfl) rfl rfl ?_
  refine TL.p (C := cx) (gc := true) (p_mv rfl) rfl rfl ?_
  refine TL.p (C := cx) (gc := false) (v := .nilp) (fun e => by cases e) rfl rfl ?_
  refine TL.p (C := cx) (gc := false) (v := .nilp) (fun e => by cases e) rfl rfl ?_
  refine TL.p (C := cx) (gc := false) (v := Enc.v (false : Bool)) (fun e => by cases e) rfl rfl ?_
  refine TL.p (C := cx) (gc := true) (p_or rfl rfl (fun e => ⟨rfl, fun h => (by cases h)⟩)) rfl rfl ?_
  refine TL.nil ?_
  refine hK5 _ _ ?_
  refine TK.cond (b := true) rfl (fun _ => ?_) (fun hc => by simp at hc)
  refine TK.seq_k fun K6 hK6 => ?_
  refine TK.reg ?_
  refine TL.p (C := cx) (gc := true) (p_mv rfl) rfl rfl ?_
  refine TL.p (C := cx) (gc := true) (p_mv rfl) rfl rfl ?_
  refine TL.nil ?_
  refine hK6 _ _ ?_
  refine TK.ret ?_
  try dsimp only [thenQ]
  exact retN (vs := [Enc.v ((0 : Int) : Int), Enc.v ((1 : Int) : Int)]) ⟨rfl, rfl, trivial⟩ (by obtain rfl := some_in hX; rfl) (allVal.mem ⟨v_val _, v_val _, trivial⟩)

/-- (*cartridge/cartridgeref22.Robot).Serve -/
theorem ok_cartridgeref22_Robot_Serve_nil (labels1 : (List Int)) (fails2 : Int) (r : (Int × Int)) (hX : X.cartridgeref22_Robot_Serve_nil labels1 fails2 = some r) : Fun Try.prog 50 [.nilp, Enc.v (labels1 : (List Int)), Enc.v (fails2 : Int)] (· = .tup 2 (ofL [Enc.v r.1, Enc.v r.2])) := by
  refine Fun.of b50 (Nat.le_of_ble_eq_true rfl) (allVal.mem ⟨(by exact trivial), (by exact (v_val _)), (by exact (v_val _)), trivial⟩) ?_
  unfold k50
  have nd : Nd [] := Nd_nil
  unfold X.cartridgeref22_Robot_Serve_nil at hX
  refine TK.seq_k fun K3 hK3 => ?_
  refine TK.reg ?_
  refine TL.p (C := cx) (gc := true) (p_mv rfl) rfl rfl ?_
  refine TL.p (C := cx) (gc := true) (p_mv rfl) rfl rfl ?_
  refine TL.nil ?_
  refine hK3 _ _ ?_
  refine TK.seq_k fun K4 hK4 => ?_
  refine TK.seq_k fun K5 hK5 => ?_
  refine TK.reg ?_
  refine TL.p (C := cx) (gc := true) (p_mv rfl) rfl rfl ?_
  refine TL.nil ?_
  refine hK5 _ _ ?_
  refine TK.block ?_
  obtain ⟨o6, hO6, hA6⟩ := bind_some hX
  have E6 : ∀ (env : Env) (h : Hp), (∃ _u : Unit, keepE [0, 1, 2] env = [(0, true, .nilp), (1, true, Enc.v (labels1 : (List Int))), (2, true, Enc.v (fails2 : Int))] ∧ Nd [] ∧ HSub [] h) → X.cartridgeref22_Robot_Serve_nil_e6 = some r → K4 env h := by
    intro  env h hE hX
    obtain ⟨_u, henv, nd, hs⟩ := hE
    unfold X.cartridgeref22_Robot_Serve_nil_e6 at hX
    refine hK4 _ _ (TK.keep [0, 1, 2] ?_)
    rw [henv]
    refine TK.subH hs ?_
    refine TK.seq_k fun K7 hK7 => ?_
    refine TK.reg ?_
    refine TL.p (C := cx) (gc := true) (p_mv rfl) rfl rfl ?_
    refine TL.p (C := cx) (gc := true) (p_mv rfl) rfl rfl ?_
    cases hX
  refine TK.iter [0, 1, 2, 8] (fun s env h => match s with | _ => ∃ _u : Unit, env = [(0, true, .nilp), (1, true, Enc.v (labels1 : (List Int))), (2, true, Enc.v (fails2 : Int)), (8, true, Enc.v ((0 : Int) : Int))] ∧ Nd [] ∧ HSub [] h) hO6 ⟨(), rfl, Nd_nil, HSub.refl _⟩ ?_
  rintro ⟨⟩ env h x6x ⟨_u, rfl, nd, hs⟩ hX hR6
  refine TK.subH hs ?_
  unfold X.cartridgeref22_Robot_Serve_nil_s6 at hX
  try dsimp only at hX
  refine TK.seq_k fun K8 hK8 => ?_
  refine TK.seq_k fun K9 hK9 => ?_
  refine TK.reg ?_
  refine TL.p (C := cx) (gc := true) (p_mv rfl) rfl rfl ?_
  refine TL.p (C := cx) (gc := true) (p_mv rfl) rfl rfl ?_
  refine TL.p (C := cx) (gc := true) (p_lenL (xs := labels1) kd46 rfl) rfl rfl ?_
  refine TL.p (C := cx) (gc := true) (p_lss rfl rfl) rfl rfl ?_
  refine TL.nil ?_
  refine hK9 _ _ ?_
  refine TK.cond (b := (decide ((0 : Int) < (labels1.length : Int)))) rfl (fun hc => ?_) (fun hc => ?_)
  · have hX := ite_t hc hX
    refine TK.skip ?_
    refine hK8 _ _ ?_
    refine TK.seq_k fun K10 hK10 => ?_
    refine TK.block ?_
    refine TK.seq_k fun K11 hK11 => ?_
    cases hX
  · have hX := ite_f hc hX
    refine TK.exit ?_
    obtain rfl := hR6 _ (some_in hX).symm
    exact E6 _ _ ⟨(), rfl, Nd_nil, HSub.refl _⟩ hA6

/-- (*cartridge/cartridgeref22.Robot).Waiting -/
theorem ok_cartridgeref22_Robot_Waiting_nil  (r : Int) (hX : X.cartridgeref22_Robot_Waiting_nil = some r) : Fun Try.prog 51 [.nilp] (· = Enc.v (r : Int)) := by
  refine Fun.of b51 (Nat.le_of_ble_eq_true rfl) (allVal.mem ⟨(by exact trivial), trivial⟩) ?_
  unfold k51
  have nd : Nd [] := Nd_nil
  unfold X.cartridgeref22_Robot_Waiting_nil at hX
  refine TK.seq_k fun K1 hK1 => ?_
  refine TK.reg ?_
  refine TL.p (C := cx) (gc := true) (p_mv rfl) rfl rfl ?_
  refine TL.nil ?_
  refine hK1 _ _ ?_
  refine TK.seq_k fun K2 hK2 => ?_
  refine TK.reg ?_
  refine TL.p (C := cx) (gc := true) (p_mv rfl) rfl rfl ?_
  cases hX

/-- (*cartridge/robot.Robot).Mounted -/
theorem ok_robot_Robot_Mounted_nil (drive1 : Int) (r : Int) (hX : X.robot_Robot_Mounted_nil drive1 = some r) : Fun Try.prog 52 [.nilp, Enc.v (drive1 : Int)] (· = Enc.v (r : Int)) := by
  refine Fun.of b52 (Nat.le_of_ble_eq_true rfl) (allVal.mem ⟨(by exact trivial), (by exact (v_val _)), trivial⟩) ?_
  unfold k52
  have nd : Nd [] := Nd_nil
  unfold X.robot_Robot_Mounted_nil at hX
  refine TK.seq_k fun K2 hK2 => ?_
  refine TK.reg ?_
  refine TL.p (C := cx) (gc := true) (p_mv rfl) rfl rfl ?_
  refine TL.nil ?_
  refine hK2 _ _ ?_
  refine TK.seq_k fun K3 hK3 => ?_
  refine TK.seq_k fun K4 hK4 => ?_
  refine TK.reg ?_
  refine TL.p (C := cx) (gc := true) (p_mv rfl) rfl rfl ?_
  refine TL.p (C := cx) (gc := true) (p_eqN kd64 rfl rfl) rfl rfl ?_
  refine TL.nil ?_
  refine hK4 _ _ ?_
  refine TK.cond (b := true) rfl (fun _ => ?_) (fun hc => by simp at hc)
  refine TK.seq_k fun K5 hK5 => ?_
  refine TK.reg ?_
  refine TL.p (C := cx) (gc := true) (p_mv rfl) rfl rfl ?_
  refine TL.nil ?_
  refine hK5 _ _ ?_
  refine TK.ret ?_
  try dsimp only [thenQ]
  exact ret1 (v := Enc.v ((0 : Int) : Int)) rfl (by obtain rfl := some_in hX; rfl) (v_val _)

/-- (*cartridge/cartridgeref22.Robot).Ask -/
theorem ok_cartridgeref22_Robot_Ask (label14 : Int) (labels1 : (List Int)) (in2 : (List Int)) (drives3 : (List Int)) (line4 : (List Int)) (order5 : (List Int)) (b6 : Nat) (b7 : Nat) (b8 : Nat) (b9 : Nat) (b10 : Nat) (b11 : Nat) (b12 : Nat) (pre13 : List Int) (nd : Nd [(b6, RV 84 [.ref b7 0 3, OL (α := Int) b11 line4, OQ (α := Int) b12 pre13 order5]), (b7, RV 118 [OL (α := Int) b8 labels1, OL (α := Int) b9 in2, OL (α := Int) b10 drives3]), (b8, RL (α := Int) 3 labels1), (b9, RL (α := Int) 3 in2), (b10, RL (α := Int) 3 drives3), (b11, RL (α := Int) 3 line4), (b12, RL (α := Int) 3 (pre13 ++ order5))]) (r : (Int × ((List Int) × (List Int) × (List Int) × (List Int) × (List Int)))) (hX : X.cartridgeref22_Robot_Ask label14 labels1 in2 drives3 line4 order5 = some r) : TCX Try.prog 47 [.ref b6 0 3, Enc.v (label14 : Int)] [(b6, RV 84 [.ref b7 0 3, OL (α := Int) b11 line4, OQ (α := Int) b12 pre13 order5]), (b7, RV 118 [OL (α := Int) b8 labels1, OL (α := Int) b9 in2, OL (α := Int) b10 drives3]), (b8, RL (α := Int) 3 labels1), (b9, RL (α := Int) 3 in2), (b10, RL (α := Int) 3 drives3), (b11, RL (α := Int) 3 line4), (b12, RL (α := Int) 3 (pre13 ++ order5))] (fun rv h' => ∃ b24 b25 b26 b27 b28 b29 pre30, rv = Enc.v (r.1 : Int) ∧ h' = [(b6, RV 84 [.ref b24 0 3, OL (α := Int) b28 r.2.2.2.2.1, OQ (α := Int) b29 pre30 r.2.2.2.2.2]), (b24, RV 118 [OL (α := Int) b25 r.2.1, OL (α := Int) b26 r.2.2.1, OL (α := Int) b27 r.2.2.2.1]), (b25, RL (α := Int) 3 r.2.1), (b26, RL (α := Int) 3 r.2.2.1), (b27, RL (α := Int) 3 r.2.2.2.1), (b28, RL (α := Int) 3 r.2.2.2.2.1), (b29, RL (α := Int) 3 (pre30 ++ r.2.2.2.2.2))]) := by
  refine TCX.of b47 (Nat.le_of_ble_eq_true rfl) ?_
  unfold k47
  unfold X.cartridgeref22_Robot_Ask at hX
  refine TK.seq_k fun K15 hK15 => ?_
  refine TK.reg ?_
  refine TL.p (C := cx) (gc := true) (p_mv rfl) rfl rfl ?_
  refine TL.nil ?_
  refine hK15 _ _ ?_
  refine TK.seq_k fun K16 hK16 => ?_
  refine TK.seq_k fun K17 hK17 => ?_
  refine TK.reg ?_
  refine TL.p (C := cx) (gc := true) (p_mv rfl) rfl rfl ?_
  refine TL.p (C := cx) (gc := true) (p_ncR rfl (fun _ => refOK_of nd (j := 0) rfl rfl)) rfl rfl ?_
  refine TL.p (C := cx) (gc := true) (p_faV fs84_0 (by decide) rfl nd (j := 0) rfl rfl) rfl rfl ?_
  refine TL.p (C := cx) (gc := true) (p_ldV (v := .ref b7 0 3) ty82 rfl rfl nd (j := 0) rfl rfl rfl rfl rfl) rfl rfl ?_
  refine TL.p (C := cx) (gc := true) (p_mv rfl) rfl rfl ?_
  obtain ⟨r18, hr18, hX⟩ := bind_some hX
  refine TL.lookX [.vref (ofL [Enc.v (labels1 : (List Int)), Enc.v (in2 : (List Int)), Enc.v (drives3 : (List Int))]) 3 0, Enc.v (label14 : Int)] rfl rfl rfl (fun _ => ⟨rfl, ⟨rfl, ⟨rfl, trivial⟩⟩⟩) ⟨look_ref (l := [OL (α := Int) b8 labels1, OL (α := Int) b9 in2, OL (α := Int) b10 drives3]) nd (j := 1) rfl ⟨look_OL nd (j := 2) rfl, look_OL nd (j := 3) rfl, look_OL nd (j := 4) rfl, trivial⟩, look_v (v := Enc.v (label14 : Int)) (v_val _), trivial⟩ (fun e => ok_cartridgeref22_Shelf_find labels1 in2 drives3 label14 _ hr18) (trivial) ?_
  refine TL.p (C := cx) (gc := true) (p_lss rfl rfl) rfl rfl ?_
  refine TL.nil ?_
  refine hK17 _ _ ?_
  refine TK.cond (b := (decide (r18 < (0 : Int)))) rfl (fun hc => ?_) (fun hc => ?_)
  · have hX := ite_t hc hX
    refine TK.seq_k fun K19 hK19 => ?_
    refine TK.reg ?_
    refine TL.p (C := cx) (gc := true) (p_mv rfl) rfl rfl ?_
    refine TL.nil ?_
    refine hK19 _ _ ?_
    refine TK.ret ?_
    try dsimp only [thenQ]
    exact retX (v := Enc.v ((1 : Int) : Int)) (res1 rfl) (by obtain rfl := some_in hX; exact ⟨b7, b8, b9, b10, b11, b12, pre13, rfl, rfl⟩) nd (inH_val (v_val _)) ⟨rowIn_RV ⟨inH_ref nd (j := 1) rfl, inH_rs nd (j := 5) rfl, inH_rs nd (j := 6) rfl, trivial⟩, rowIn_RV ⟨inH_rs nd (j := 2) rfl, inH_rs nd (j := 3) rfl, inH_rs nd (j := 4) rfl, trivial⟩, rowIn_RL, rowIn_RL, rowIn_RL, rowIn_RL, rowIn_RL, trivial⟩
  · have hX := ite_f hc hX
    refine TK.skip ?_
    refine hK16 _ _ ?_
    refine TK.seq_k fun K20 hK20 => ?_
    refine TK.reg ?_
    refine TL.p (C := cx) (gc := true) (p_mv rfl) rfl rfl ?_
    refine TL.p (C := cx) (gc := true) (p_mv rfl) rfl rfl ?_
    refine TL.p (C := cx) (gc := true) (p_ncR rfl (fun _ => refOK_of nd (j := 0) rfl rfl)) rfl rfl ?_
    refine TL.p (C := cx) (gc := true) (p_faV fs84_1 (by decide) rfl nd (j := 0) rfl rfl) rfl rfl ?_
    refine TL.p (C := cx) (gc := true) (p_ldV (v := OL (α := Int) b11 line4) ty46 rfl rfl nd (j := 0) rfl rfl rfl rfl rfl) rfl rfl ?_
    refine TL.p (C := cx) (gc := true) (p_mv rfl) rfl rfl ?_
    refine TL.lit (C := cx) ([label14] : List Int) kd46 ty3 rfl ⟨⟨rfl, rfl⟩, trivial⟩ rfl rfl rfl ?_
    obtain ⟨u21, hu21, hX⟩ := bind_some hX
    refine TL.appO (C := cx) nd kd46 bo46 ty3 rfl rfl (j := 5) rfl rfl (Src_L _) (by decide) (need_t hu21) rfl fun nd => ?_
    refine TL.p (C := cx) (gc := true) (p_ncR rfl (fun _ => refOK_of nd (j := 0) rfl rfl)) rfl rfl ?_
    refine TL.p (C := cx) (gc := true) (p_faV fs84_1 (by decide) rfl nd (j := 0) rfl rfl) rfl rfl ?_
    refine TL.stV (C := cx) (lu := [OL (α := Int) b11 (line4 ++ ([label14] : List Int))]) nd ty46 rfl (j := 0) rfl rfl rfl (Cells_rs (refOK_of nd (j := 5) rfl rfl)) rfl rfl [.ref b7 0 3, OL (α := Int) b11 (line4 ++ ([label14] : List Int)), OQ (α := Int) b12 pre13 order5] rfl fun nd => ?_
    refine TL.nil ?_
    refine hK20 _ _ ?_
    refine TK.seq_k fun K22 hK22 => ?_
    refine TK.reg ?_
    refine TL.p (C := cx) (gc := true) (p_mv rfl) rfl rfl ?_
    refine TL.nil ?_
    refine hK22 _ _ ?_
    refine TK.ret ?_
    try dsimp only [thenQ]
    exact retX (v := Enc.v ((0 : Int) : Int)) (res1 rfl) (by obtain rfl := some_in hX; exact ⟨b7, b8, b9, b10, b11, b12, pre13, rfl, rfl⟩) nd (inH_val (v_val _)) ⟨rowIn_RV ⟨inH_ref nd (j := 1) rfl, inH_rs nd (j := 5) rfl, inH_rs nd (j := 6) rfl, trivial⟩, rowIn_RV ⟨inH_rs nd (j := 2) rfl, inH_rs nd (j := 3) rfl, inH_rs nd (j := 4) rfl, trivial⟩, rowIn_RL, rowIn_RL, rowIn_RL, rowIn_RL, rowIn_RL, trivial⟩

/-- (*cartridge/cartridgeref22.Robot).wants -/
theorem ok_cartridgeref22_Robot_wants (labels1 : (List Int)) (in2 : (List Int)) (drives3 : (List Int)) (line4 : (List Int)) (order5 : (List Int)) (label6 : Int) (r : Bool) (hX : X.cartridgeref22_Robot_wants labels1 in2 drives3 line4 order5 label6 = some r) : Fun Try.prog 87 [.vref (ofL [.vref (ofL [Enc.v (labels1 : (List Int)), Enc.v (in2 : (List Int)), Enc.v (drives3 : (List Int))]) 3 0, Enc.v (line4 : (List Int)), Enc.v (order5 : (List Int))]) 3 0, Enc.v (label6 : Int)] (· = Enc.v (r : Bool)) := by
  refine Fun.of b87 (Nat.le_of_ble_eq_true rfl) (allVal.mem ⟨(by exact (vref_val (l := [.vref (ofL [Enc.v (labels1 : (List Int)), Enc.v (in2 : (List Int)), Enc.v (drives3 : (List Int))]) 3 0, Enc.v (line4 : (List Int)), Enc.v (order5 : (List Int))]) rfl ⟨(vref_val (l := [Enc.v (labels1 : (List Int)), Enc.v (in2 : (List Int)), Enc.v (drives3 : (List Int))]) rfl ⟨(v_val _), (v_val _), (v_val _), trivial⟩), (v_val _), (v_val _), trivial⟩)), (by exact (v_val _)), trivial⟩) ?_
  unfold k87
  have nd : Nd [] := Nd_nil
  unfold X.cartridgeref22_Robot_wants at hX
  refine TK.seq_k fun K7 hK7 => ?_
  refine TK.reg ?_
  refine TL.p (C := cx) (gc := true) (p_mv rfl) rfl rfl ?_
  refine TL.nil ?_
  refine hK7 _ _ ?_
  refine TK.seq_k fun K8 hK8 => ?_
  refine TK.seq_k fun K9 hK9 => ?_
  refine TK.reg ?_
  refine TL.p (C := cx) (gc := true) (p_mv rfl) rfl rfl ?_
  refine TL.nil ?_
  refine hK9 _ _ ?_
  refine TK.block ?_
  obtain ⟨o10, hO10, hA10⟩ := bind_some hX
  have E10 : ∀ (env : Env) (h : Hp), (∃ _u : Unit, keepE [0] env = [(0, true, .vref (ofL [.vref (ofL [Enc.v (labels1 : (List Int)), Enc.v (in2 : (List Int)), Enc.v (drives3 : (List Int))]) 3 0, Enc.v (line4 : (List Int)), Enc.v (order5 : (List Int))]) 3 0)] ∧ Nd [] ∧ HSub [] h) → X.cartridgeref22_Robot_wants_e10 = some r → K8 env h := by
    intro  env h hE hX
    obtain ⟨_u, henv, nd, hs⟩ := hE
    unfold X.cartridgeref22_Robot_wants_e10 at hX
    refine hK8 _ _ (TK.keep [0] ?_)
    rw [henv]
    refine TK.subH hs ?_
    refine TK.seq_k fun K12 hK12 => ?_
    refine TK.reg ?_
    refine TL.p (C := cx) (gc := true) (p_mv rfl) rfl rfl ?_
    refine TL.nil ?_
    refine hK12 _ _ ?_
    refine TK.ret ?_
    try dsimp only [thenQ]
    exact ret1 (v := Enc.v (false : Bool)) rfl (by obtain rfl := some_in hX; rfl) (v_val _)
  refine TK.iter [0, 1, 5] (fun s env h => match s with | i11 => ∃ _u : Unit, env = [(0, true, .vref (ofL [.vref (ofL [Enc.v (labels1 : (List Int)), Enc.v (in2 : (List Int)), Enc.v (drives3 : (List Int))]) 3 0, Enc.v (line4 : (List Int)), Enc.v (order5 : (List Int))]) 3 0), (1, true, Enc.v (label6 : Int)), (5, true, Enc.v (i11 : Int))] ∧ Nd [] ∧ HSub [] h) hO10 ⟨(), rfl, Nd_nil, HSub.refl _⟩ ?_
  rintro i11 env h x10x ⟨_u, rfl, nd, hs⟩ hX hR10
  refine TK.subH hs ?_
  unfold X.cartridgeref22_Robot_wants_s10 at hX
  try dsimp only at hX
  refine TK.seq_k fun K13 hK13 => ?_
  refine TK.seq_k fun K14 hK14 => ?_
  refine TK.reg ?_
  refine TL.p (C := cx) (gc := true) (p_mv rfl) rfl rfl ?_
  refine TL.p (C := cx) (gc := true) (p_mv rfl) rfl rfl ?_
  refine TL.p (C := cx) (gc := true) (p_ncV rfl) rfl rfl ?_
  refine TL.p (C := cx) (gc := true) (p_faR fs84_1 (by decide) rfl) rfl rfl ?_
  refine TL.p (C := cx) (gc := true) (p_ldR (v := Enc.v (line4 : (List Int))) ty46 rfl rfl rfl rfl rfl rfl) rfl rfl ?_
  refine TL.p (C := cx) (gc := true) (p_lenL (xs := line4) kd46 rfl) rfl rfl ?_
  refine TL.p (C := cx) (gc := true) (p_lss rfl rfl) rfl rfl ?_
  refine TL.nil ?_
  refine hK14 _ _ ?_
  refine TK.cond (b := (decide (i11 < (line4.length : Int)))) rfl (fun hc => ?_) (fun hc => ?_)
  · have hX := ite_t hc hX
    refine TK.skip ?_
    refine hK13 _ _ ?_
    refine TK.seq_k fun K15 hK15 => ?_
    refine TK.block ?_
    refine TK.seq_k fun K16 hK16 => ?_
    refine TK.reg ?_
    refine TL.p (C := cx) (gc := true) (p_mv rfl) rfl rfl ?_
    refine TL.p (C := cx) (gc := true) (p_ncV rfl) rfl rfl ?_
    refine TL.p (C := cx) (gc := true) (p_faR fs84_1 (by decide) rfl) rfl rfl ?_
    refine TL.p (C := cx) (gc := true) (p_ldR (v := Enc.v (line4 : (List Int))) ty46 rfl rfl rfl rfl rfl rfl) rfl rfl ?_
    refine TL.p (C := cx) (gc := true) (p_mv rfl) rfl rfl ?_
    obtain ⟨e17, he17, hX⟩ := bind_some hX
    refine TL.p (C := cx) (gc := true) (p_iaL (xs := line4) kd46 ty3 rfl rfl rfl (fun _ => he17)) rfl rfl ?_
    refine TL.p (C := cx) (gc := true) (p_ldE (xs := line4) (a := e17) (e17 : Int) ty3 rfl rfl (fun _ => he17) rfl rfl rfl) rfl rfl ?_
    refine TL.p (C := cx) (gc := true) (p_mv rfl) rfl rfl ?_
    refine TL.p (C := cx) (gc := true) (p_eql rfl rfl) rfl rfl ?_
    refine TL.nil ?_
    refine hK16 _ _ ?_
    refine TK.cond (b := (e17 == label6)) rfl (fun hc => ?_) (fun hc => ?_)
    · have hX := ite_t hc hX
      refine TK.seq_k fun K18 hK18 => ?_
      refine TK.reg ?_
      refine TL.p (C := cx) (gc := true) (p_mv rfl) rfl rfl ?_
      refine TL.nil ?_
      refine hK18 _ _ ?_
      refine TK.ret ?_
      obtain rfl := hR10 _ (some_in hX).symm
      replace hX := hA10
      try dsimp only [thenQ]
      exact ret1 (v := Enc.v (true : Bool)) rfl (by obtain rfl := some_in hX; rfl) (v_val _)
    · have hX := ite_f hc hX
      refine TK.skip ?_
      refine hK15 _ _ ?_
      refine TK.reg ?_
      refine TL.p (C := cx) (gc := true) (p_mv rfl) rfl rfl ?_
      refine TL.p (C := cx) (gc := true) (p_add rfl rfl) rfl rfl ?_
      refine TL.p (C := cx) (gc := true) (p_mv rfl) rfl rfl ?_
      refine TL.nil ?_
      exact ⟨_, (some_in hX).symm, (), rfl, Nd_nil, HSub.refl _⟩
  · have hX := ite_f hc hX
    refine TK.exit ?_
    obtain rfl := hR10 _ (some_in hX).symm
    exact E10 _ _ ⟨(), rfl, Nd_nil, HSub.refl _⟩ hA10

/-- (*cartridge/cartridgeref22.Shelf).Move -/
theorem ok_cartridgeref22_Shelf_Move (label8 : Int) (d9 : Int) (labels1 : (List Int)) (in2 : (List Int)) (drives3 : (List Int)) (b4 : Nat) (b5 : Nat) (b6 : Nat) (b7 : Nat) (nd : Nd [(b4, RV 118 [OL (α := Int) b5 labels1, OL (α := Int) b6 in2, OL (α := Int) b7 drives3]), (b5, RL (α := Int) 3 labels1), (b6, RL (α := Int) 3 in2), (b7, RL (α := Int) 3 drives3)]) (r : (Int × ((List Int) × (List Int) × (List Int)))) (hX : X.cartridgeref22_Shelf_Move label8 d9 labels1 in2 drives3 = some r) : TCX Try.prog 88 [.ref b4 0 3, Enc.v (label8 : Int), Enc.v (d9 : Int)] [(b4, RV 118 [OL (α := Int) b5 labels1, OL (α := Int) b6 in2, OL (α := Int) b7 drives3]), (b5, RL (α := Int) 3 labels1), (b6, RL (α := Int) 3 in2), (b7, RL (α := Int) 3 drives3)] (fun rv h' => ∃ b27 b28 b29, rv = Enc.v (r.1 : Int) ∧ h' = [(b4, RV 118 [OL (α := Int) b27 r.2.1, OL (α := Int) b28 r.2.2.1, OL (α := Int) b29 r.2.2.2]), (b27, RL (α := Int) 3 r.2.1), (b28, RL (α := Int) 3 r.2.2.1), (b29, RL (α := Int) 3 r.2.2.2)]) := by
  refine TCX.of b88 (Nat.le_of_ble_eq_true rfl) ?_
  unfold k88
  unfold X.cartridgeref22_Shelf_Move at hX
  refine TK.seq_k fun K10 hK10 => ?_
  refine TK.reg ?_
  refine TL.p (C := cx) (gc := true) (p_mv rfl) rfl rfl ?_
  refine TL.nil ?_
  refine hK10 _ _ ?_
  refine TK.seq_k fun K11 hK11 => ?_
  refine TK.reg ?_
  refine TL.p (C := cx) (gc := true) (p_mv rfl) rfl rfl ?_
  refine TL.p (C := cx) (gc := true) (p_mv rfl) rfl rfl ?_
  obtain ⟨r12, hr12, hX⟩ := bind_some hX
  refine TL.lookX [.vref (ofL [Enc.v (labels1 : (List Int)), Enc.v (in2 : (List Int)), Enc.v (drives3 : (List Int))]) 3 0, Enc.v (label8 : Int)] rfl rfl rfl (fun _ => ⟨rfl, ⟨rfl, ⟨rfl, trivial⟩⟩⟩) ⟨look_ref (l := [OL (α := Int) b5 labels1, OL (α := Int) b6 in2, OL (α := Int) b7 drives3]) nd (j := 0) rfl ⟨look_OL nd (j := 1) rfl, look_OL nd (j := 2) rfl, look_OL nd (j := 3) rfl, trivial⟩, look_v (v := Enc.v (label8 : Int)) (v_val _), trivial⟩ (fun e => ok_cartridgeref22_Shelf_find labels1 in2 drives3 label8 _ hr12) (trivial) ?_
  refine TL.p (C := cx) (gc := true) (p_mv rfl) rfl rfl ?_
  refine TL.nil ?_
  refine hK11 _ _ ?_
  refine TK.seq_k fun K13 hK13 => ?_
  refine TK.seq_k fun K14 hK14 => ?_
  refine TK.reg ?_
  refine TL.p (C := cx) (gc := true) (p_mv rfl) rfl rfl ?_
  refine TL.p (C := cx) (gc := true) (p_lss rfl rfl) rfl rfl ?_
  refine TL.p (C := cx) (gc := true) (p_mv rfl) rfl rfl ?_
  refine TL.p (C := cx) (gc := (!((decide (r12 < (0 : Int)))))) (p_mv rfl (hg := fun e => rfl)) (gcF1 rfl) rfl ?_
  refine TL.p (C := cx) (gc := (!((decide (r12 < (0 : Int)))))) (p_lss rfl rfl (hg := fun e => ⟨e, rfl⟩)) (gcF1 rfl) rfl ?_
  refine TL.p (C := cx) (gc := true) (p_or rfl rfl (fun e => ⟨rfl, fun h => (not_t h)⟩)) rfl rfl ?_
  refine TL.p (C := cx) (gc := true) (p_mv rfl) rfl rfl ?_
  refine TL.p (C := cx) (gc := (!(((decide (r12 < (0 : Int))) || (decide (d9 < (0 : Int))))))) (p_mv rfl (hg := fun e => rfl)) (gcF1 rfl) rfl ?_
  refine TL.p (C := cx) (gc := (!(((decide (r12 < (0 : Int))) || (decide (d9 < (0 : Int))))))) (p_mv rfl (hg := fun e => rfl)) (gcF1 rfl) rfl ?_
  refine TL.p (C := cx) (gc := (!(((decide (r12 < (0 : Int))) || (decide (d9 < (0 : Int))))))) (p_ncR rfl (fun _ => refOK_of nd (j := 0) rfl rfl) (hg := fun e => e)) (gcF1 rfl) rfl ?_
  refine TL.p (C := cx) (gc := (!(((decide (r12 < (0 : Int))) || (decide (d9 < (0 : Int))))))) (p_faV fs118_2 (by decide) rfl nd (j := 0) rfl rfl (hg := fun e => e)) (gcF1 rfl) rfl ?_
  refine TL.p (C := cx) (gc := (!(((decide (r12 < (0 : Int))) || (decide (d9 < (0 : Int))))))) (p_ldV (v := OL (α := Int) b7 drives3) ty46 rfl rfl nd (j := 0) rfl rfl rfl rfl rfl (hg := fun e => e)) (gcF1 rfl) rfl ?_
  refine TL.p (C := cx) (gc := (!(((decide (r12 < (0 : Int))) || (decide (d9 < (0 : Int))))))) (p_lenR kd46 rfl (fun _ => refOK_of nd (j := 3) rfl rfl) (hg := fun e => e)) (gcF1 rfl) rfl ?_
  refine TL.p (C := cx) (gc := (!(((decide (r12 < (0 : Int))) || (decide (d9 < (0 : Int))))))) (p_geq rfl rfl (hg := fun e => ⟨e, e⟩)) (gcF1 rfl) rfl ?_
  refine TL.p (C := cx) (gc := true) (p_or rfl rfl (fun e => ⟨rfl, fun h => (not_t h)⟩)) rfl rfl ?_
  refine TL.nil ?_
  refine hK14 _ _ ?_
  refine TK.cond (b := (((decide (r12 < (0 : Int))) || (decide (d9 < (0 : Int)))) || (decide (d9 ≥ (drives3.length : Int))))) rfl (fun hc => ?_) (fun hc => ?_)
  · have hX := ite_t hc hX
    refine TK.seq_k fun K15 hK15 => ?_
    refine TK.reg ?_
    refine TL.p (C := cx) (gc := true) (p_mv rfl) rfl rfl ?_
    refine TL.nil ?_
    refine hK15 _ _ ?_
    refine TK.ret ?_
    try dsimp only [thenQ]
    exact retX (v := Enc.v ((1 : Int) : Int)) (res1 rfl) (by obtain rfl := some_in hX; exact ⟨b5, b6, b7, rfl, rfl⟩) nd (inH_val (v_val _)) ⟨rowIn_RV ⟨inH_rs nd (j := 1) rfl, inH_rs nd (j := 2) rfl, inH_rs nd (j := 3) rfl, trivial⟩, rowIn_RL, rowIn_RL, rowIn_RL, trivial⟩
  · have hX := ite_f hc hX
    refine TK.skip ?_
    refine hK13 _ _ ?_
    refine TK.seq_k fun K16 hK16 => ?_
    refine TK.seq_k fun K17 hK17 => ?_
    refine TK.reg ?_
    refine TL.p (C := cx) (gc := true) (p_mv rfl) rfl rfl ?_
    refine TL.p (C := cx) (gc := true) (p_ncR rfl (fun _ => refOK_of nd (j := 0) rfl rfl)) rfl rfl ?_
    refine TL.p (C := cx) (gc := true) (p_faV fs118_1 (by decide) rfl nd (j := 0) rfl rfl) rfl rfl ?_
    refine TL.p (C := cx) (gc := true) (p_ldV (v := OL (α := Int) b6 in2) ty46 rfl rfl nd (j := 0) rfl rfl rfl rfl rfl) rfl rfl ?_
    refine TL.p (C := cx) (gc := true) (p_mv rfl) rfl rfl ?_
    obtain ⟨e18, he18, hX⟩ := bind_some hX
    refine TL.p (C := cx) (gc := true) (p_iaO (xs := in2) kd46 ty3 rfl rfl rfl nd (j := 2) rfl (fun _ => he18)) rfl rfl ?_
    refine TL.p (C := cx) (gc := true) (p_ldO (xs := in2) (a := e18) (e18 : Int) ty3 rfl rfl nd (j := 2) rfl (fun _ => he18) rfl rfl rfl) rfl rfl ?_
    refine TL.p (C := cx) (gc := true) (p_geq rfl rfl) rfl rfl ?_
    refine TL.p (C := cx) (gc := true) (p_mv rfl) rfl rfl ?_
    refine TL.p (C := cx) (gc := (!((decide (e18 ≥ (0 : Int)))))) (p_mv rfl (hg := fun e => rfl)) (gcF1 rfl) rfl ?_
    refine TL.p (C := cx) (gc := (!((decide (e18 ≥ (0 : Int)))))) (p_ncR rfl (fun _ => refOK_of nd (j := 0) rfl rfl) (hg := fun e => e)) (gcF1 rfl) rfl ?_
    refine TL.p (C := cx) (gc := (!((decide (e18 ≥ (0 : Int)))))) (p_faV fs118_2 (by decide) rfl nd (j := 0) rfl rfl (hg := fun e => e)) (gcF1 rfl) rfl ?_
    refine TL.p (C := cx) (gc := (!((decide (e18 ≥ (0 : Int)))))) (p_ldV (v := OL (α := Int) b7 drives3) ty46 rfl rfl nd (j := 0) rfl rfl rfl rfl rfl (hg := fun e => e)) (gcF1 rfl) rfl ?_
    refine TL.p (C := cx) (gc := (!((decide (e18 ≥ (0 : Int)))))) (p_mv rfl (hg := fun e => rfl)) (gcF1 rfl) rfl ?_
    obtain ⟨e19, he19, hX⟩ := bind_some hX
    refine TL.p (C := cx) (gc := (!((decide (e18 ≥ (0 : Int)))))) (p_iaO (xs := drives3) kd46 ty3 rfl rfl rfl nd (j := 3) rfl (fun e => optG_t he19 e) (hg := fun e => ⟨e, e⟩)) (gcF1 rfl) rfl ?_
    refine TL.p (C := cx) (gc := (!((decide (e18 ≥ (0 : Int)))))) (p_ldO (xs := drives3) (a := e19) (e19 : Int) ty3 rfl rfl nd (j := 3) rfl (fun e => optG_t he19 e) rfl rfl rfl (hg := fun e => e)) (gcF1 rfl) rfl ?_
    refine TL.p (C := cx) (gc := (!((decide (e18 ≥ (0 : Int)))))) (p_neq rfl rfl (hg := fun e => ⟨e, rfl⟩)) (gcF1 rfl) rfl ?_
    refine TL.p (C := cx) (gc := true) (p_or rfl rfl (fun e => ⟨rfl, fun h => (not_t h)⟩)) rfl rfl ?_
    refine TL.nil ?_
    refine hK17 _ _ ?_
    refine TK.cond (b := ((decide (e18 ≥ (0 : Int))) || (e19 != (0 : Int)))) rfl (fun hc => ?_) (fun hc => ?_)
    · have hX := ite_t hc hX
      refine TK.seq_k fun K20 hK20 => ?_
      refine TK.reg ?_
      refine TL.p (C := cx) (gc := true) (p_mv rfl) rfl rfl ?_
      refine TL.nil ?_
      refine hK20 _ _ ?_
      refine TK.ret ?_
      try dsimp only [thenQ]
      exact retX (v := Enc.v ((11 : Int) : Int)) (res1 rfl) (by obtain rfl := some_in hX; exact ⟨b5, b6, b7, rfl, rfl⟩) nd (inH_val (v_val _)) ⟨rowIn_RV ⟨inH_rs nd (j := 1) rfl, inH_rs nd (j := 2) rfl, inH_rs nd (j := 3) rfl, trivial⟩, rowIn_RL, rowIn_RL, rowIn_RL, trivial⟩
    · have hX := ite_f hc hX
      refine TK.skip ?_
      refine hK16 _ _ ?_
      refine TK.seq_k fun K21 hK21 => ?_
      refine TK.reg ?_
      refine TL.p (C := cx) (gc := true) (p_mv rfl) rfl rfl ?_
      refine TL.p (C := cx) (gc := true) (p_ncR rfl (fun _ => refOK_of nd (j := 0) rfl rfl)) rfl rfl ?_
      refine TL.p (C := cx) (gc := true) (p_faV fs118_1 (by decide) rfl nd (j := 0) rfl rfl) rfl rfl ?_
      refine TL.p (C := cx) (gc := true) (p_ldV (v := OL (α := Int) b6 in2) ty46 rfl rfl nd (j := 0) rfl rfl rfl rfl rfl) rfl rfl ?_
      refine TL.p (C := cx) (gc := true) (p_mv rfl) rfl rfl ?_
      refine TL.p (C := cx) (gc := true) (p_mv rfl) rfl rfl ?_
      obtain ⟨e22, he22, hX⟩ := bind_some hX
      refine TL.p (C := cx) (gc := true) (p_iaO (xs := in2) kd46 ty3 rfl rfl rfl nd (j := 2) rfl (fun _ => he22)) rfl rfl ?_
      refine TL.stW (C := cx) (xs := in2) (i := r12) (lu := Enc.cl (d9 : Int)) (a' := d9) nd ty3 rfl (j := 2) rfl (by simp [Enc.sz]) (inb_of he22 (by simp)) rfl (Cells_v (d9 : Int)) rfl (WkL_refl _) fun nd => ?_
      refine TL.cvR nd (j := 0) rfl (l' := [OL (α := Int) b5 labels1, OL (α := Int) b6 (in2.set r12.toNat d9), OL (α := Int) b7 drives3]) ⟨Wk.refl _, Wk_eq (OL_len (by simp)), Wk.refl _, trivial⟩ fun nd => ?_
      refine TL.nil ?_
      refine hK21 _ _ ?_
      refine TK.seq_k fun K23 hK23 => ?_
      refine TK.reg ?_
      refine TL.p (C := cx) (gc := true) (p_mv rfl) rfl rfl ?_
      refine TL.p (C := cx) (gc := true) (p_ncR rfl (fun _ => refOK_of nd (j := 0) rfl rfl)) rfl rfl ?_
      refine TL.p (C := cx) (gc := true) (p_faV fs118_2 (by decide) rfl nd (j := 0) rfl rfl) rfl rfl ?_
      refine TL.p (C := cx) (gc := true) (p_ldV (v := OL (α := Int) b7 drives3) ty46 rfl rfl nd (j := 0) rfl rfl rfl rfl rfl) rfl rfl ?_
      refine TL.p (C := cx) (gc := true) (p_mv rfl) rfl rfl ?_
      refine TL.p (C := cx) (gc := true) (p_mv rfl) rfl rfl ?_
      obtain ⟨e24, he24, hX⟩ := bind_some hX
      refine TL.p (C := cx) (gc := true) (p_iaO (xs := drives3) kd46 ty3 rfl rfl rfl nd (j := 3) rfl (fun _ => he24)) rfl rfl ?_
      refine TL.stW (C := cx) (xs := drives3) (i := d9) (lu := Enc.cl (label8 : Int)) (a' := label8) nd ty3 rfl (j := 3) rfl (by simp [Enc.sz]) (inb_of he24 (by simp)) rfl (Cells_v (label8 : Int)) rfl (WkL_refl _) fun nd => ?_
      refine TL.cvR nd (j := 0) rfl (l' := [OL (α := Int) b5 labels1, OL (α := Int) b6 (in2.set r12.toNat d9), OL (α := Int) b7 (drives3.set d9.toNat label8)]) ⟨Wk.refl _, Wk.refl _, Wk_eq (OL_len (by simp)), trivial⟩ fun nd => ?_
      refine TL.nil ?_
      refine hK23 _ _ ?_
      refine TK.seq_k fun K25 hK25 => ?_
      refine TK.reg ?_
      refine TL.p (C := cx) (gc := true) (p_mv rfl) rfl rfl ?_
      refine TL.nil ?_
      refine hK25 _ _ ?_
      refine TK.ret ?_
      try dsimp only [thenQ]
      exact retX (v := Enc.v ((0 : Int) : Int)) (res1 rfl) (by obtain rfl := some_in hX; exact ⟨b5, b6, b7, rfl, rfl⟩) nd (inH_val (v_val _)) ⟨rowIn_RV ⟨inH_rs nd (j := 1) rfl, inH_rs nd (j := 2) rfl, inH_rs nd (j := 3) rfl, trivial⟩, rowIn_RL, rowIn_RL, rowIn_RL, trivial⟩

/-- (*cartridge/cartridgeref22.Shelf).Back -/
theorem ok_cartridgeref22_Shelf_Back (d8 : Int) (labels1 : (List Int)) (in2 : (List Int)) (drives3 : (List Int)) (b4 : Nat) (b5 : Nat) (b6 : Nat) (b7 : Nat) (nd : Nd [(b4, RV 118 [OL (α := Int) b5 labels1, OL (α := Int) b6 in2, OL (α := Int) b7 drives3]), (b5, RL (α := Int) 3 labels1), (b6, RL (α := Int) 3 in2), (b7, RL (α := Int) 3 drives3)]) (r : (Int × ((List Int) × (List Int) × (List Int)))) (hX : X.cartridgeref22_Shelf_Back d8 labels1 in2 drives3 = some r) : TCX Try.prog 89 [.ref b4 0 3, Enc.v (d8 : Int)] [(b4, RV 118 [OL (α := Int) b5 labels1, OL (α := Int) b6 in2, OL (α := Int) b7 drives3]), (b5, RL (α := Int) 3 labels1), (b6, RL (α := Int) 3 in2), (b7, RL (α := Int) 3 drives3)] (fun rv h' => ∃ b25 b26 b27, rv = Enc.v (r.1 : Int) ∧ h' = [(b4, RV 118 [OL (α := Int) b25 r.2.1, OL (α := Int) b26 r.2.2.1, OL (α := Int) b27 r.2.2.2]), (b25, RL (α := Int) 3 r.2.1), (b26, RL (α := Int) 3 r.2.2.1), (b27, RL (α := Int) 3 r.2.2.2)]) := by
  refine TCX.of b89 (Nat.le_of_ble_eq_true rfl) ?_
  unfold k89
  unfold X.cartridgeref22_Shelf_Back at hX
  refine TK.seq_k fun K9 hK9 => ?_
  refine TK.reg ?_
  refine TL.p (C := cx) (gc := true) (p_mv rfl) rfl rfl ?_
  refine TL.nil ?_
  refine hK9 _ _ ?_
  refine TK.seq_k fun K10 hK10 => ?_
  refine TK.seq_k fun K11 hK11 => ?_
  refine TK.reg ?_
  refine TL.p (C := cx) (gc := true) (p_mv rfl) rfl rfl ?_
  refine TL.p (C := cx) (gc := true) (p_lss rfl rfl) rfl rfl ?_
  refine TL.p (C := cx) (gc := true) (p_mv rfl) rfl rfl ?_
  refine TL.p (C := cx) (gc := (!((decide (d8 < (0 : Int)))))) (p_mv rfl (hg := fun e => rfl)) (gcF1 rfl) rfl ?_
  refine TL.p (C := cx) (gc := (!((decide (d8 < (0 : Int)))))) (p_mv rfl (hg := fun e => rfl)) (gcF1 rfl) rfl ?_
  refine TL.p (C := cx) (gc := (!((decide (d8 < (0 : Int)))))) (p_ncR rfl (fun _ => refOK_of nd (j := 0) rfl rfl) (hg := fun e => e)) (gcF1 rfl) rfl ?_
  refine TL.p (C := cx) (gc := (!((decide (d8 < (0 : Int)))))) (p_faV fs118_2 (by decide) rfl nd (j := 0) rfl rfl (hg := fun e => e)) (gcF1 rfl) rfl ?_
  refine TL.p (C := cx) (gc := (!((decide (d8 < (0 : Int)))))) (p_ldV (v := OL (α := Int) b7 drives3) ty46 rfl rfl nd (j := 0) rfl rfl rfl rfl rfl (hg := fun e => e)) (gcF1 rfl) rfl ?_
  refine TL.p (C := cx) (gc := (!((decide (d8 < (0 : Int)))))) (p_lenR kd46 rfl (fun _ => refOK_of nd (j := 3) rfl rfl) (hg := fun e => e)) (gcF1 rfl) rfl ?_
  refine TL.p (C := cx) (gc := (!((decide (d8 < (0 : Int)))))) (p_geq rfl rfl (hg := fun e => ⟨e, e⟩)) (gcF1 rfl) rfl ?_
  refine TL.p (C := cx) (gc := true) (p_or rfl rfl (fun e => ⟨rfl, fun h => (not_t h)⟩)) rfl rfl ?_
  refine TL.nil ?_
  refine hK11 _ _ ?_
  refine TK.cond (b := ((decide (d8 < (0 : Int))) || (decide (d8 ≥ (drives3.length : Int))))) rfl (fun hc => ?_) (fun hc => ?_)
  · have hX := ite_t hc hX
    refine TK.seq_k fun K12 hK12 => ?_
    refine TK.reg ?_
    refine TL.p (C := cx) (gc := true) (p_mv rfl) rfl rfl ?_
    refine TL.nil ?_
    refine hK12 _ _ ?_
    refine TK.ret ?_
    try dsimp only [thenQ]
    exact retX (v := Enc.v ((1 : Int) : Int)) (res1 rfl) (by obtain rfl := some_in hX; exact ⟨b5, b6, b7, rfl, rfl⟩) nd (inH_val (v_val _)) ⟨rowIn_RV ⟨inH_rs nd (j := 1) rfl, inH_rs nd (j := 2) rfl, inH_rs nd (j := 3) rfl, trivial⟩, rowIn_RL, rowIn_RL, rowIn_RL, trivial⟩
  · have hX := ite_f hc hX
    refine TK.skip ?_
    refine hK10 _ _ ?_
    refine TK.seq_k fun K13 hK13 => ?_
    refine TK.seq_k fun K14 hK14 => ?_
    refine TK.reg ?_
    refine TL.p (C := cx) (gc := true) (p_mv rfl) rfl rfl ?_
    refine TL.p (C := cx) (gc := true) (p_ncR rfl (fun _ => refOK_of nd (j := 0) rfl rfl)) rfl rfl ?_
    refine TL.p (C := cx) (gc := true) (p_faV fs118_2 (by decide) rfl nd (j := 0) rfl rfl) rfl rfl ?_
    refine TL.p (C := cx) (gc := true) (p_ldV (v := OL (α := Int) b7 drives3) ty46 rfl rfl nd (j := 0) rfl rfl rfl rfl rfl) rfl rfl ?_
    refine TL.p (C := cx) (gc := true) (p_mv rfl) rfl rfl ?_
    obtain ⟨e15, he15, hX⟩ := bind_some hX
    refine TL.p (C := cx) (gc := true) (p_iaO (xs := drives3) kd46 ty3 rfl rfl rfl nd (j := 3) rfl (fun _ => he15)) rfl rfl ?_
    refine TL.p (C := cx) (gc := true) (p_ldO (xs := drives3) (a := e15) (e15 : Int) ty3 rfl rfl nd (j := 3) rfl (fun _ => he15) rfl rfl rfl) rfl rfl ?_
    refine TL.p (C := cx) (gc := true) (p_eql rfl rfl) rfl rfl ?_
    refine TL.nil ?_
    refine hK14 _ _ ?_
    refine TK.cond (b := (e15 == (0 : Int))) rfl (fun hc => ?_) (fun hc => ?_)
    · have hX := ite_t hc hX
      refine TK.seq_k fun K16 hK16 => ?_
      refine TK.reg ?_
      refine TL.p (C := cx) (gc := true) (p_mv rfl) rfl rfl ?_
      refine TL.nil ?_
      refine hK16 _ _ ?_
      refine TK.ret ?_
      try dsimp only [thenQ]
      exact retX (v := Enc.v ((11 : Int) : Int)) (res1 rfl) (by obtain rfl := some_in hX; exact ⟨b5, b6, b7, rfl, rfl⟩) nd (inH_val (v_val _)) ⟨rowIn_RV ⟨inH_rs nd (j := 1) rfl, inH_rs nd (j := 2) rfl, inH_rs nd (j := 3) rfl, trivial⟩, rowIn_RL, rowIn_RL, rowIn_RL, trivial⟩
    · have hX := ite_f hc hX
      refine TK.skip ?_
      refine hK13 _ _ ?_
      refine TK.seq_k fun K17 hK17 => ?_
      refine TK.pick [0, 2, 1, 3] nd (by decide) fun nd => ?_
      have ndS : Nd [(b5, RL (α := Int) 3 labels1), (b7, RL (α := Int) 3 drives3)] := Nd.pick nd (is := [2, 3]) (by decide)
      refine TK.drwX (h := [(b4, RV 118 [OL (α := Int) b5 labels1, OL (α := Int) b6 in2, OL (α := Int) b7 drives3]), (b6, RL (α := Int) 3 in2)]) (hS := [(b5, RL (α := Int) 3 labels1), (b7, RL (α := Int) 3 drives3)]) [(0, 0), (1, 1), (1, 2), (1, 3), (0, 4), (0, 5), (1, 6), (1, 7), (1, 8), (0, 9), (0, 10), (0, 11), (1, 12), (1, 13), (2, 14)] mixed (by kernel_rfl) (HSub_app nd) ?_
      refine DR0 (gc := true) rfl (vok_p (C := cx) (p_mv rfl)) rfl rfl ?_
      refine DR1 (gc := true) rfl (vok_p (C := cx) (p_ncR rfl (fun _ => refOK_of nd (j := 0) rfl rfl))) rfl rfl ?_
      refine DR1 (gc := true) rfl (vok_p (C := cx) (p_faV fs118_1 (by decide) rfl nd (j := 0) rfl rfl)) rfl rfl ?_
      refine DR1 (gc := true) rfl (vok_p (C := cx) (p_ldV (v := OL (α := Int) b6 in2) ty46 rfl rfl nd (j := 0) rfl rfl rfl rfl rfl)) rfl rfl ?_
      refine DR0 (gc := true) rfl (vok_p (C := cx) (p_mv rfl)) rfl rfl ?_
      refine DR0 (gc := true) rfl (vok_p (C := cx) (p_mv rfl)) rfl rfl ?_
      refine DR1 (gc := true) rfl (vok_p (C := cx) (p_ncR rfl (fun _ => refOK_of nd (j := 0) rfl rfl))) rfl rfl ?_
      refine DR1 (gc := true) rfl (vok_p (C := cx) (p_faV fs118_2 (by decide) rfl nd (j := 0) rfl rfl)) rfl rfl ?_
      refine DR1 (gc := true) rfl (vok_p (C := cx) (p_ldV (v := OL (α := Int) b7 drives3) ty46 rfl rfl nd (j := 0) rfl rfl rfl rfl rfl)) rfl rfl ?_
      refine DR0 (gc := true) rfl (vok_p (C := cx) (p_mv rfl)) rfl rfl ?_
      obtain ⟨e18, he18, hX⟩ := bind_some hX
      refine DR0 (gc := true) rfl (vok_p (C := cx) (p_iaO (xs := drives3) kd46 ty3 rfl rfl rfl ndS (j := 1) rfl (fun _ => he18))) rfl rfl ?_
      refine DR0 (gc := true) rfl (vok_p (C := cx) (p_ldO (xs := drives3) (a := e18) (e18 : Int) ty3 rfl rfl ndS (j := 1) rfl (fun _ => he18) rfl rfl rfl)) rfl rfl ?_
      obtain ⟨r19, hr19, hX⟩ := bind_some hX
      refine DR1 (gc := true) rfl (vok_lookX [.vref (ofL [Enc.v (labels1 : (List Int)), Enc.v (in2 : (List Int)), Enc.v (drives3 : (List Int))]) 3 0, Enc.v (e18 : Int)] rfl (fun _ => ⟨rfl, ⟨rfl, ⟨rfl, trivial⟩⟩⟩) ⟨look_ref (l := [OL (α := Int) b5 labels1, OL (α := Int) b6 in2, OL (α := Int) b7 drives3]) nd (j := 0) rfl ⟨look_OL nd (j := 2) rfl, look_OL nd (j := 1) rfl, look_OL nd (j := 3) rfl, trivial⟩, look_v (v := Enc.v (e18 : Int)) (v_val _), trivial⟩ (fun e => ok_cartridgeref22_Shelf_find labels1 in2 drives3 e18 _ hr19) (trivial)) rfl rfl ?_
      obtain ⟨e20, he20, hX⟩ := bind_some hX
      refine DR1 (gc := true) rfl (vok_p (C := cx) (p_iaO (xs := in2) kd46 ty3 rfl rfl rfl nd (j := 1) rfl (fun _ => he20))) rfl rfl ?_
      refine DR2n rfl ?_
      refine TL.stW (C := cx) (xs := in2) (i := r19) (lu := Enc.cl (((-1) : Int) : Int)) (a' := ((-1) : Int)) nd ty3 rfl (j := 1) rfl (by simp [Enc.sz]) (inb_of he20 (by simp)) rfl (Cells_v (((-1) : Int) : Int)) rfl (WkL_refl _) fun nd => ?_
      refine TL.cvR nd (j := 0) rfl (l' := [OL (α := Int) b5 labels1, OL (α := Int) b6 (in2.set r19.toNat ((-1) : Int)), OL (α := Int) b7 drives3]) ⟨Wk.refl _, Wk_eq (OL_len (by simp)), Wk.refl _, trivial⟩ fun nd => ?_
      refine TL.nil ⟨.nilp, [(b4, RV 118 [OL (α := Int) b5 labels1, OL (α := Int) b6 (in2.set r19.toNat ((-1) : Int)), OL (α := Int) b7 drives3]), (b6, RL (α := Int) 3 (in2.set r19.toNat ((-1) : Int)))], rfl, rfl, HSub_app nd, ?_⟩
      refine DRend ?_
      refine hK17 _ _ ?_
      refine TK.seq_k fun K21 hK21 => ?_
      refine TK.reg ?_
      refine TL.p (C := cx) (gc := true) (p_mv rfl) rfl rfl ?_
      refine TL.p (C := cx) (gc := true) (p_ncR rfl (fun _ => refOK_of nd (j := 0) rfl rfl)) rfl rfl ?_
      refine TL.p (C := cx) (gc := true) (p_faV fs118_2 (by decide) rfl nd (j := 0) rfl rfl) rfl rfl ?_
      refine TL.p (C := cx) (gc := true) (p_ldV (v := OL (α := Int) b7 drives3) ty46 rfl rfl nd (j := 0) rfl rfl rfl rfl rfl) rfl rfl ?_
      refine TL.p (C := cx) (gc := true) (p_mv rfl) rfl rfl ?_
      obtain ⟨e22, he22, hX⟩ := bind_some hX
      refine TL.p (C := cx) (gc := true) (p_iaO (xs := drives3) kd46 ty3 rfl rfl rfl nd (j := 3) rfl (fun _ => he22)) rfl rfl ?_
      refine TL.stW (C := cx) (xs := drives3) (i := d8) (lu := Enc.cl ((0 : Int) : Int)) (a' := (0 : Int)) nd ty3 rfl (j := 3) rfl (by simp [Enc.sz]) (inb_of he22 (by simp)) rfl (Cells_v ((0 : Int) : Int)) rfl (WkL_refl _) fun nd => ?_
      refine TL.cvR nd (j := 0) rfl (l' := [OL (α := Int) b5 labels1, OL (α := Int) b6 (in2.set r19.toNat ((-1) : Int)), OL (α := Int) b7 (drives3.set d8.toNat (0 : Int))]) ⟨Wk.refl _, Wk.refl _, Wk_eq (OL_len (by simp)), trivial⟩ fun nd => ?_
      refine TL.nil ?_
      refine hK21 _ _ ?_
      refine TK.seq_k fun K23 hK23 => ?_
      refine TK.reg ?_
      refine TL.p (C := cx) (gc := true) (p_mv rfl) rfl rfl ?_
      refine TL.nil ?_
      refine hK23 _ _ ?_
      refine TK.pick [0, 2, 1, 3] nd (by decide) fun nd => ?_
      refine TK.ret ?_
      try dsimp only [thenQ]
      exact retX (v := Enc.v ((0 : Int) : Int)) (res1 rfl) (by obtain rfl := some_in hX; exact ⟨b5, b6, b7, rfl, rfl⟩) nd (inH_val (v_val _)) ⟨rowIn_RV ⟨inH_rs nd (j := 1) rfl, inH_rs nd (j := 2) rfl, inH_rs nd (j := 3) rfl, trivial⟩, rowIn_RL, rowIn_RL, rowIn_RL, trivial⟩

/-- (*cartridge/cartridgeref22.Robot).Step -/
theorem ok_cartridgeref22_Robot_Step (fail14 : Bool) (labels1 : (List Int)) (in2 : (List Int)) (drives3 : (List Int)) (line4 : (List Int)) (order5 : (List Int)) (b6 : Nat) (b7 : Nat) (b8 : Nat) (b9 : Nat) (b10 : Nat) (b11 : Nat) (b12 : Nat) (pre13 : List Int) (nd : Nd [(b6, RV 84 [.ref b7 0 3, OL (α := Int) b11 line4, OQ (α := Int) b12 pre13 order5]), (b7, RV 118 [OL (α := Int) b8 labels1, OL (α := Int) b9 in2, OL (α := Int) b10 drives3]), (b8, RL (α := Int) 3 labels1), (b9, RL (α := Int) 3 in2), (b10, RL (α := Int) 3 drives3), (b11, RL (α := Int) 3 line4), (b12, RL (α := Int) 3 (pre13 ++ order5))]) (r : (Bool × ((List Int) × (List Int) × (List Int) × (List Int) × (List Int)))) (hX : X.cartridgeref22_Robot_Step fail14 labels1 in2 drives3 line4 order5 = some r) : TCX Try.prog 49 [.ref b6 0 3, Enc.v (fail14 : Bool)] [(b6, RV 84 [.ref b7 0 3, OL (α := Int) b11 line4, OQ (α := Int) b12 pre13 order5]), (b7, RV 118 [OL (α := Int) b8 labels1, OL (α := Int) b9 in2, OL (α := Int) b10 drives3]), (b8, RL (α := Int) 3 labels1), (b9, RL (α := Int) 3 in2), (b10, RL (α := Int) 3 drives3), (b11, RL (α := Int) 3 line4), (b12, RL (α := Int) 3 (pre13 ++ order5))] (fun rv h' => ∃ b141 b142 b143 b144 b145 b146 pre147, rv = Enc.v (r.1 : Bool) ∧ h' = [(b6, RV 84 [.ref b141 0 3, OL (α := Int) b145 r.2.2.2.2.1, OQ (α := Int) b146 pre147 r.2.2.2.2.2]), (b141, RV 118 [OL (α := Int) b142 r.2.1, OL (α := Int) b143 r.2.2.1, OL (α := Int) b144 r.2.2.2.1]), (b142, RL (α := Int) 3 r.2.1), (b143, RL (α := Int) 3 r.2.2.1), (b144, RL (α := Int) 3 r.2.2.2.1), (b145, RL (α := Int) 3 r.2.2.2.2.1), (b146, RL (α := Int) 3 (pre147 ++ r.2.2.2.2.2))]) := by
  refine TCX.of b49 (Nat.le_of_ble_eq_true rfl) ?_
  unfold k49
  unfold X.cartridgeref22_Robot_Step at hX
  refine TK.seq_k fun K15 hK15 => ?_
  refine TK.reg ?_
  refine TL.p (C := cx) (gc := true) (p_mv rfl) rfl rfl ?_
  refine TL.nil ?_
  refine hK15 _ _ ?_
  refine TK.seq_k fun K16 hK16 => ?_
  refine TK.seq_k fun K17 hK17 => ?_
  refine TK.reg ?_
  refine TL.p (C := cx) (gc := true) (p_mv rfl) rfl rfl ?_
  refine TL.p (C := cx) (gc := true) (p_ncR rfl (fun _ => refOK_of nd (j := 0) rfl rfl)) rfl rfl ?_
  refine TL.p (C := cx) (gc := true) (p_faV fs84_1 (by decide) rfl nd (j := 0) rfl rfl) rfl rfl ?_
  refine TL.p (C := cx) (gc := true) (p_ldV (v := OL (α := Int) b11 line4) ty46 rfl rfl nd (j := 0) rfl rfl rfl rfl rfl) rfl rfl ?_
  refine TL.p (C := cx) (gc := true) (p_lenR kd46 rfl (fun _ => refOK_of nd (j := 5) rfl rfl)) rfl rfl ?_
  refine TL.p (C := cx) (gc := true) (p_eql rfl rfl) rfl rfl ?_
  refine TL.nil ?_
  refine hK17 _ _ ?_
  refine TK.cond (b := ((line4.length : Int) == (0 : Int))) rfl (fun hc => ?_) (fun hc => ?_)
  · have hX := ite_t hc hX
    refine TK.seq_k fun K18 hK18 => ?_
    refine TK.reg ?_
    refine TL.p (C := cx) (gc := true) (p_mv rfl) rfl rfl ?_
    refine TL.nil ?_
    refine hK18 _ _ ?_
    refine TK.ret ?_
    try dsimp only [thenQ]
    exact retX (v := Enc.v (false : Bool)) (res1 rfl) (by obtain rfl := some_in hX; exact ⟨b7, b8, b9, b10, b11, b12, pre13, rfl, rfl⟩) nd (inH_val (v_val _)) ⟨rowIn_RV ⟨inH_ref nd (j := 1) rfl, inH_rs nd (j := 5) rfl, inH_rs nd (j := 6) rfl, trivial⟩, rowIn_RV ⟨inH_rs nd (j := 2) rfl, inH_rs nd (j := 3) rfl, inH_rs nd (j := 4) rfl, trivial⟩, rowIn_RL, rowIn_RL, rowIn_RL, rowIn_RL, rowIn_RL, trivial⟩
  · have hX := ite_f hc hX
    refine TK.skip ?_
    refine hK16 _ _ ?_
    refine TK.seq_k fun K19 hK19 => ?_
    refine TK.seq_k fun K20 hK20 => ?_
    refine TK.reg ?_
    refine TL.p (C := cx) (gc := true) (p_mv rfl) rfl rfl ?_
    refine TL.nil ?_
    refine hK20 _ _ ?_
    refine TK.block ?_
    obtain ⟨o21, hO21, hA21⟩ := bind_some hX
    have E21 : ∀ (env : Env) (h : Hp), (∃ _u : Unit, keepE [0, 1] env = [(0, true, .ref b6 0 3), (1, true, Enc.v (fail14 : Bool))] ∧ Nd [(b8, RL (α := Int) 3 labels1), (b9, RL (α := Int) 3 in2), (b10, RL (α := Int) 3 drives3), (b7, RV 118 [OL (α := Int) b8 labels1, OL (α := Int) b9 in2, OL (α := Int) b10 drives3]), (b11, RL (α := Int) 3 line4), (b12, RL (α := Int) 3 (pre13 ++ order5)), (b6, RV 84 [.ref b7 0 3, OL (α := Int) b11 line4, OQ (α := Int) b12 pre13 order5])] ∧ HSub [(b8, RL (α := Int) 3 labels1), (b9, RL (α := Int) 3 in2), (b10, RL (α := Int) 3 drives3), (b7, RV 118 [OL (α := Int) b8 labels1, OL (α := Int) b9 in2, OL (α := Int) b10 drives3]), (b11, RL (α := Int) 3 line4), (b12, RL (α := Int) 3 (pre13 ++ order5)), (b6, RV 84 [.ref b7 0 3, OL (α := Int) b11 line4, OQ (α := Int) b12 pre13 order5])] h) → X.cartridgeref22_Robot_Step_e21 fail14 labels1 in2 drives3 line4 order5 = some r → K19 env h := by
      intro  env h hE hX
      obtain ⟨_u, henv, nd, hs⟩ := hE
      unfold X.cartridgeref22_Robot_Step_e21 at hX
      refine hK19 _ _ (TK.keep [0, 1] ?_)
      rw [henv]
      refine TK.subH hs ?_
      refine TK.seq_k fun K37 hK37 => ?_
      refine TK.seq_k fun K38 hK38 => ?_
      refine TK.reg ?_
      refine TL.p (C := cx) (gc := true) (p_mv rfl) rfl rfl ?_
      refine TL.nil ?_
      refine hK38 _ _ ?_
      refine TK.cond (b := fail14) rfl (fun hc => ?_) (fun hc => ?_)
      · have hX := ite_t hc hX
        refine TK.seq_k fun K39 hK39 => ?_
        refine TK.reg ?_
        refine TL.p (C := cx) (gc := true) (p_mv rfl) rfl rfl ?_
        refine TL.nil ?_
        refine hK39 _ _ ?_
        refine TK.pick [6, 3, 0, 1, 2, 4, 5] nd (by decide) fun nd => ?_
        refine TK.ret ?_
        try dsimp only [thenQ]
        exact retX (v := Enc.v (true : Bool)) (res1 rfl) (by obtain rfl := some_in hX; exact ⟨b7, b8, b9, b10, b11, b12, pre13, rfl, rfl⟩) nd (inH_val (v_val _)) ⟨rowIn_RV ⟨inH_ref nd (j := 1) rfl, inH_rs nd (j := 5) rfl, inH_rs nd (j := 6) rfl, trivial⟩, rowIn_RV ⟨inH_rs nd (j := 2) rfl, inH_rs nd (j := 3) rfl, inH_rs nd (j := 4) rfl, trivial⟩, rowIn_RL, rowIn_RL, rowIn_RL, rowIn_RL, rowIn_RL, trivial⟩
      · have hX := ite_f hc hX
        refine TK.skip ?_
        refine hK37 _ _ ?_
        refine TK.seq_k fun K40 hK40 => ?_
        refine TK.seq_k fun K41 hK41 => ?_
        refine TK.reg ?_
        refine TL.p (C := cx) (gc := true) (p_mv rfl) rfl rfl ?_
        refine TL.nil ?_
        refine hK41 _ _ ?_
        refine TK.block ?_
        obtain ⟨o42, hO42, hA42⟩ := bind_some hX
        have E42 : ∀ (env : Env) (h : Hp), (∃ _u : Unit, keepE [0] env = [(0, true, .ref b6 0 3)] ∧ Nd [(b8, RL (α := Int) 3 labels1), (b9, RL (α := Int) 3 in2), (b10, RL (α := Int) 3 drives3), (b7, RV 118 [OL (α := Int) b8 labels1, OL (α := Int) b9 in2, OL (α := Int) b10 drives3]), (b11, RL (α := Int) 3 line4), (b12, RL (α := Int) 3 (pre13 ++ order5)), (b6, RV 84 [.ref b7 0 3, OL (α := Int) b11 line4, OQ (α := Int) b12 pre13 order5])] ∧ HSub [(b8, RL (α := Int) 3 labels1), (b9, RL (α := Int) 3 in2), (b10, RL (α := Int) 3 drives3), (b7, RV 118 [OL (α := Int) b8 labels1, OL (α := Int) b9 in2, OL (α := Int) b10 drives3]), (b11, RL (α := Int) 3 line4), (b12, RL (α := Int) 3 (pre13 ++ order5)), (b6, RV 84 [.ref b7 0 3, OL (α := Int) b11 line4, OQ (α := Int) b12 pre13 order5])] h) → X.cartridgeref22_Robot_Step_e42 order5 labels1 in2 drives3 line4 = some r → K40 env h := by
          intro  env h hE hX
          obtain ⟨_u, henv, nd, hs⟩ := hE
          unfold X.cartridgeref22_Robot_Step_e42 at hX
          refine hK40 _ _ (TK.keep [0] ?_)
          rw [henv]
          refine TK.subH hs ?_
          refine TK.seq_k fun K58 hK58 => ?_
          have ndS : Nd [(b11, RL (α := Int) 3 line4), (b12, RL (α := Int) 3 (pre13 ++ order5)), (b6, RV 84 [.ref b7 0 3, OL (α := Int) b11 line4, OQ (α := Int) b12 pre13 order5])] := Nd.pick nd (is := [4, 5, 6]) (by decide)
          refine TK.drwX (h := [(b8, RL (α := Int) 3 labels1), (b9, RL (α := Int) 3 in2), (b10, RL (α := Int) 3 drives3), (b7, RV 118 [OL (α := Int) b8 labels1, OL (α := Int) b9 in2, OL (α := Int) b10 drives3])]) (hS := [(b11, RL (α := Int) 3 line4), (b12, RL (α := Int) 3 (pre13 ++ order5)), (b6, RV 84 [.ref b7 0 3, OL (α := Int) b11 line4, OQ (α := Int) b12 pre13 order5])]) [(0, 0), (0, 1), (0, 2), (0, 3), (0, 4), (0, 5), (0, 6), (0, 7), (0, 8), (0, 9), (2, 10)] mixed (by kernel_rfl) (HSub_app nd) ?_
          refine DR0 (gc := true) rfl (vok_p (C := cx) (p_mv rfl)) rfl rfl ?_
          refine DR0 (gc := true) rfl (vok_p (C := cx) (p_ncR rfl (fun _ => refOK_of ndS (j := 2) rfl rfl))) rfl rfl ?_
          refine DR0 (gc := true) rfl (vok_p (C := cx) (p_faV fs84_0 (by decide) rfl ndS (j := 2) rfl rfl)) rfl rfl ?_
          refine DR0 (gc := true) rfl (vok_p (C := cx) (p_ldV (v := .ref b7 0 3) ty82 rfl rfl ndS (j := 2) rfl rfl rfl rfl rfl)) rfl rfl ?_
          refine DR0 (gc := true) rfl (vok_p (C := cx) (p_mv rfl)) rfl rfl ?_
          refine DR0 (gc := true) rfl (vok_p (C := cx) (p_ncR rfl (fun _ => refOK_of ndS (j := 2) rfl rfl))) rfl rfl ?_
          refine DR0 (gc := true) rfl (vok_p (C := cx) (p_faV fs84_2 (by decide) rfl ndS (j := 2) rfl rfl)) rfl rfl ?_
          refine DR0 (gc := true) rfl (vok_p (C := cx) (p_ldV (v := OQ (α := Int) b12 pre13 order5) ty46 rfl rfl ndS (j := 2) rfl rfl rfl rfl rfl)) rfl rfl ?_
          obtain ⟨e59, he59, hX⟩ := bind_some hX
          refine DR0 (gc := true) rfl (vok_p (C := cx) (p_iaOQ (pre := pre13) (xs := order5) kd46 ty3 rfl rfl rfl ndS (j := 1) rfl (fun _ => he59))) rfl rfl ?_
          refine DR0 (gc := true) rfl (vok_p (C := cx) (p_ldOQ (pre := pre13) (xs := order5) (a := e59) (e59 : Int) ty3 rfl rfl ndS (j := 1) rfl (fun _ => he59) rfl rfl rfl)) rfl rfl ?_
          obtain ⟨r60, hr60, hX⟩ := bind_some hX
          refine DR2 rfl rfl ?_
          refine TL.pick [3, 0, 1, 2, 4, 5, 6] nd (by decide) fun nd => ?_
          refine TL.tcX [(b7, RV 118 [OL (α := Int) b8 labels1, OL (α := Int) b9 in2, OL (α := Int) b10 drives3]), (b8, RL (α := Int) 3 labels1), (b9, RL (α := Int) 3 in2), (b10, RL (α := Int) 3 drives3)] [(b11, RL (α := Int) 3 line4), (b12, RL (α := Int) 3 (pre13 ++ order5)), (b6, RV 84 [.ref b7 0 3, OL (α := Int) b11 line4, OQ (α := Int) b12 pre13 order5])] rfl nd (dlt rfl) rfl ⟨rfl, ⟨rfl, ⟨rfl, trivial⟩⟩⟩ (ok_cartridgeref22_Shelf_Back e59 labels1 in2 drives3 b7 b8 b9 b10 (Nd.take nd 4 rfl) _ hr60) ?_
          rintro _ _ hQ nd
          obtain ⟨b62, b63, b64, rfl, rfl⟩ := hQ
          refine TL.nil ⟨_, [(b7, RV 118 [OL (α := Int) b62 r60.2.1, OL (α := Int) b63 r60.2.2.1, OL (α := Int) b64 r60.2.2.2]), (b62, RL (α := Int) 3 r60.2.1), (b63, RL (α := Int) 3 r60.2.2.1), (b64, RL (α := Int) 3 r60.2.2.2)], rfl, rfl, HSub_app nd, ?_⟩
          refine DRend ?_
          refine hK58 _ _ ?_
          refine TK.seq_k fun K65 hK65 => ?_
          refine TK.reg ?_
          refine TL.p (C := cx) (gc := true) (p_mv rfl) rfl rfl ?_
          refine TL.p (C := cx) (gc := true) (p_mv rfl) rfl rfl ?_
          refine TL.p (C := cx) (gc := true) (p_ncR rfl (fun _ => refOK_of nd (j := 6) rfl rfl)) rfl rfl ?_
          refine TL.p (C := cx) (gc := true) (p_faV fs84_2 (by decide) rfl nd (j := 6) rfl rfl) rfl rfl ?_
          refine TL.p (C := cx) (gc := true) (p_ldV (v := OQ (α := Int) b12 pre13 order5) ty46 rfl rfl nd (j := 6) rfl rfl rfl rfl rfl) rfl rfl ?_
          obtain ⟨u66, hu66, hX⟩ := bind_some hX
          refine TL.sliQ (C := cx) (pre := pre13) (xs := order5) (l := (1 : Int)) nd kd46 ty3 rfl rfl (j := 5) rfl rfl (need_t hu66) rfl fun b67 pre68 nd => ?_
          obtain ⟨u69, hu69, hX⟩ := bind_some hX
          refine TL.appN (C := cx) nd kd46 bo46 ty3 rfl rfl (.inl rfl) rfl (Src_OQ nd (j := 0) rfl) (by decide) (need_t hu69) rfl fun b70 nd => ?_
          refine TL.p (C := cx) (gc := true) (p_ncR rfl (fun _ => refOK_of nd (j := 7) rfl rfl)) rfl rfl ?_
          refine TL.p (C := cx) (gc := true) (p_faV fs84_2 (by decide) rfl nd (j := 7) rfl rfl) rfl rfl ?_
          refine TL.stV (C := cx) (lu := [OL (α := Int) b70 (slc order5 (1 : Int) (order5.length : Int))]) nd ty46 rfl (j := 7) rfl rfl rfl (Cells_rs (refOK_of nd (j := 0) rfl rfl)) rfl rfl [.ref b7 0 3, OL (α := Int) b11 line4, OL (α := Int) b70 (slc order5 (1 : Int) (order5.length : Int))] rfl fun nd => ?_
          refine TL.nil ?_
          refine hK65 _ _ ?_
          refine TK.seq_k fun K71 hK71 => ?_
          refine TK.reg ?_
          refine TL.p (C := cx) (gc := true) (p_mv rfl) rfl rfl ?_
          refine TL.nil ?_
          refine hK71 _ _ ?_
          refine TK.pick [7, 2, 3, 4, 5, 6, 0] nd (by decide) fun nd => ?_
          refine TK.ret ?_
          try dsimp only [thenQ]
          exact retX (v := Enc.v (true : Bool)) (res1 rfl) (by obtain rfl := some_in hX; exact ⟨b7, b62, b63, b64, b11, b70, ([] : List Int), rfl, rfl⟩) nd (inH_val (v_val _)) ⟨rowIn_RV ⟨inH_ref nd (j := 1) rfl, inH_rs nd (j := 5) rfl, inH_rs nd (j := 6) rfl, trivial⟩, rowIn_RV ⟨inH_rs nd (j := 2) rfl, inH_rs nd (j := 3) rfl, inH_rs nd (j := 4) rfl, trivial⟩, rowIn_RL, rowIn_RL, rowIn_RL, rowIn_RL, rowIn_RL, trivial⟩
        refine TK.iter [0, 8] (fun s env h => match s with | d50 => ∃ _u : Unit, env = [(0, true, .ref b6 0 3), (8, true, Enc.v (d50 : Int))] ∧ Nd [(b8, RL (α := Int) 3 labels1), (b9, RL (α := Int) 3 in2), (b10, RL (α := Int) 3 drives3), (b7, RV 118 [OL (α := Int) b8 labels1, OL (α := Int) b9 in2, OL (α := Int) b10 drives3]), (b11, RL (α := Int) 3 line4), (b12, RL (α := Int) 3 (pre13 ++ order5)), (b6, RV 84 [.ref b7 0 3, OL (α := Int) b11 line4, OQ (α := Int) b12 pre13 order5])] ∧ HSub [(b8, RL (α := Int) 3 labels1), (b9, RL (α := Int) 3 in2), (b10, RL (α := Int) 3 drives3), (b7, RV 118 [OL (α := Int) b8 labels1, OL (α := Int) b9 in2, OL (α := Int) b10 drives3]), (b11, RL (α := Int) 3 line4), (b12, RL (α := Int) 3 (pre13 ++ order5)), (b6, RV 84 [.ref b7 0 3, OL (α := Int) b11 line4, OQ (α := Int) b12 pre13 order5])] h) hO42 ⟨(), rfl, (Nd.pick nd (is := [0, 1, 2, 3, 4, 5, 6]) (by decide)), (HSub.pick nd (is := [0, 1, 2, 3, 4, 5, 6]) (by decide))⟩ ?_
        rintro d50 env h x42x ⟨_u, rfl, nd, hs⟩ hX hR42
        refine TK.subH hs ?_
        unfold X.cartridgeref22_Robot_Step_s42 at hX
        try dsimp only at hX
        refine TK.seq_k fun K72 hK72 => ?_
        refine TK.seq_k fun K73 hK73 => ?_
        refine TK.reg ?_
        refine TL.p (C := cx) (gc := true) (p_mv rfl) rfl rfl ?_
        refine TL.p (C := cx) (gc := true) (p_mv rfl) rfl rfl ?_
        refine TL.p (C := cx) (gc := true) (p_ncR rfl (fun _ => refOK_of nd (j := 6) rfl rfl)) rfl rfl ?_
        refine TL.p (C := cx) (gc := true) (p_faV fs84_0 (by decide) rfl nd (j := 6) rfl rfl) rfl rfl ?_
        refine TL.p (C := cx) (gc := true) (p_ldV (v := .ref b7 0 3) ty82 rfl rfl nd (j := 6) rfl rfl rfl rfl rfl) rfl rfl ?_
        refine TL.p (C := cx) (gc := true) (p_ncR rfl (fun _ => refOK_of nd (j := 3) rfl rfl)) rfl rfl ?_
        refine TL.p (C := cx) (gc := true) (p_faV fs118_2 (by decide) rfl nd (j := 3) rfl rfl) rfl rfl ?_
        refine TL.p (C := cx) (gc := true) (p_ldV (v := OL (α := Int) b10 drives3) ty46 rfl rfl nd (j := 3) rfl rfl rfl rfl rfl) rfl rfl ?_
        refine TL.p (C := cx) (gc := true) (p_lenR kd46 rfl (fun _ => refOK_of nd (j := 2) rfl rfl)) rfl rfl ?_
        refine TL.p (C := cx) (gc := true) (p_lss rfl rfl) rfl rfl ?_
        refine TL.nil ?_
        refine hK73 _ _ ?_
        refine TK.cond (b := (decide (d50 < (drives3.length : Int)))) rfl (fun hc => ?_) (fun hc => ?_)
        · have hX := ite_t hc hX
          refine TK.skip ?_
          refine hK72 _ _ ?_
          refine TK.seq_k fun K74 hK74 => ?_
          refine TK.block ?_
          refine TK.seq_k fun K75 hK75 => ?_
          refine TK.reg ?_
          refine TL.p (C := cx) (gc := true) (p_mv rfl) rfl rfl ?_
          refine TL.p (C := cx) (gc := true) (p_ncR rfl (fun _ => refOK_of nd (j := 6) rfl rfl)) rfl rfl ?_
          refine TL.p (C := cx) (gc := true) (p_faV fs84_0 (by decide) rfl nd (j := 6) rfl rfl) rfl rfl ?_
          refine TL.p (C := cx) (gc := true) (p_ldV (v := .ref b7 0 3) ty82 rfl rfl nd (j := 6) rfl rfl rfl rfl rfl) rfl rfl ?_
          refine TL.p (C := cx) (gc := true) (p_ncR rfl (fun _ => refOK_of nd (j := 3) rfl rfl)) rfl rfl ?_
          refine TL.p (C := cx) (gc := true) (p_faV fs118_2 (by decide) rfl nd (j := 3) rfl rfl) rfl rfl ?_
          refine TL.p (C := cx) (gc := true) (p_ldV (v := OL (α := Int) b10 drives3) ty46 rfl rfl nd (j := 3) rfl rfl rfl rfl rfl) rfl rfl ?_
          refine TL.p (C := cx) (gc := true) (p_mv rfl) rfl rfl ?_
          obtain ⟨e76, he76, hX⟩ := bind_some hX
          refine TL.p (C := cx) (gc := true) (p_iaO (xs := drives3) kd46 ty3 rfl rfl rfl nd (j := 2) rfl (fun _ => he76)) rfl rfl ?_
          refine TL.p (C := cx) (gc := true) (p_ldO (xs := drives3) (a := e76) (e76 : Int) ty3 rfl rfl nd (j := 2) rfl (fun _ => he76) rfl rfl rfl) rfl rfl ?_
          refine TL.p (C := cx) (gc := true) (p_eql rfl rfl) rfl rfl ?_
          refine TL.nil ?_
          refine hK75 _ _ ?_
          refine TK.cond (b := (e76 == (0 : Int))) rfl (fun hc => ?_) (fun hc => ?_)
          · have hX := ite_t hc hX
            refine TK.seq_k fun K77 hK77 => ?_
            have ndS : Nd [(b11, RL (α := Int) 3 line4), (b12, RL (α := Int) 3 (pre13 ++ order5)), (b6, RV 84 [.ref b7 0 3, OL (α := Int) b11 line4, OQ (α := Int) b12 pre13 order5])] := Nd.pick nd (is := [4, 5, 6]) (by decide)
            refine TK.drwX (h := [(b8, RL (α := Int) 3 labels1), (b9, RL (α := Int) 3 in2), (b10, RL (α := Int) 3 drives3), (b7, RV 118 [OL (α := Int) b8 labels1, OL (α := Int) b9 in2, OL (α := Int) b10 drives3])]) (hS := [(b11, RL (α := Int) 3 line4), (b12, RL (α := Int) 3 (pre13 ++ order5)), (b6, RV 84 [.ref b7 0 3, OL (α := Int) b11 line4, OQ (α := Int) b12 pre13 order5])]) [(0, 0), (0, 1), (0, 2), (0, 3), (0, 4), (0, 5), (0, 6), (0, 7), (0, 8), (0, 9), (0, 10), (2, 11)] mixed (by kernel_rfl) (HSub_app nd) ?_
            refine DR0 (gc := true) rfl (vok_p (C := cx) (p_mv rfl)) rfl rfl ?_
            refine DR0 (gc := true) rfl (vok_p (C := cx) (p_ncR rfl (fun _ => refOK_of ndS (j := 2) rfl rfl))) rfl rfl ?_
            refine DR0 (gc := true) rfl (vok_p (C := cx) (p_faV fs84_0 (by decide) rfl ndS (j := 2) rfl rfl)) rfl rfl ?_
            refine DR0 (gc := true) rfl (vok_p (C := cx) (p_ldV (v := .ref b7 0 3) ty82 rfl rfl ndS (j := 2) rfl rfl rfl rfl rfl)) rfl rfl ?_
            refine DR0 (gc := true) rfl (vok_p (C := cx) (p_mv rfl)) rfl rfl ?_
            refine DR0 (gc := true) rfl (vok_p (C := cx) (p_ncR rfl (fun _ => refOK_of ndS (j := 2) rfl rfl))) rfl rfl ?_
            refine DR0 (gc := true) rfl (vok_p (C := cx) (p_faV fs84_1 (by decide) rfl ndS (j := 2) rfl rfl)) rfl rfl ?_
            refine DR0 (gc := true) rfl (vok_p (C := cx) (p_ldV (v := OL (α := Int) b11 line4) ty46 rfl rfl ndS (j := 2) rfl rfl rfl rfl rfl)) rfl rfl ?_
            obtain ⟨e78, he78, hX⟩ := bind_some hX
            refine DR0 (gc := true) rfl (vok_p (C := cx) (p_iaO (xs := line4) kd46 ty3 rfl rfl rfl ndS (j := 0) rfl (fun _ => he78))) rfl rfl ?_
            refine DR0 (gc := true) rfl (vok_p (C := cx) (p_ldO (xs := line4) (a := e78) (e78 : Int) ty3 rfl rfl ndS (j := 0) rfl (fun _ => he78) rfl rfl rfl)) rfl rfl ?_
            refine DR0 (gc := true) rfl (vok_p (C := cx) (p_mv rfl)) rfl rfl ?_
            obtain ⟨r79, hr79, hX⟩ := bind_some hX
            refine DR2 rfl rfl ?_
            refine TL.pick [3, 0, 1, 2, 4, 5, 6] nd (by decide) fun nd => ?_
            refine TL.tcX [(b7, RV 118 [OL (α := Int) b8 labels1, OL (α := Int) b9 in2, OL (α := Int) b10 drives3]), (b8, RL (α := Int) 3 labels1), (b9, RL (α := Int) 3 in2), (b10, RL (α := Int) 3 drives3)] [(b11, RL (α := Int) 3 line4), (b12, RL (α := Int) 3 (pre13 ++ order5)), (b6, RV 84 [.ref b7 0 3, OL (α := Int) b11 line4, OQ (α := Int) b12 pre13 order5])] rfl nd (dlt rfl) rfl ⟨rfl, ⟨rfl, ⟨rfl, ⟨rfl, trivial⟩⟩⟩⟩ (ok_cartridgeref22_Shelf_Move e78 d50 labels1 in2 drives3 b7 b8 b9 b10 (Nd.take nd 4 rfl) _ hr79) ?_
            rintro _ _ hQ nd
            obtain ⟨b81, b82, b83, rfl, rfl⟩ := hQ
            refine TL.nil ⟨_, [(b7, RV 118 [OL (α := Int) b81 r79.2.1, OL (α := Int) b82 r79.2.2.1, OL (α := Int) b83 r79.2.2.2]), (b81, RL (α := Int) 3 r79.2.1), (b82, RL (α := Int) 3 r79.2.2.1), (b83, RL (α := Int) 3 r79.2.2.2)], rfl, rfl, HSub_app nd, ?_⟩
            refine DRend ?_
            refine hK77 _ _ ?_
            refine TK.seq_k fun K84 hK84 => ?_
            refine TK.reg ?_
            refine TL.p (C := cx) (gc := true) (p_mv rfl) rfl rfl ?_
            refine TL.p (C := cx) (gc := true) (p_mv rfl) rfl rfl ?_
            refine TL.p (C := cx) (gc := true) (p_ncR rfl (fun _ => refOK_of nd (j := 6) rfl rfl)) rfl rfl ?_
            refine TL.p (C := cx) (gc := true) (p_faV fs84_2 (by decide) rfl nd (j := 6) rfl rfl) rfl rfl ?_
            refine TL.p (C := cx) (gc := true) (p_ldV (v := OQ (α := Int) b12 pre13 order5) ty46 rfl rfl nd (j := 6) rfl rfl rfl rfl rfl) rfl rfl ?_
            refine TL.p (C := cx) (gc := true) (p_mv rfl) rfl rfl ?_
            refine TL.lit (C := cx) ([d50] : List Int) kd46 ty3 rfl ⟨⟨rfl, rfl⟩, trivial⟩ rfl rfl rfl ?_
            obtain ⟨u85, hu85, hX⟩ := bind_some hX
            refine TL.appQ (C := cx) (pre := pre13) (xs := order5) nd kd46 bo46 ty3 rfl rfl (j := 5) rfl rfl (Src_L _) (by decide) (need_t hu85) rfl fun b86 pre87 nd => ?_
            refine TL.p (C := cx) (gc := true) (p_ncR rfl (fun _ => refOK_of nd (j := 6) rfl rfl)) rfl rfl ?_
            refine TL.p (C := cx) (gc := true) (p_faV fs84_2 (by decide) rfl nd (j := 6) rfl rfl) rfl rfl ?_
            refine TL.stV (C := cx) (lu := [OQ (α := Int) b86 pre87 (order5 ++ ([d50] : List Int))]) nd ty46 rfl (j := 6) rfl rfl rfl (Cells_rs (refOK_of nd (j := 0) rfl rfl)) rfl rfl [.ref b7 0 3, OL (α := Int) b11 line4, OQ (α := Int) b86 pre87 (order5 ++ ([d50] : List Int))] rfl fun nd => ?_
            refine TL.nil ?_
            refine hK84 _ _ ?_
            refine TK.seq_k fun K88 hK88 => ?_
            refine TK.reg ?_
            refine TL.p (C := cx) (gc := true) (p_mv rfl) rfl rfl ?_
            refine TL.nil ?_
            refine hK88 _ _ ?_
            refine TK.pick [6, 1, 2, 3, 4, 5, 0] nd (by decide) fun nd => ?_
            refine TK.ret ?_
            obtain rfl := hR42 _ (some_in hX).symm
            replace hX := hA42
            try dsimp only [thenQ]
            exact retX (v := Enc.v (true : Bool)) (res1 rfl) (by obtain rfl := some_in hX; exact ⟨b7, b81, b82, b83, b11, b86, pre87, rfl, rfl⟩) nd (inH_val (v_val _)) ⟨rowIn_RV ⟨inH_ref nd (j := 1) rfl, inH_rs nd (j := 5) rfl, inH_rs nd (j := 6) rfl, trivial⟩, rowIn_RV ⟨inH_rs nd (j := 2) rfl, inH_rs nd (j := 3) rfl, inH_rs nd (j := 4) rfl, trivial⟩, rowIn_RL, rowIn_RL, rowIn_RL, rowIn_RL, rowIn_RL, trivial⟩
          · have hX := ite_f hc hX
            refine TK.skip ?_
            refine hK74 _ _ ?_
            refine TK.reg ?_
            refine TL.p (C := cx) (gc := true) (p_mv rfl) rfl rfl ?_
            refine TL.p (C := cx) (gc := true) (p_add rfl rfl) rfl rfl ?_
            refine TL.p (C := cx) (gc := true) (p_mv rfl) rfl rfl ?_
            refine TL.nil ?_
            exact ⟨_, (some_in hX).symm, (), rfl, (Nd.pick nd (is := [0, 1, 2, 3, 4, 5, 6]) (by decide)), (HSub.pick nd (is := [0, 1, 2, 3, 4, 5, 6]) (by decide))⟩
        · have hX := ite_f hc hX
          refine TK.exit ?_
          obtain rfl := hR42 _ (some_in hX).symm
          exact E42 _ _ ⟨(), rfl, (Nd.pick nd (is := [0, 1, 2, 3, 4, 5, 6]) (by decide)), (HSub.pick nd (is := [0, 1, 2, 3, 4, 5, 6]) (by decide))⟩ hA42
    refine TK.iter [0, 1, 5] (fun s env h => match s with | d29 => ∃ _u : Unit, env = [(0, true, .ref b6 0 3), (1, true, Enc.v (fail14 : Bool)), (5, true, Enc.v (d29 : Int))] ∧ Nd [(b8, RL (α := Int) 3 labels1), (b9, RL (α := Int) 3 in2), (b10, RL (α := Int) 3 drives3), (b7, RV 118 [OL (α := Int) b8 labels1, OL (α := Int) b9 in2, OL (α := Int) b10 drives3]), (b11, RL (α := Int) 3 line4), (b12, RL (α := Int) 3 (pre13 ++ order5)), (b6, RV 84 [.ref b7 0 3, OL (α := Int) b11 line4, OQ (α := Int) b12 pre13 order5])] ∧ HSub [(b8, RL (α := Int) 3 labels1), (b9, RL (α := Int) 3 in2), (b10, RL (α := Int) 3 drives3), (b7, RV 118 [OL (α := Int) b8 labels1, OL (α := Int) b9 in2, OL (α := Int) b10 drives3]), (b11, RL (α := Int) 3 line4), (b12, RL (α := Int) 3 (pre13 ++ order5)), (b6, RV 84 [.ref b7 0 3, OL (α := Int) b11 line4, OQ (α := Int) b12 pre13 order5])] h) hO21 ⟨(), rfl, (Nd.pick nd (is := [2, 3, 4, 1, 5, 6, 0]) (by decide)), (HSub.pick nd (is := [2, 3, 4, 1, 5, 6, 0]) (by decide))⟩ ?_
    rintro d29 env h x21x ⟨_u, rfl, nd, hs⟩ hX hR21
    refine TK.subH hs ?_
    unfold X.cartridgeref22_Robot_Step_s21 at hX
    try dsimp only at hX
    refine TK.seq_k fun K89 hK89 => ?_
    refine TK.seq_k fun K90 hK90 => ?_
    refine TK.reg ?_
    refine TL.p (C := cx) (gc := true) (p_mv rfl) rfl rfl ?_
    refine TL.p (C := cx) (gc := true) (p_mv rfl) rfl rfl ?_
    refine TL.p (C := cx) (gc := true) (p_ncR rfl (fun _ => refOK_of nd (j := 6) rfl rfl)) rfl rfl ?_
    refine TL.p (C := cx) (gc := true) (p_faV fs84_0 (by decide) rfl nd (j := 6) rfl rfl) rfl rfl ?_
    refine TL.p (C := cx) (gc := true) (p_ldV (v := .ref b7 0 3) ty82 rfl rfl nd (j := 6) rfl rfl rfl rfl rfl) rfl rfl ?_
    refine TL.p (C := cx) (gc := true) (p_ncR rfl (fun _ => refOK_of nd (j := 3) rfl rfl)) rfl rfl ?_
    refine TL.p (C := cx) (gc := true) (p_faV fs118_2 (by decide) rfl nd (j := 3) rfl rfl) rfl rfl ?_
    refine TL.p (C := cx) (gc := true) (p_ldV (v := OL (α := Int) b10 drives3) ty46 rfl rfl nd (j := 3) rfl rfl rfl rfl rfl) rfl rfl ?_
    refine TL.p (C := cx) (gc := true) (p_lenR kd46 rfl (fun _ => refOK_of nd (j := 2) rfl rfl)) rfl rfl ?_
    refine TL.p (C := cx) (gc := true) (p_lss rfl rfl) rfl rfl ?_
    refine TL.nil ?_
    refine hK90 _ _ ?_
    refine TK.cond (b := (decide (d29 < (drives3.length : Int)))) rfl (fun hc => ?_) (fun hc => ?_)
    · have hX := ite_t hc hX
      refine TK.skip ?_
      refine hK89 _ _ ?_
      refine TK.seq_k fun K91 hK91 => ?_
      refine TK.block ?_
      refine TK.seq_k fun K92 hK92 => ?_
      refine TK.seq_k fun K93 hK93 => ?_
      refine TK.reg ?_
      refine TL.p (C := cx) (gc := true) (p_mv rfl) rfl rfl ?_
      refine TL.p (C := cx) (gc := true) (p_ncR rfl (fun _ => refOK_of nd (j := 6) rfl rfl)) rfl rfl ?_
      refine TL.p (C := cx) (gc := true) (p_faV fs84_0 (by decide) rfl nd (j := 6) rfl rfl) rfl rfl ?_
      refine TL.p (C := cx) (gc := true) (p_ldV (v := .ref b7 0 3) ty82 rfl rfl nd (j := 6) rfl rfl rfl rfl rfl) rfl rfl ?_
      refine TL.p (C := cx) (gc := true) (p_ncR rfl (fun _ => refOK_of nd (j := 3) rfl rfl)) rfl rfl ?_
      refine TL.p (C := cx) (gc := true) (p_faV fs118_2 (by decide) rfl nd (j := 3) rfl rfl) rfl rfl ?_
      refine TL.p (C := cx) (gc := true) (p_ldV (v := OL (α := Int) b10 drives3) ty46 rfl rfl nd (j := 3) rfl rfl rfl rfl rfl) rfl rfl ?_
      refine TL.p (C := cx) (gc := true) (p_mv rfl) rfl rfl ?_
      obtain ⟨e94, he94, hX⟩ := bind_some hX
      refine TL.p (C := cx) (gc := true) (p_iaO (xs := drives3) kd46 ty3 rfl rfl rfl nd (j := 2) rfl (fun _ => he94)) rfl rfl ?_
      refine TL.p (C := cx) (gc := true) (p_ldO (xs := drives3) (a := e94) (e94 : Int) ty3 rfl rfl nd (j := 2) rfl (fun _ => he94) rfl rfl rfl) rfl rfl ?_
      refine TL.p (C := cx) (gc := true) (p_eql rfl rfl) rfl rfl ?_
      refine TL.p (C := cx) (gc := true) (p_mv rfl) rfl rfl ?_
      refine TL.p (C := cx) (gc := (!((e94 == (0 : Int))))) (p_mv rfl (hg := fun e => rfl)) (gcF1 rfl) rfl ?_
      refine TL.p (C := cx) (gc := (!((e94 == (0 : Int))))) (p_mv rfl (hg := fun e => rfl)) (gcF1 rfl) rfl ?_
      refine TL.p (C := cx) (gc := (!((e94 == (0 : Int))))) (p_ncR rfl (fun _ => refOK_of nd (j := 6) rfl rfl) (hg := fun e => e)) (gcF1 rfl) rfl ?_
      refine TL.p (C := cx) (gc := (!((e94 == (0 : Int))))) (p_faV fs84_0 (by decide) rfl nd (j := 6) rfl rfl (hg := fun e => e)) (gcF1 rfl) rfl ?_
      refine TL.p (C := cx) (gc := (!((e94 == (0 : Int))))) (p_ldV (v := .ref b7 0 3) ty82 rfl rfl nd (j := 6) rfl rfl rfl rfl rfl (hg := fun e => e)) (gcF1 rfl) rfl ?_
      refine TL.p (C := cx) (gc := (!((e94 == (0 : Int))))) (p_ncR rfl (fun _ => refOK_of nd (j := 3) rfl rfl) (hg := fun e => e)) (gcF1 rfl) rfl ?_
      refine TL.p (C := cx) (gc := (!((e94 == (0 : Int))))) (p_faV fs118_2 (by decide) rfl nd (j := 3) rfl rfl (hg := fun e => e)) (gcF1 rfl) rfl ?_
      refine TL.p (C := cx) (gc := (!((e94 == (0 : Int))))) (p_ldV (v := OL (α := Int) b10 drives3) ty46 rfl rfl nd (j := 3) rfl rfl rfl rfl rfl (hg := fun e => e)) (gcF1 rfl) rfl ?_
      refine TL.p (C := cx) (gc := (!((e94 == (0 : Int))))) (p_mv rfl (hg := fun e => rfl)) (gcF1 rfl) rfl ?_
      obtain ⟨e95, he95, hX⟩ := bind_some hX
      refine TL.p (C := cx) (gc := (!((e94 == (0 : Int))))) (p_iaO (xs := drives3) kd46 ty3 rfl rfl rfl nd (j := 2) rfl (fun e => optG_t he95 e) (hg := fun e => ⟨e, e⟩)) (gcF1 rfl) rfl ?_
      refine TL.p (C := cx) (gc := (!((e94 == (0 : Int))))) (p_ldO (xs := drives3) (a := e95) (e95 : Int) ty3 rfl rfl nd (j := 2) rfl (fun e => optG_t he95 e) rfl rfl rfl (hg := fun e => e)) (gcF1 rfl) rfl ?_
      obtain ⟨r96, hr96, hX⟩ := bind_some hX
      refine TL.lookX [.vref (ofL [.vref (ofL [Enc.v (labels1 : (List Int)), Enc.v (in2 : (List Int)), Enc.v (drives3 : (List Int))]) 3 0, Enc.v (line4 : (List Int)), Enc.v (order5 : (List Int))]) 3 0, Enc.v (e95 : Int)] (gcF1 rfl) rfl rfl (fun e => ⟨rfl, ⟨e, ⟨e, trivial⟩⟩⟩) ⟨look_ref (l := [.ref b7 0 3, OL (α := Int) b11 line4, OQ (α := Int) b12 pre13 order5]) nd (j := 6) rfl ⟨look_ref (l := [OL (α := Int) b8 labels1, OL (α := Int) b9 in2, OL (α := Int) b10 drives3]) nd (j := 3) rfl ⟨look_OL nd (j := 0) rfl, look_OL nd (j := 1) rfl, look_OL nd (j := 2) rfl, trivial⟩, look_OL nd (j := 4) rfl, look_OQ nd (j := 5) rfl, trivial⟩, look_v (v := Enc.v (e95 : Int)) (v_val _), trivial⟩ (fun e => ok_cartridgeref22_Robot_wants labels1 in2 drives3 line4 order5 e95 _ (optG_t hr96 e)) (trivial) ?_
      refine TL.p (C := cx) (gc := (!((e94 == (0 : Int))))) (p_not rfl (hg := fun e => e)) (gcF1 rfl) rfl ?_
      refine TL.p (C := cx) (gc := true) (p_or rfl rfl (fun e => ⟨rfl, fun h => (not_t h)⟩)) rfl rfl ?_
      refine TL.nil ?_
      refine hK93 _ _ ?_
      refine TK.cond (b := ((e94 == (0 : Int)) || (!r96))) rfl (fun hc => ?_) (fun hc => ?_)
      · have hX := ite_t hc hX
        refine TK.exit ?_
        refine hK91 _ _ ?_
        refine TK.reg ?_
        refine TL.p (C := cx) (gc := true) (p_mv rfl) rfl rfl ?_
        refine TL.p (C := cx) (gc := true) (p_add rfl rfl) rfl rfl ?_
        refine TL.p (C := cx) (gc := true) (p_mv rfl) rfl rfl ?_
        refine TL.nil ?_
        exact ⟨_, (some_in hX).symm, (), rfl, (Nd.pick nd (is := [0, 1, 2, 3, 4, 5, 6]) (by decide)), (HSub.pick nd (is := [0, 1, 2, 3, 4, 5, 6]) (by decide))⟩
      · have hX := ite_f hc hX
        refine TK.skip ?_
        refine hK92 _ _ ?_
        refine TK.seq_k fun K97 hK97 => ?_
        refine TK.reg ?_
        refine TL.p (C := cx) (gc := true) (p_mv rfl) rfl rfl ?_
        refine TL.nil ?_
        refine hK97 _ _ ?_
        refine TK.ownL (α := Int) 6 3 nd rfl (.inl rfl) fun b98 nd => ?_
        refine TK.seq_k fun K99 hK99 => ?_
        refine TK.seq_k fun K100 hK100 => ?_
        refine TK.reg ?_
        refine TL.p (C := cx) (gc := true) (p_mv rfl) rfl rfl ?_
        refine TL.nil ?_
        refine hK100 _ _ ?_
        refine TK.block ?_
        obtain ⟨o101, hO101, hA101⟩ := bind_some hX
        have E101 : ∀ (l120 : List Int) (env : Env) (h : Hp), (∃ b119, keepE [0, 6] env = [(0, true, .ref b6 0 3), (6, true, OL (α := Int) b119 l120)] ∧ Nd [(b8, RL (α := Int) 3 labels1), (b9, RL (α := Int) 3 in2), (b10, RL (α := Int) 3 drives3), (b7, RV 118 [OL (α := Int) b8 labels1, OL (α := Int) b9 in2, OL (α := Int) b10 drives3]), (b11, RL (α := Int) 3 line4), (b12, RL (α := Int) 3 (pre13 ++ order5)), (b6, RV 84 [.ref b7 0 3, OL (α := Int) b11 line4, OQ (α := Int) b12 pre13 order5]), (b119, RL (α := Int) 3 l120)] ∧ HSub [(b8, RL (α := Int) 3 labels1), (b9, RL (α := Int) 3 in2), (b10, RL (α := Int) 3 drives3), (b7, RV 118 [OL (α := Int) b8 labels1, OL (α := Int) b9 in2, OL (α := Int) b10 drives3]), (b11, RL (α := Int) 3 line4), (b12, RL (α := Int) 3 (pre13 ++ order5)), (b6, RV 84 [.ref b7 0 3, OL (α := Int) b11 line4, OQ (α := Int) b12 pre13 order5]), (b119, RL (α := Int) 3 l120)] h) → X.cartridgeref22_Robot_Step_e101 labels1 in2 drives3 order5 l120 = some x21x → K99 env h := by
          intro l120 env h hE hX
          obtain ⟨b119, henv, nd, hs⟩ := hE
          unfold X.cartridgeref22_Robot_Step_e101 at hX
          refine hK99 _ _ (TK.keep [0, 6] ?_)
          rw [henv]
          refine TK.subH hs ?_
          refine TK.seq_k fun K121 hK121 => ?_
          refine TK.reg ?_
          refine TL.p (C := cx) (gc := true) (p_mv rfl) rfl rfl ?_
          refine TL.p (C := cx) (gc := true) (p_mv rfl) rfl rfl ?_
          refine TL.p (C := cx) (gc := true) (p_ncR rfl (fun _ => refOK_of nd (j := 6) rfl rfl)) rfl rfl ?_
          refine TL.p (C := cx) (gc := true) (p_faV fs84_1 (by decide) rfl nd (j := 6) rfl rfl) rfl rfl ?_
          refine TL.stV (C := cx) (lu := [OL (α := Int) b119 l120]) nd ty46 rfl (j := 6) rfl rfl rfl (Cells_rs (refOK_of nd (j := 7) rfl rfl)) rfl rfl [.ref b7 0 3, OL (α := Int) b119 l120, OQ (α := Int) b12 pre13 order5] rfl fun nd => ?_
          refine TL.nil ?_
          refine hK121 _ _ ?_
          refine TK.seq_k fun K122 hK122 => ?_
          refine TK.reg ?_
          refine TL.p (C := cx) (gc := true) (p_mv rfl) rfl rfl ?_
          refine TL.nil ?_
          refine hK122 _ _ ?_
          refine TK.pick [6, 3, 0, 1, 2, 7, 5] nd (by decide) fun nd => ?_
          refine TK.ret ?_
          obtain rfl := hR21 _ (some_in hX).symm
          replace hX := hA21
          try dsimp only [thenQ]
          exact retX (v := Enc.v (true : Bool)) (res1 rfl) (by obtain rfl := some_in hX; exact ⟨b7, b8, b9, b10, b119, b12, pre13, rfl, rfl⟩) nd (inH_val (v_val _)) ⟨rowIn_RV ⟨inH_ref nd (j := 1) rfl, inH_rs nd (j := 5) rfl, inH_rs nd (j := 6) rfl, trivial⟩, rowIn_RV ⟨inH_rs nd (j := 2) rfl, inH_rs nd (j := 3) rfl, inH_rs nd (j := 4) rfl, trivial⟩, rowIn_RL, rowIn_RL, rowIn_RL, rowIn_RL, rowIn_RL, trivial⟩
        refine TK.iter [0, 5, 6, 7] (fun s env h => match s with | (left110, i111) => ∃ b109, env = [(0, true, .ref b6 0 3), (5, true, Enc.v (d29 : Int)), (6, true, OL (α := Int) b109 left110), (7, true, Enc.v (i111 : Int))] ∧ Nd [(b8, RL (α := Int) 3 labels1), (b9, RL (α := Int) 3 in2), (b10, RL (α := Int) 3 drives3), (b7, RV 118 [OL (α := Int) b8 labels1, OL (α := Int) b9 in2, OL (α := Int) b10 drives3]), (b11, RL (α := Int) 3 line4), (b12, RL (α := Int) 3 (pre13 ++ order5)), (b6, RV 84 [.ref b7 0 3, OL (α := Int) b11 line4, OQ (α := Int) b12 pre13 order5]), (b109, RL (α := Int) 3 left110)] ∧ HSub [(b8, RL (α := Int) 3 labels1), (b9, RL (α := Int) 3 in2), (b10, RL (α := Int) 3 drives3), (b7, RV 118 [OL (α := Int) b8 labels1, OL (α := Int) b9 in2, OL (α := Int) b10 drives3]), (b11, RL (α := Int) 3 line4), (b12, RL (α := Int) 3 (pre13 ++ order5)), (b6, RV 84 [.ref b7 0 3, OL (α := Int) b11 line4, OQ (α := Int) b12 pre13 order5]), (b109, RL (α := Int) 3 left110)] h) hO101 ⟨b98, rfl, (Nd.pick nd (is := [1, 2, 3, 4, 5, 6, 7, 0]) (by decide)), (HSub.pick nd (is := [1, 2, 3, 4, 5, 6, 7, 0]) (by decide))⟩ ?_
        rintro ⟨left110, i111⟩ env h x101x ⟨b109, rfl, nd, hs⟩ hX hR101
        refine TK.subH hs ?_
        unfold X.cartridgeref22_Robot_Step_s101 at hX
        try dsimp only at hX
        refine TK.seq_k fun K123 hK123 => ?_
        refine TK.seq_k fun K124 hK124 => ?_
        refine TK.reg ?_
        refine TL.p (C := cx) (gc := true) (p_mv rfl) rfl rfl ?_
        refine TL.p (C := cx) (gc := true) (p_mv rfl) rfl rfl ?_
        refine TL.p (C := cx) (gc := true) (p_ncR rfl (fun _ => refOK_of nd (j := 6) rfl rfl)) rfl rfl ?_
        refine TL.p (C := cx) (gc := true) (p_faV fs84_1 (by decide) rfl nd (j := 6) rfl rfl) rfl rfl ?_
        refine TL.p (C := cx) (gc := true) (p_ldV (v := OL (α := Int) b11 line4) ty46 rfl rfl nd (j := 6) rfl rfl rfl rfl rfl) rfl rfl ?_
        refine TL.p (C := cx) (gc := true) (p_lenR kd46 rfl (fun _ => refOK_of nd (j := 4) rfl rfl)) rfl rfl ?_
        refine TL.p (C := cx) (gc := true) (p_lss rfl rfl) rfl rfl ?_
        refine TL.nil ?_
        refine hK124 _ _ ?_
        refine TK.cond (b := (decide (i111 < (line4.length : Int)))) rfl (fun hc => ?_) (fun hc => ?_)
        · have hX := ite_t hc hX
          refine TK.skip ?_
          refine hK123 _ _ ?_
          refine TK.seq_k fun K125 hK125 => ?_
          have J125 : ∀ (l134 : List Int) (env : Env) (h : Hp), (∃ b133, keepE [0, 5, 6, 7] env = [(0, true, .ref b6 0 3), (5, true, Enc.v (d29 : Int)), (6, true, OL (α := Int) b133 l134), (7, true, Enc.v (i111 : Int))] ∧ Nd [(b8, RL (α := Int) 3 labels1), (b9, RL (α := Int) 3 in2), (b10, RL (α := Int) 3 drives3), (b7, RV 118 [OL (α := Int) b8 labels1, OL (α := Int) b9 in2, OL (α := Int) b10 drives3]), (b11, RL (α := Int) 3 line4), (b12, RL (α := Int) 3 (pre13 ++ order5)), (b6, RV 84 [.ref b7 0 3, OL (α := Int) b11 line4, OQ (α := Int) b12 pre13 order5]), (b133, RL (α := Int) 3 l134)] ∧ HSub [(b8, RL (α := Int) 3 labels1), (b9, RL (α := Int) 3 in2), (b10, RL (α := Int) 3 drives3), (b7, RV 118 [OL (α := Int) b8 labels1, OL (α := Int) b9 in2, OL (α := Int) b10 drives3]), (b11, RL (α := Int) 3 line4), (b12, RL (α := Int) 3 (pre13 ++ order5)), (b6, RV 84 [.ref b7 0 3, OL (α := Int) b11 line4, OQ (α := Int) b12 pre13 order5]), (b133, RL (α := Int) 3 l134)] h) → X.cartridgeref22_Robot_Step_j125 i111 l134 = some x101x → K125 env h := by
            intro l134 env h hE hX
            obtain ⟨b133, henv, nd, hs⟩ := hE
            unfold X.cartridgeref22_Robot_Step_j125 at hX
            refine hK125 _ _ (TK.keep [0, 5, 6, 7] ?_)
            rw [henv]
            refine TK.subH hs ?_
            refine TK.reg ?_
            refine TL.p (C := cx) (gc := true) (p_mv rfl) rfl rfl ?_
            refine TL.p (C := cx) (gc := true) (p_add rfl rfl) rfl rfl ?_
            refine TL.p (C := cx) (gc := true) (p_mv rfl) rfl rfl ?_
            refine TL.nil ?_
            exact ⟨_, (some_in hX).symm, b133, rfl, (Nd.pick nd (is := [0, 1, 2, 3, 4, 5, 6, 7]) (by decide)), (HSub.pick nd (is := [0, 1, 2, 3, 4, 5, 6, 7]) (by decide))⟩
          refine TK.block ?_
          refine TK.seq_k fun K135 hK135 => ?_
          have ndS : Nd [(b8, RL (α := Int) 3 labels1), (b9, RL (α := Int) 3 in2), (b10, RL (α := Int) 3 drives3), (b7, RV 118 [OL (α := Int) b8 labels1, OL (α := Int) b9 in2, OL (α := Int) b10 drives3]), (b11, RL (α := Int) 3 line4), (b12, RL (α := Int) 3 (pre13 ++ order5)), (b6, RV 84 [.ref b7 0 3, OL (α := Int) b11 line4, OQ (α := Int) b12 pre13 order5]), (b109, RL (α := Int) 3 left110)] := Nd.pick nd (is := [0, 1, 2, 3, 4, 5, 6, 7]) (by decide)
          refine TK.drwX (h := []) (hS := [(b8, RL (α := Int) 3 labels1), (b9, RL (α := Int) 3 in2), (b10, RL (α := Int) 3 drives3), (b7, RV 118 [OL (α := Int) b8 labels1, OL (α := Int) b9 in2, OL (α := Int) b10 drives3]), (b11, RL (α := Int) 3 line4), (b12, RL (α := Int) 3 (pre13 ++ order5)), (b6, RV 84 [.ref b7 0 3, OL (α := Int) b11 line4, OQ (α := Int) b12 pre13 order5]), (b109, RL (α := Int) 3 left110)]) [(0, 0), (0, 1), (0, 2), (0, 3), (0, 4), (0, 5), (0, 6), (0, 7), (0, 8), (0, 9), (0, 10), (0, 11), (0, 12), (0, 13), (0, 14), (0, 15), (0, 16), (0, 17)] mixed (by kernel_rfl) (HSub_app nd) ?_
          refine DR0 (gc := true) rfl (vok_p (C := cx) (p_mv rfl)) rfl rfl ?_
          refine DR0 (gc := true) rfl (vok_p (C := cx) (p_ncR rfl (fun _ => refOK_of ndS (j := 6) rfl rfl))) rfl rfl ?_
          refine DR0 (gc := true) rfl (vok_p (C := cx) (p_faV fs84_1 (by decide) rfl ndS (j := 6) rfl rfl)) rfl rfl ?_
          refine DR0 (gc := true) rfl (vok_p (C := cx) (p_ldV (v := OL (α := Int) b11 line4) ty46 rfl rfl ndS (j := 6) rfl rfl rfl rfl rfl)) rfl rfl ?_
          refine DR0 (gc := true) rfl (vok_p (C := cx) (p_mv rfl)) rfl rfl ?_
          obtain ⟨e136, he136, hX⟩ := bind_some hX
          refine DR0 (gc := true) rfl (vok_p (C := cx) (p_iaO (xs := line4) kd46 ty3 rfl rfl rfl ndS (j := 4) rfl (fun _ => he136))) rfl rfl ?_
          refine DR0 (gc := true) rfl (vok_p (C := cx) (p_ldO (xs := line4) (a := e136) (e136 : Int) ty3 rfl rfl ndS (j := 4) rfl (fun _ => he136) rfl rfl rfl)) rfl rfl ?_
          refine DR0 (gc := true) rfl (vok_p (C := cx) (p_mv rfl)) rfl rfl ?_
          refine DR0 (gc := true) rfl (vok_p (C := cx) (p_ncR rfl (fun _ => refOK_of ndS (j := 6) rfl rfl))) rfl rfl ?_
          refine DR0 (gc := true) rfl (vok_p (C := cx) (p_faV fs84_0 (by decide) rfl ndS (j := 6) rfl rfl)) rfl rfl ?_
          refine DR0 (gc := true) rfl (vok_p (C := cx) (p_ldV (v := .ref b7 0 3) ty82 rfl rfl ndS (j := 6) rfl rfl rfl rfl rfl)) rfl rfl ?_
          refine DR0 (gc := true) rfl (vok_p (C := cx) (p_ncR rfl (fun _ => refOK_of ndS (j := 3) rfl rfl))) rfl rfl ?_
          refine DR0 (gc := true) rfl (vok_p (C := cx) (p_faV fs118_2 (by decide) rfl ndS (j := 3) rfl rfl)) rfl rfl ?_
          refine DR0 (gc := true) rfl (vok_p (C := cx) (p_ldV (v := OL (α := Int) b10 drives3) ty46 rfl rfl ndS (j := 3) rfl rfl rfl rfl rfl)) rfl rfl ?_
          refine DR0 (gc := true) rfl (vok_p (C := cx) (p_mv rfl)) rfl rfl ?_
          obtain ⟨e137, he137, hX⟩ := bind_some hX
          refine DR0 (gc := true) rfl (vok_p (C := cx) (p_iaO (xs := drives3) kd46 ty3 rfl rfl rfl ndS (j := 2) rfl (fun _ => he137))) rfl rfl ?_
          refine DR0 (gc := true) rfl (vok_p (C := cx) (p_ldO (xs := drives3) (a := e137) (e137 : Int) ty3 rfl rfl ndS (j := 2) rfl (fun _ => he137) rfl rfl rfl)) rfl rfl ?_
          refine DR0 (gc := true) rfl (vok_p (C := cx) (p_neq rfl rfl)) rfl rfl ?_
          refine DRend ?_
          refine hK135 _ _ ?_
          refine TK.cond (b := (e136 != e137)) rfl (fun hc => ?_) (fun hc => ?_)
          · have hX := ite_t hc hX
            refine TK.reg ?_
            refine TL.p (C := cx) (gc := true) (p_mv rfl) rfl rfl ?_
            refine TL.p (C := cx) (gc := true) (p_mv rfl) rfl rfl ?_
            refine TL.p (C := cx) (gc := true) (p_ncR rfl (fun _ => refOK_of nd (j := 6) rfl rfl)) rfl rfl ?_
            refine TL.p (C := cx) (gc := true) (p_faV fs84_1 (by decide) rfl nd (j := 6) rfl rfl) rfl rfl ?_
            refine TL.p (C := cx) (gc := true) (p_ldV (v := OL (α := Int) b11 line4) ty46 rfl rfl nd (j := 6) rfl rfl rfl rfl rfl) rfl rfl ?_
            refine TL.p (C := cx) (gc := true) (p_mv rfl) rfl rfl ?_
            obtain ⟨e138, he138, hX⟩ := bind_some hX
            refine TL.p (C := cx) (gc := true) (p_iaO (xs := line4) kd46 ty3 rfl rfl rfl nd (j := 4) rfl (fun _ => he138)) rfl rfl ?_
            refine TL.p (C := cx) (gc := true) (p_ldO (xs := line4) (a := e138) (e138 : Int) ty3 rfl rfl nd (j := 4) rfl (fun _ => he138) rfl rfl rfl) rfl rfl ?_
            refine TL.lit (C := cx) ([e138] : List Int) kd46 ty3 rfl ⟨⟨rfl, rfl⟩, trivial⟩ rfl rfl rfl ?_
            obtain ⟨u139, hu139, hX⟩ := bind_some hX
            refine TL.appO (C := cx) nd kd46 bo46 ty3 rfl rfl (j := 7) rfl rfl (Src_L _) (by decide) (need_t hu139) rfl fun nd => ?_
            refine TL.p (C := cx) (gc := true) (p_mv rfl) rfl rfl ?_
            refine TL.nil ?_
            exact J125 (left110 ++ ([e138] : List Int)) _ _ ⟨b109, rfl, (Nd.pick nd (is := [0, 1, 2, 3, 4, 5, 6, 7]) (by decide)), (HSub.pick nd (is := [0, 1, 2, 3, 4, 5, 6, 7]) (by decide))⟩ hX
          · have hX := ite_f hc hX
            refine TK.skip ?_
            exact J125 left110 _ _ ⟨b109, rfl, (Nd.pick nd (is := [0, 1, 2, 3, 4, 5, 6, 7]) (by decide)), (HSub.pick nd (is := [0, 1, 2, 3, 4, 5, 6, 7]) (by decide))⟩ hX
        · have hX := ite_f hc hX
          refine TK.exit ?_
          obtain rfl := hR101 _ (some_in hX).symm
          exact E101 left110 _ _ ⟨b109, rfl, (Nd.pick nd (is := [0, 1, 2, 3, 4, 5, 6, 7]) (by decide)), (HSub.pick nd (is := [0, 1, 2, 3, 4, 5, 6, 7]) (by decide))⟩ hA101
    · have hX := ite_f hc hX
      refine TK.exit ?_
      obtain rfl := hR21 _ (some_in hX).symm
      exact E21 _ _ ⟨(), rfl, (Nd.pick nd (is := [0, 1, 2, 3, 4, 5, 6]) (by decide)), (HSub.pick nd (is := [0, 1, 2, 3, 4, 5, 6]) (by decide))⟩ hA21

/-- cartridge/cartridgeref1.Cut -/
theorem ok_cartridgeref1_Cut (n1 : Int) (low2 : Int) (high3 : Int) (r : Int) (hX : X.cartridgeref1_Cut n1 low2 high3 = some r) : Fun Try.prog 90 [Enc.v (n1 : Int), Enc.v (low2 : Int), Enc.v (high3 : Int)] (· = Enc.v (r : Int)) := by
  refine Fun.of b90 (Nat.le_of_ble_eq_true rfl) (allVal.mem ⟨(by exact (v_val _)), (by exact (v_val _)), (by exact (v_val _)), trivial⟩) ?_
  unfold k90
  have nd : Nd [] := Nd_nil
  unfold X.cartridgeref1_Cut at hX
  refine TK.seq_k fun K4 hK4 => ?_
  refine TK.reg ?_
  refine TL.p (C := cx) (gc := true) (p_mv rfl) rfl rfl ?_
  refine TL.nil ?_
  refine hK4 _ _ ?_
  refine TK.seq_k fun K5 hK5 => ?_
  refine TK.block ?_
  refine TK.seq_k fun K6 hK6 => ?_
  refine TK.reg ?_
  refine TL.p (C := cx) (gc := true) (p_mv rfl) rfl rfl ?_
  refine TL.p (C := cx) (gc := true) (p_mv rfl) rfl rfl ?_
  refine TL.p (C := cx) (gc := true) (p_lss rfl rfl) rfl rfl ?_
  refine TL.p (C := cx) (gc := true) (p_mv rfl) rfl rfl ?_
  refine TL.nil ?_
  refine hK6 _ _ ?_
  refine TK.cond (b := (decide (n1 < low2))) rfl (fun hc => ?_) (fun hc => ?_)
  · have hX := ite_t hc hX
    refine TK.seq_k fun K7 hK7 => ?_
    refine TK.reg ?_
    refine TL.p (C := cx) (gc := true) (p_mv rfl) rfl rfl ?_
    refine TL.p (C := cx) (gc := true) (p_mv rfl) rfl rfl ?_
    refine TL.nil ?_
    refine hK7 _ _ ?_
    refine TK.ret ?_
    try dsimp only [thenQ]
    exact ret1 (v := Enc.v (low2 : Int)) rfl (by obtain rfl := some_in hX; rfl) (v_val _)
  · have hX := ite_f hc hX
    refine TK.seq_k fun K8 hK8 => ?_
    refine TK.reg ?_
    refine TL.p (C := cx) (gc := true) (p_mv rfl) rfl rfl ?_
    refine TL.p (C := cx) (gc := true) (p_mv rfl) rfl rfl ?_
    refine TL.p (C := cx) (gc := true) (p_gtr rfl rfl) rfl rfl ?_
    refine TL.p (C := cx) (gc := true) (p_mv rfl) rfl rfl ?_
    refine TL.nil ?_
    refine hK8 _ _ ?_
    refine TK.cond (b := (decide (n1 > high3))) rfl (fun hc => ?_) (fun hc => ?_)
    · have hX := ite_t hc hX
      refine TK.seq_k fun K9 hK9 => ?_
      refine TK.reg ?_
      refine TL.p (C := cx) (gc := true) (p_mv rfl) rfl rfl ?_
      refine TL.p (C := cx) (gc := true) (p_mv rfl) rfl rfl ?_
      refine TL.nil ?_
      refine hK9 _ _ ?_
      refine TK.ret ?_
      try dsimp only [thenQ]
      exact ret1 (v := Enc.v (high3 : Int)) rfl (by obtain rfl := some_in hX; rfl) (v_val _)
    · have hX := ite_f hc hX
      refine TK.skip ?_
      refine hK5 _ _ ?_
      refine TK.seq_k fun K10 hK10 => ?_
      refine TK.reg ?_
      refine TL.p (C := cx) (gc := true) (p_mv rfl) rfl rfl ?_
      refine TL.p (C := cx) (gc := true) (p_mv rfl) rfl rfl ?_
      refine TL.nil ?_
      refine hK10 _ _ ?_
      refine TK.ret ?_
      try dsimp only [thenQ]
      exact ret1 (v := Enc.v (n1 : Int)) rfl (by obtain rfl := some_in hX; rfl) (v_val _)

/-- (*cartridge/cartridgeref22.Robot).pick -/
theorem ok_cartridgeref22_Robot_pick (labels1 : (List Int)) (in2 : (List Int)) (drives3 : (List Int)) (line4 : (List Int)) (order5 : (List Int)) (r : Bool) (hX : X.cartridgeref22_Robot_pick labels1 in2 drives3 line4 order5 = some r) : Fun Try.prog 91 [.vref (ofL [.vref (ofL [Enc.v (labels1 : (List Int)), Enc.v (in2 : (List Int)), Enc.v (drives3 : (List Int))]) 3 0, Enc.v (line4 : (List Int)), Enc.v (order5 : (List Int))]) 3 0] (· = Enc.v (r : Bool)) := by
  refine Fun.of b91 (Nat.le_of_ble_eq_true rfl) (allVal.mem ⟨(by exact (vref_val (l := [.vref (ofL [Enc.v (labels1 : (List Int)), Enc.v (in2 : (List Int)), Enc.v (drives3 : (List Int))]) 3 0, Enc.v (line4 : (List Int)), Enc.v (order5 : (List Int))]) rfl ⟨(vref_val (l := [Enc.v (labels1 : (List Int)), Enc.v (in2 : (List Int)), Enc.v (drives3 : (List Int))]) rfl ⟨(v_val _), (v_val _), (v_val _), trivial⟩), (v_val _), (v_val _), trivial⟩)), trivial⟩) ?_
  unfold k91
  have nd : Nd [] := Nd_nil
  unfold X.cartridgeref22_Robot_pick at hX
  refine TK.seq_k fun K6 hK6 => ?_
  refine TK.reg ?_
  refine TL.p (C := cx) (gc := true) (p_mv rfl) rfl rfl ?_
  refine TL.nil ?_
  refine hK6 _ _ ?_
  refine TK.seq_k fun K7 hK7 => ?_
  refine TK.seq_k fun K8 hK8 => ?_
  refine TK.reg ?_
  refine TL.p (C := cx) (gc := true) (p_mv rfl) rfl rfl ?_
  refine TL.nil ?_
  refine hK8 _ _ ?_
  refine TK.block ?_
  obtain ⟨o9, hO9, hA9⟩ := bind_some hX
  have E9 : ∀ (env : Env) (h : Hp), (∃ _u : Unit, keepE [0] env = [(0, true, .vref (ofL [.vref (ofL [Enc.v (labels1 : (List Int)), Enc.v (in2 : (List Int)), Enc.v (drives3 : (List Int))]) 3 0, Enc.v (line4 : (List Int)), Enc.v (order5 : (List Int))]) 3 0)] ∧ Nd [] ∧ HSub [] h) → X.cartridgeref22_Robot_pick_e9 line4 = some r → K7 env h := by
    intro  env h hE hX
    obtain ⟨_u, henv, nd, hs⟩ := hE
    unfold X.cartridgeref22_Robot_pick_e9 at hX
    refine hK7 _ _ (TK.keep [0] ?_)
    rw [henv]
    refine TK.subH hs ?_
    refine TK.seq_k fun K11 hK11 => ?_
    refine TK.reg ?_
    refine TL.p (C := cx) (gc := true) (p_mv rfl) rfl rfl ?_
    refine TL.p (C := cx) (gc := true) (p_ncV rfl) rfl rfl ?_
    refine TL.p (C := cx) (gc := true) (p_faR fs84_1 (by decide) rfl) rfl rfl ?_
    refine TL.p (C := cx) (gc := true) (p_ldR (v := Enc.v (line4 : (List Int))) ty46 rfl rfl rfl rfl rfl rfl) rfl rfl ?_
    refine TL.p (C := cx) (gc := true) (p_lenL (xs := line4) kd46 rfl) rfl rfl ?_
    refine TL.p (C := cx) (gc := true) (p_gtr rfl rfl) rfl rfl ?_
    refine TL.p (C := cx) (gc := true) (p_mv rfl) rfl rfl ?_
    refine TL.nil ?_
    refine hK11 _ _ ?_
    refine TK.ret ?_
    try dsimp only [thenQ]
    exact ret1 (v := Enc.v ((decide ((line4.length : Int) > (0 : Int))) : Bool)) rfl (by obtain rfl := some_in hX; rfl) (v_val _)
  refine TK.iter [0, 3] (fun s env h => match s with | d10 => ∃ _u : Unit, env = [(0, true, .vref (ofL [.vref (ofL [Enc.v (labels1 : (List Int)), Enc.v (in2 : (List Int)), Enc.v (drives3 : (List Int))]) 3 0, Enc.v (line4 : (List Int)), Enc.v (order5 : (List Int))]) 3 0), (3, true, Enc.v (d10 : Int))] ∧ Nd [] ∧ HSub [] h) hO9 ⟨(), rfl, Nd_nil, HSub.refl _⟩ ?_
  rintro d10 env h x9x ⟨_u, rfl, nd, hs⟩ hX hR9
  refine TK.subH hs ?_
  unfold X.cartridgeref22_Robot_pick_s9 at hX
  try dsimp only at hX
  refine TK.seq_k fun K12 hK12 => ?_
  refine TK.seq_k fun K13 hK13 => ?_
  refine TK.reg ?_
  refine TL.p (C := cx) (gc := true) (p_mv rfl) rfl rfl ?_
  refine TL.p (C := cx) (gc := true) (p_mv rfl) rfl rfl ?_
  refine TL.p (C := cx) (gc := true) (p_ncV rfl) rfl rfl ?_
  refine TL.p (C := cx) (gc := true) (p_faR fs84_0 (by decide) rfl) rfl rfl ?_
  refine TL.p (C := cx) (gc := true) (p_ldR (v := .vref (ofL [Enc.v (labels1 : (List Int)), Enc.v (in2 : (List Int)), Enc.v (drives3 : (List Int))]) 3 0) ty82 rfl rfl rfl rfl rfl rfl) rfl rfl ?_
  refine TL.p (C := cx) (gc := true) (p_ncV rfl) rfl rfl ?_
  refine TL.p (C := cx) (gc := true) (p_faR fs118_2 (by decide) rfl) rfl rfl ?_
  refine TL.p (C := cx) (gc := true) (p_ldR (v := Enc.v (drives3 : (List Int))) ty46 rfl rfl rfl rfl rfl rfl) rfl rfl ?_
  refine TL.p (C := cx) (gc := true) (p_lenL (xs := drives3) kd46 rfl) rfl rfl ?_
  refine TL.p (C := cx) (gc := true) (p_lss rfl rfl) rfl rfl ?_
  refine TL.nil ?_
  refine hK13 _ _ ?_
  refine TK.cond (b := (decide (d10 < (drives3.length : Int)))) rfl (fun hc => ?_) (fun hc => ?_)
  · have hX := ite_t hc hX
    refine TK.skip ?_
    refine hK12 _ _ ?_
    refine TK.seq_k fun K14 hK14 => ?_
    refine TK.block ?_
    refine TK.seq_k fun K15 hK15 => ?_
    refine TK.reg ?_
    refine TL.p (C := cx) (gc := true) (p_mv rfl) rfl rfl ?_
    refine TL.p (C := cx) (gc := true) (p_ncV rfl) rfl rfl ?_
    refine TL.p (C := cx) (gc := true) (p_faR fs84_0 (by decide) rfl) rfl rfl ?_
    refine TL.p (C := cx) (gc := true) (p_ldR (v := .vref (ofL [Enc.v (labels1 : (List Int)), Enc.v (in2 : (List Int)), Enc.v (drives3 : (List Int))]) 3 0) ty82 rfl rfl rfl rfl rfl rfl) rfl rfl ?_
    refine TL.p (C := cx) (gc := true) (p_ncV rfl) rfl rfl ?_
    refine TL.p (C := cx) (gc := true) (p_faR fs118_2 (by decide) rfl) rfl rfl ?_
    refine TL.p (C := cx) (gc := true) (p_ldR (v := Enc.v (drives3 : (List Int))) ty46 rfl rfl rfl rfl rfl rfl) rfl rfl ?_
    refine TL.p (C := cx) (gc := true) (p_mv rfl) rfl rfl ?_
    obtain ⟨e16, he16, hX⟩ := bind_some hX
    refine TL.p (C := cx) (gc := true) (p_iaL (xs := drives3) kd46 ty3 rfl rfl rfl (fun _ => he16)) rfl rfl ?_
    refine TL.p (C := cx) (gc := true) (p_ldE (xs := drives3) (a := e16) (e16 : Int) ty3 rfl rfl (fun _ => he16) rfl rfl rfl) rfl rfl ?_
    refine TL.p (C := cx) (gc := true) (p_neq rfl rfl) rfl rfl ?_
    refine TL.p (C := cx) (gc := true) (p_mv rfl) rfl rfl ?_
    refine TL.p (C := cx) (gc := ((e16 != (0 : Int)))) (p_mv rfl (hg := fun e => rfl)) (gcT1 rfl) rfl ?_
    refine TL.p (C := cx) (gc := ((e16 != (0 : Int)))) (p_mv rfl (hg := fun e => rfl)) (gcT1 rfl) rfl ?_
    refine TL.p (C := cx) (gc := ((e16 != (0 : Int)))) (p_ncV rfl (hg := fun e => e)) (gcT1 rfl) rfl ?_
    refine TL.p (C := cx) (gc := ((e16 != (0 : Int)))) (p_faR fs84_0 (by decide) rfl (hg := fun e => e)) (gcT1 rfl) rfl ?_
    refine TL.p (C := cx) (gc := ((e16 != (0 : Int)))) (p_ldR (v := .vref (ofL [Enc.v (labels1 : (List Int)), Enc.v (in2 : (List Int)), Enc.v (drives3 : (List Int))]) 3 0) ty82 rfl rfl rfl rfl rfl rfl (hg := fun e => e)) (gcT1 rfl) rfl ?_
    refine TL.p (C := cx) (gc := ((e16 != (0 : Int)))) (p_ncV rfl (hg := fun e => e)) (gcT1 rfl) rfl ?_
    refine TL.p (C := cx) (gc := ((e16 != (0 : Int)))) (p_faR fs118_2 (by decide) rfl (hg := fun e => e)) (gcT1 rfl) rfl ?_
    refine TL.p (C := cx) (gc := ((e16 != (0 : Int)))) (p_ldR (v := Enc.v (drives3 : (List Int))) ty46 rfl rfl rfl rfl rfl rfl (hg := fun e => e)) (gcT1 rfl) rfl ?_
    refine TL.p (C := cx) (gc := ((e16 != (0 : Int)))) (p_mv rfl (hg := fun e => rfl)) (gcT1 rfl) rfl ?_
    obtain ⟨e17, he17, hX⟩ := bind_some hX
    refine TL.p (C := cx) (gc := ((e16 != (0 : Int)))) (p_iaL (xs := drives3) kd46 ty3 rfl rfl rfl (fun e => optG_t he17 e) (hg := fun e => ⟨e, e⟩)) (gcT1 rfl) rfl ?_
    refine TL.p (C := cx) (gc := ((e16 != (0 : Int)))) (p_ldE (xs := drives3) (a := e17) (e17 : Int) ty3 rfl rfl (fun e => optG_t he17 e) rfl rfl rfl (hg := fun e => e)) (gcT1 rfl) rfl ?_
    obtain ⟨r18, hr18, hX⟩ := bind_some hX
    refine TL.cvX (gcT1 rfl) rfl rfl (fun e => ⟨rfl, ⟨e, ⟨e, trivial⟩⟩⟩) (fun e => ok_cartridgeref22_Robot_wants labels1 in2 drives3 line4 order5 e17 _ (optG_t hr18 e)) ?_
    refine TL.p (C := cx) (gc := true) (p_and rfl rfl (fun e => ⟨rfl, fun h => h⟩)) rfl rfl ?_
    refine TL.nil ?_
    refine hK15 _ _ ?_
    refine TK.cond (b := ((e16 != (0 : Int)) && r18)) rfl (fun hc => ?_) (fun hc => ?_)
    · have hX := ite_t hc hX
      refine TK.seq_k fun K19 hK19 => ?_
      refine TK.reg ?_
      refine TL.p (C := cx) (gc := true) (p_mv rfl) rfl rfl ?_
      refine TL.nil ?_
      refine hK19 _ _ ?_
      refine TK.ret ?_
      obtain rfl := hR9 _ (some_in hX).symm
      replace hX := hA9
      try dsimp only [thenQ]
      exact ret1 (v := Enc.v (false : Bool)) rfl (by obtain rfl := some_in hX; rfl) (v_val _)
    · have hX := ite_f hc hX
      refine TK.skip ?_
      refine hK14 _ _ ?_
      refine TK.reg ?_
      refine TL.p (C := cx) (gc := true) (p_mv rfl) rfl rfl ?_
      refine TL.p (C := cx) (gc := true) (p_add rfl rfl) rfl rfl ?_
      refine TL.p (C := cx) (gc := true) (p_mv rfl) rfl rfl ?_
      refine TL.nil ?_
      exact ⟨_, (some_in hX).symm, (), rfl, Nd_nil, HSub.refl _⟩
  · have hX := ite_f hc hX
    refine TK.exit ?_
    obtain rfl := hR9 _ (some_in hX).symm
    exact E9 _ _ ⟨(), rfl, Nd_nil, HSub.refl _⟩ hA9

/-- (*cartridge/cartridgeref22.Robot).Serve -/
theorem ok_cartridgeref22_Robot_Serve (labels14 : (List Int)) (fails15 : Int) (labels1 : (List Int)) (in2 : (List Int)) (drives3 : (List Int)) (line4 : (List Int)) (order5 : (List Int)) (b6 : Nat) (b7 : Nat) (b8 : Nat) (b9 : Nat) (b10 : Nat) (b11 : Nat) (b12 : Nat) (pre13 : List Int) (nd : Nd [(b6, RV 84 [.ref b7 0 3, OL (α := Int) b11 line4, OQ (α := Int) b12 pre13 order5]), (b7, RV 118 [OL (α := Int) b8 labels1, OL (α := Int) b9 in2, OL (α := Int) b10 drives3]), (b8, RL (α := Int) 3 labels1), (b9, RL (α := Int) 3 in2), (b10, RL (α := Int) 3 drives3), (b11, RL (α := Int) 3 line4), (b12, RL (α := Int) 3 (pre13 ++ order5))]) (r : (Int × Int × ((List Int) × (List Int) × (List Int) × (List Int) × (List Int)))) (hX : X.cartridgeref22_Robot_Serve labels14 fails15 labels1 in2 drives3 line4 order5 = some r) : TCX Try.prog 50 [.ref b6 0 3, Enc.v (labels14 : (List Int)), Enc.v (fails15 : Int)] [(b6, RV 84 [.ref b7 0 3, OL (α := Int) b11 line4, OQ (α := Int) b12 pre13 order5]), (b7, RV 118 [OL (α := Int) b8 labels1, OL (α := Int) b9 in2, OL (α := Int) b10 drives3]), (b8, RL (α := Int) 3 labels1), (b9, RL (α := Int) 3 in2), (b10, RL (α := Int) 3 drives3), (b11, RL (α := Int) 3 line4), (b12, RL (α := Int) 3 (pre13 ++ order5))] (fun rv h' => ∃ b107 b108 b109 b110 b111 b112 pre113, rv = .tup 2 (ofL [Enc.v (r.1 : Int), Enc.v (r.2.1 : Int)]) ∧ h' = [(b6, RV 84 [.ref b107 0 3, OL (α := Int) b111 r.2.2.2.2.2.1, OQ (α := Int) b112 pre113 r.2.2.2.2.2.2]), (b107, RV 118 [OL (α := Int) b108 r.2.2.1, OL (α := Int) b109 r.2.2.2.1, OL (α := Int) b110 r.2.2.2.2.1]), (b108, RL (α := Int) 3 r.2.2.1), (b109, RL (α := Int) 3 r.2.2.2.1), (b110, RL (α := Int) 3 r.2.2.2.2.1), (b111, RL (α := Int) 3 r.2.2.2.2.2.1), (b112, RL (α := Int) 3 (pre113 ++ r.2.2.2.2.2.2))]) := by
  refine TCX.of b50 (Nat.le_of_ble_eq_true rfl) ?_
  unfold k50
  unfold X.cartridgeref22_Robot_Serve at hX
  refine TK.seq_k fun K16 hK16 => ?_
  refine TK.reg ?_
  refine TL.p (C := cx) (gc := true) (p_mv rfl) rfl rfl ?_
  refine TL.p (C := cx) (gc := true) (p_mv rfl) rfl rfl ?_
  refine TL.nil ?_
  refine hK16 _ _ ?_
  refine TK.seq_k fun K17 hK17 => ?_
  refine TK.seq_k fun K18 hK18 => ?_
  refine TK.reg ?_
  refine TL.p (C := cx) (gc := true) (p_mv rfl) rfl rfl ?_
  refine TL.nil ?_
  refine hK18 _ _ ?_
  refine TK.block ?_
  obtain ⟨o19, hO19, hA19⟩ := bind_some hX
  have E19 : ∀ (env : Env) (h : Hp), (∃ _u : Unit, keepE [0, 1, 2] env = [(0, true, .ref b6 0 3), (1, true, Enc.v (labels14 : (List Int))), (2, true, Enc.v (fails15 : Int))] ∧ Nd [(b8, RL (α := Int) 3 labels1), (b9, RL (α := Int) 3 in2), (b10, RL (α := Int) 3 drives3), (b7, RV 118 [OL (α := Int) b8 labels1, OL (α := Int) b9 in2, OL (α := Int) b10 drives3]), (b11, RL (α := Int) 3 line4), (b12, RL (α := Int) 3 (pre13 ++ order5)), (b6, RV 84 [.ref b7 0 3, OL (α := Int) b11 line4, OQ (α := Int) b12 pre13 order5])] ∧ HSub [(b8, RL (α := Int) 3 labels1), (b9, RL (α := Int) 3 in2), (b10, RL (α := Int) 3 drives3), (b7, RV 118 [OL (α := Int) b8 labels1, OL (α := Int) b9 in2, OL (α := Int) b10 drives3]), (b11, RL (α := Int) 3 line4), (b12, RL (α := Int) 3 (pre13 ++ order5)), (b6, RV 84 [.ref b7 0 3, OL (α := Int) b11 line4, OQ (α := Int) b12 pre13 order5])] h) → X.cartridgeref22_Robot_Serve_e19 line4 labels14 fails15 labels1 in2 drives3 order5 = some r → K17 env h := by
    intro  env h hE hX
    obtain ⟨_u, henv, nd, hs⟩ := hE
    unfold X.cartridgeref22_Robot_Serve_e19 at hX
    refine hK17 _ _ (TK.keep [0, 1, 2] ?_)
    rw [henv]
    refine TK.subH hs ?_
    refine TK.seq_k fun K35 hK35 => ?_
    refine TK.reg ?_
    refine TL.p (C := cx) (gc := true) (p_mv rfl) rfl rfl ?_
    refine TL.p (C := cx) (gc := true) (p_mv rfl) rfl rfl ?_
    refine TL.p (C := cx) (gc := true) (p_ncR rfl (fun _ => refOK_of nd (j := 6) rfl rfl)) rfl rfl ?_
    refine TL.p (C := cx) (gc := true) (p_faV fs84_1 (by decide) rfl nd (j := 6) rfl rfl) rfl rfl ?_
    refine TL.p (C := cx) (gc := true) (p_ldV (v := OL (α := Int) b11 line4) ty46 rfl rfl nd (j := 6) rfl rfl rfl rfl rfl) rfl rfl ?_
    refine TL.p (C := cx) (gc := true) (p_mv rfl) rfl rfl ?_
    obtain ⟨u36, hu36, hX⟩ := bind_some hX
    refine TL.appO (C := cx) nd kd46 bo46 ty3 rfl rfl (j := 4) rfl rfl (Src_L _) (by decide) (need_t hu36) rfl fun nd => ?_
    refine TL.p (C := cx) (gc := true) (p_ncR rfl (fun _ => refOK_of nd (j := 6) rfl rfl)) rfl rfl ?_
    refine TL.p (C := cx) (gc := true) (p_faV fs84_1 (by decide) rfl nd (j := 6) rfl rfl) rfl rfl ?_
    refine TL.stV (C := cx) (lu := [OL (α := Int) b11 (line4 ++ labels14)]) nd ty46 rfl (j := 6) rfl rfl rfl (Cells_rs (refOK_of nd (j := 4) rfl rfl)) rfl rfl [.ref b7 0 3, OL (α := Int) b11 (line4 ++ labels14), OQ (α := Int) b12 pre13 order5] rfl fun nd => ?_
    refine TL.nil ?_
    refine hK35 _ _ ?_
    refine TK.seq_k fun K37 hK37 => ?_
    refine TK.reg ?_
    refine TL.p (C := cx) (gc := true) (p_mv rfl) rfl rfl ?_
    obtain ⟨r38, hr38, hX⟩ := bind_some hX
    refine TL.cvX rfl rfl rfl (fun _ => ⟨rfl, ⟨rfl, ⟨rfl, ⟨rfl, trivial⟩⟩⟩⟩) (fun e => ok_cartridgeref1_Cut fails15 (0 : Int) (1000 : Int) _ hr38) ?_
    refine TL.p (C := cx) (gc := true) (p_mv rfl) rfl rfl ?_
    refine TL.nil ?_
    refine hK37 _ _ ?_
    refine TK.seq_k fun K39 hK39 => ?_
    refine TK.reg ?_
    refine TL.p (C := cx) (gc := true) (p_mv rfl) rfl rfl ?_
    refine TL.nil ?_
    refine hK39 _ _ ?_
    refine TK.seq_k fun K40 hK40 => ?_
    refine TK.block ?_
    obtain ⟨o41, hO41, hA41⟩ := bind_some hX
    have E41 : ∀ (l60 : List Int) (l62 : List Int) (l64 : List Int) (l66 : List Int) (l69 : List Int) (n70 : Int) (env : Env) (h : Hp), (∃ b59 b61 b63 b58 b65 b67 pre68, keepE [0, 9] env = [(0, true, .ref b6 0 3), (9, true, Enc.v (n70 : Int))] ∧ Nd [(b59, RL (α := Int) 3 l60), (b61, RL (α := Int) 3 l62), (b63, RL (α := Int) 3 l64), (b58, RV 118 [OL (α := Int) b59 l60, OL (α := Int) b61 l62, OL (α := Int) b63 l64]), (b65, RL (α := Int) 3 l66), (b67, RL (α := Int) 3 (pre68 ++ l69)), (b6, RV 84 [.ref b58 0 3, OL (α := Int) b65 l66, OQ (α := Int) b67 pre68 l69])] ∧ HSub [(b59, RL (α := Int) 3 l60), (b61, RL (α := Int) 3 l62), (b63, RL (α := Int) 3 l64), (b58, RV 118 [OL (α := Int) b59 l60, OL (α := Int) b61 l62, OL (α := Int) b63 l64]), (b65, RL (α := Int) 3 l66), (b67, RL (α := Int) 3 (pre68 ++ l69)), (b6, RV 84 [.ref b58 0 3, OL (α := Int) b65 l66, OQ (α := Int) b67 pre68 l69])] h) → X.cartridgeref22_Robot_Serve_e41 l60 l62 l64 l66 l69 n70 = some r → K40 env h := by
      intro l60 l62 l64 l66 l69 n70 env h hE hX
      obtain ⟨b59, b61, b63, b58, b65, b67, pre68, henv, nd, hs⟩ := hE
      unfold X.cartridgeref22_Robot_Serve_e41 at hX
      refine hK40 _ _ (TK.keep [0, 9] ?_)
      rw [henv]
      refine TK.subH hs ?_
      refine TK.seq_k fun K71 hK71 => ?_
      refine TK.reg ?_
      refine TL.p (C := cx) (gc := true) (p_mv rfl) rfl rfl ?_
      refine TL.p (C := cx) (gc := true) (p_mv rfl) rfl rfl ?_
      refine TL.p (C := cx) (gc := true) (p_mv rfl) rfl rfl ?_
      refine TL.nil ?_
      refine hK71 _ _ ?_
      refine TK.pick [6, 3, 0, 1, 2, 4, 5] nd (by decide) fun nd => ?_
      refine TK.ret ?_
      try dsimp only [thenQ]
      exact retX (v := .tup 2 (ofL [Enc.v (n70 : Int), Enc.v ((0 : Int) : Int)])) (resN (vs := [Enc.v (n70 : Int), Enc.v ((0 : Int) : Int)]) ⟨rfl, rfl, trivial⟩) (by obtain rfl := some_in hX; exact ⟨b58, b59, b61, b63, b65, b67, pre68, rfl, rfl⟩) nd (inH_tup (l := [Enc.v (n70 : Int), Enc.v ((0 : Int) : Int)]) ⟨inH_val (v_val _), inH_val (v_val _), trivial⟩) ⟨rowIn_RV ⟨inH_ref nd (j := 1) rfl, inH_rs nd (j := 5) rfl, inH_rs nd (j := 6) rfl, trivial⟩, rowIn_RV ⟨inH_rs nd (j := 2) rfl, inH_rs nd (j := 3) rfl, inH_rs nd (j := 4) rfl, trivial⟩, rowIn_RL, rowIn_RL, rowIn_RL, rowIn_RL, rowIn_RL, trivial⟩
    refine TK.iter [0, 2, 9] (fun s env h => match s with | (l45, l47, l49, l51, l54, fails55, n56) => ∃ b44 b46 b48 b43 b50 b52 pre53, env = [(0, true, .ref b6 0 3), (2, true, Enc.v (fails55 : Int)), (9, true, Enc.v (n56 : Int))] ∧ Nd [(b44, RL (α := Int) 3 l45), (b46, RL (α := Int) 3 l47), (b48, RL (α := Int) 3 l49), (b43, RV 118 [OL (α := Int) b44 l45, OL (α := Int) b46 l47, OL (α := Int) b48 l49]), (b50, RL (α := Int) 3 l51), (b52, RL (α := Int) 3 (pre53 ++ l54)), (b6, RV 84 [.ref b43 0 3, OL (α := Int) b50 l51, OQ (α := Int) b52 pre53 l54])] ∧ HSub [(b44, RL (α := Int) 3 l45), (b46, RL (α := Int) 3 l47), (b48, RL (α := Int) 3 l49), (b43, RV 118 [OL (α := Int) b44 l45, OL (α := Int) b46 l47, OL (α := Int) b48 l49]), (b50, RL (α := Int) 3 l51), (b52, RL (α := Int) 3 (pre53 ++ l54)), (b6, RV 84 [.ref b43 0 3, OL (α := Int) b50 l51, OQ (α := Int) b52 pre53 l54])] h) hO41 ⟨b8, b9, b10, b7, b11, b12, pre13, rfl, (Nd.pick nd (is := [0, 1, 2, 3, 4, 5, 6]) (by decide)), (HSub.pick nd (is := [0, 1, 2, 3, 4, 5, 6]) (by decide))⟩ ?_
    rintro ⟨l45, l47, l49, l51, l54, fails55, n56⟩ env h x41x ⟨b44, b46, b48, b43, b50, b52, pre53, rfl, nd, hs⟩ hX hR41
    refine TK.subH hs ?_
    unfold X.cartridgeref22_Robot_Serve_s41 at hX
    try dsimp only at hX
    refine TK.seq_k fun K72 hK72 => ?_
    refine TK.seq_k fun K73 hK73 => ?_
    refine TK.reg ?_
    refine TL.p (C := cx) (gc := true) (p_mv rfl) rfl rfl ?_
    refine TL.p (C := cx) (gc := true) (p_ncR rfl (fun _ => refOK_of nd (j := 6) rfl rfl)) rfl rfl ?_
    refine TL.p (C := cx) (gc := true) (p_faV fs84_1 (by decide) rfl nd (j := 6) rfl rfl) rfl rfl ?_
    refine TL.p (C := cx) (gc := true) (p_ldV (v := OL (α := Int) b50 l51) ty46 rfl rfl nd (j := 6) rfl rfl rfl rfl rfl) rfl rfl ?_
    refine TL.p (C := cx) (gc := true) (p_lenR kd46 rfl (fun _ => refOK_of nd (j := 4) rfl rfl)) rfl rfl ?_
    refine TL.p (C := cx) (gc := true) (p_gtr rfl rfl) rfl rfl ?_
    refine TL.nil ?_
    refine hK73 _ _ ?_
    refine TK.cond (b := (decide ((l51.length : Int) > (0 : Int)))) rfl (fun hc => ?_) (fun hc => ?_)
    · have hX := ite_t hc hX
      refine TK.skip ?_
      refine hK72 _ _ ?_
      refine TK.block ?_
      refine TK.seq_k fun K74 hK74 => ?_
      refine TK.reg ?_
      refine TL.p (C := cx) (gc := true) (p_mv rfl) rfl rfl ?_
      refine TL.nil ?_
      refine hK74 _ _ ?_
      refine TK.seq_k fun K75 hK75 => ?_
      have J75 : ∀ (fails84 : Int) (fail85 : Bool) (env : Env) (h : Hp), (∃ b78 b79 b80 b77 b81 b82 pre83, keepE [0, 2, 9, 10] env = [(0, true, .ref b6 0 3), (2, true, Enc.v (fails84 : Int)), (9, true, Enc.v (n56 : Int)), (10, true, Enc.v (fail85 : Bool))] ∧ Nd [(b78, RL (α := Int) 3 l45), (b79, RL (α := Int) 3 l47), (b80, RL (α := Int) 3 l49), (b77, RV 118 [OL (α := Int) b78 l45, OL (α := Int) b79 l47, OL (α := Int) b80 l49]), (b81, RL (α := Int) 3 l51), (b82, RL (α := Int) 3 (pre83 ++ l54)), (b6, RV 84 [.ref b77 0 3, OL (α := Int) b81 l51, OQ (α := Int) b82 pre83 l54])] ∧ HSub [(b78, RL (α := Int) 3 l45), (b79, RL (α := Int) 3 l47), (b80, RL (α := Int) 3 l49), (b77, RV 118 [OL (α := Int) b78 l45, OL (α := Int) b79 l47, OL (α := Int) b80 l49]), (b81, RL (α := Int) 3 l51), (b82, RL (α := Int) 3 (pre83 ++ l54)), (b6, RV 84 [.ref b77 0 3, OL (α := Int) b81 l51, OQ (α := Int) b82 pre83 l54])] h) → X.cartridgeref22_Robot_Serve_j75 l45 l47 l49 l51 l54 n56 fails84 fail85 = some x41x → K75 env h := by
        intro fails84 fail85 env h hE hX
        obtain ⟨b78, b79, b80, b77, b81, b82, pre83, henv, nd, hs⟩ := hE
        unfold X.cartridgeref22_Robot_Serve_j75 at hX
        refine hK75 _ _ (TK.keep [0, 2, 9, 10] ?_)
        rw [henv]
        refine TK.subH hs ?_
        refine TK.seq_k fun K86 hK86 => ?_
        refine TK.reg ?_
        refine TL.p (C := cx) (gc := true) (p_mv rfl) rfl rfl ?_
        refine TL.p (C := cx) (gc := true) (p_mv rfl) rfl rfl ?_
        obtain ⟨r87, hr87, hX⟩ := bind_some hX
        refine TL.pick [6, 3, 0, 1, 2, 4, 5] nd (by decide) fun nd => ?_
        refine TL.tcX [(b6, RV 84 [.ref b77 0 3, OL (α := Int) b81 l51, OQ (α := Int) b82 pre83 l54]), (b77, RV 118 [OL (α := Int) b78 l45, OL (α := Int) b79 l47, OL (α := Int) b80 l49]), (b78, RL (α := Int) 3 l45), (b79, RL (α := Int) 3 l47), (b80, RL (α := Int) 3 l49), (b81, RL (α := Int) 3 l51), (b82, RL (α := Int) 3 (pre83 ++ l54))] [] rfl nd (dlt rfl) rfl ⟨rfl, ⟨rfl, ⟨rfl, trivial⟩⟩⟩ (ok_cartridgeref22_Robot_Step fail85 l45 l47 l49 l51 l54 b6 b77 b78 b79 b80 b81 b82 pre83 (Nd.take nd 7 rfl) _ hr87) ?_
        rintro _ _ hQ nd
        obtain ⟨b89, b90, b91, b92, b93, b94, pre95, rfl, rfl⟩ := hQ
        refine TL.nil ?_
        refine hK86 _ _ ?_
        refine TK.reg ?_
        refine TL.p (C := cx) (gc := true) (p_mv rfl) rfl rfl ?_
        refine TL.p (C := cx) (gc := true) (p_add rfl rfl) rfl rfl ?_
        refine TL.p (C := cx) (gc := true) (p_mv rfl) rfl rfl ?_
        refine TL.nil ?_
        exact ⟨_, (some_in hX).symm, b90, b91, b92, b89, b93, b94, pre95, rfl, (Nd.pick nd (is := [2, 3, 4, 1, 5, 6, 0]) (by decide)), (HSub.pick nd (is := [2, 3, 4, 1, 5, 6, 0]) (by decide))⟩
      refine TK.seq_k fun K96 hK96 => ?_
      refine TK.reg ?_
      refine TL.p (C := cx) (gc := true) (p_mv rfl) rfl rfl ?_
      obtain ⟨r97, hr97, hX⟩ := bind_some hX
      refine TL.lookX [.vref (ofL [.vref (ofL [Enc.v (l45 : (List Int)), Enc.v (l47 : (List Int)), Enc.v (l49 : (List Int))]) 3 0, Enc.v (l51 : (List Int)), Enc.v (l54 : (List Int))]) 3 0] rfl rfl rfl (fun _ => ⟨rfl, ⟨rfl, trivial⟩⟩) ⟨look_ref (l := [.ref b43 0 3, OL (α := Int) b50 l51, OQ (α := Int) b52 pre53 l54]) nd (j := 6) rfl ⟨look_ref (l := [OL (α := Int) b44 l45, OL (α := Int) b46 l47, OL (α := Int) b48 l49]) nd (j := 3) rfl ⟨look_OL nd (j := 0) rfl, look_OL nd (j := 1) rfl, look_OL nd (j := 2) rfl, trivial⟩, look_OL nd (j := 4) rfl, look_OQ nd (j := 5) rfl, trivial⟩, trivial⟩ (fun e => ok_cartridgeref22_Robot_pick l45 l47 l49 l51 l54 _ hr97) (trivial) ?_
      refine TL.p (C := cx) (gc := true) (p_mv rfl) rfl rfl ?_
      refine TL.p (C := cx) (gc := r97) (p_mv rfl (hg := fun e => rfl)) (gcT1 rfl) rfl ?_
      refine TL.p (C := cx) (gc := r97) (p_gtr rfl rfl (hg := fun e => ⟨e, rfl⟩)) (gcT1 rfl) rfl ?_
      refine TL.p (C := cx) (gc := true) (p_and rfl rfl (fun e => ⟨rfl, fun h => h⟩)) rfl rfl ?_
      refine TL.nil ?_
      refine hK96 _ _ ?_
      refine TK.cond (b := (r97 && (decide (fails55 > (0 : Int))))) rfl (fun hc => ?_) (fun hc => ?_)
      · have hX := ite_t hc hX
        refine TK.seq_k fun K98 hK98 => ?_
        refine TK.reg ?_
        refine TL.p (C := cx) (gc := true) (p_mv rfl) rfl rfl ?_
        refine TL.nil ?_
        refine hK98 _ _ ?_
        refine TK.reg ?_
        refine TL.p (C := cx) (gc := true) (p_mv rfl) rfl rfl ?_
        refine TL.p (C := cx) (gc := true) (p_sub rfl rfl) rfl rfl ?_
        refine TL.p (C := cx) (gc := true) (p_mv rfl) rfl rfl ?_
        refine TL.nil ?_
        exact J75 (wr (fails55 - (1 : Int))) true _ _ ⟨b44, b46, b48, b43, b50, b52, pre53, rfl, (Nd.pick nd (is := [0, 1, 2, 3, 4, 5, 6]) (by decide)), (HSub.pick nd (is := [0, 1, 2, 3, 4, 5, 6]) (by decide))⟩ hX
      · have hX := ite_f hc hX
        refine TK.skip ?_
        exact J75 fails55 false _ _ ⟨b44, b46, b48, b43, b50, b52, pre53, rfl, (Nd.pick nd (is := [0, 1, 2, 3, 4, 5, 6]) (by decide)), (HSub.pick nd (is := [0, 1, 2, 3, 4, 5, 6]) (by decide))⟩ hX
    · have hX := ite_f hc hX
      refine TK.exit ?_
      obtain rfl := hR41 _ (some_in hX).symm
      exact E41 l45 l47 l49 l51 l54 n56 _ _ ⟨b44, b46, b48, b43, b50, b52, pre53, rfl, (Nd.pick nd (is := [0, 1, 2, 3, 4, 5, 6]) (by decide)), (HSub.pick nd (is := [0, 1, 2, 3, 4, 5, 6]) (by decide))⟩ hA41
  refine TK.iter [0, 1, 2, 8] (fun s env h => match s with | i27 => ∃ _u : Unit, env = [(0, true, .ref b6 0 3), (1, true, Enc.v (labels14 : (List Int))), (2, true, Enc.v (fails15 : Int)), (8, true, Enc.v (i27 : Int))] ∧ Nd [(b8, RL (α := Int) 3 labels1), (b9, RL (α := Int) 3 in2), (b10, RL (α := Int) 3 drives3), (b7, RV 118 [OL (α := Int) b8 labels1, OL (α := Int) b9 in2, OL (α := Int) b10 drives3]), (b11, RL (α := Int) 3 line4), (b12, RL (α := Int) 3 (pre13 ++ order5)), (b6, RV 84 [.ref b7 0 3, OL (α := Int) b11 line4, OQ (α := Int) b12 pre13 order5])] ∧ HSub [(b8, RL (α := Int) 3 labels1), (b9, RL (α := Int) 3 in2), (b10, RL (α := Int) 3 drives3), (b7, RV 118 [OL (α := Int) b8 labels1, OL (α := Int) b9 in2, OL (α := Int) b10 drives3]), (b11, RL (α := Int) 3 line4), (b12, RL (α := Int) 3 (pre13 ++ order5)), (b6, RV 84 [.ref b7 0 3, OL (α := Int) b11 line4, OQ (α := Int) b12 pre13 order5])] h) hO19 ⟨(), rfl, (Nd.pick nd (is := [2, 3, 4, 1, 5, 6, 0]) (by decide)), (HSub.pick nd (is := [2, 3, 4, 1, 5, 6, 0]) (by decide))⟩ ?_
  rintro i27 env h x19x ⟨_u, rfl, nd, hs⟩ hX hR19
  refine TK.subH hs ?_
  unfold X.cartridgeref22_Robot_Serve_s19 at hX
  try dsimp only at hX
  refine TK.seq_k fun K99 hK99 => ?_
  refine TK.seq_k fun K100 hK100 => ?_
  refine TK.reg ?_
  refine TL.p (C := cx) (gc := true) (p_mv rfl) rfl rfl ?_
  refine TL.p (C := cx) (gc := true) (p_mv rfl) rfl rfl ?_
  refine TL.p (C := cx) (gc := true) (p_lenL (xs := labels14) kd46 rfl) rfl rfl ?_
  refine TL.p (C := cx) (gc := true) (p_lss rfl rfl) rfl rfl ?_
  refine TL.nil ?_
  refine hK100 _ _ ?_
  refine TK.cond (b := (decide (i27 < (labels14.length : Int)))) rfl (fun hc => ?_) (fun hc => ?_)
  · have hX := ite_t hc hX
    refine TK.skip ?_
    refine hK99 _ _ ?_
    refine TK.seq_k fun K101 hK101 => ?_
    refine TK.block ?_
    refine TK.seq_k fun K102 hK102 => ?_
    have ndS : Nd [(b8, RL (α := Int) 3 labels1), (b9, RL (α := Int) 3 in2), (b10, RL (α := Int) 3 drives3), (b7, RV 118 [OL (α := Int) b8 labels1, OL (α := Int) b9 in2, OL (α := Int) b10 drives3]), (b11, RL (α := Int) 3 line4), (b12, RL (α := Int) 3 (pre13 ++ order5)), (b6, RV 84 [.ref b7 0 3, OL (α := Int) b11 line4, OQ (α := Int) b12 pre13 order5])] := Nd.pick nd (is := [0, 1, 2, 3, 4, 5, 6]) (by decide)
    refine TK.drwX (h := []) (hS := [(b8, RL (α := Int) 3 labels1), (b9, RL (α := Int) 3 in2), (b10, RL (α := Int) 3 drives3), (b7, RV 118 [OL (α := Int) b8 labels1, OL (α := Int) b9 in2, OL (α := Int) b10 drives3]), (b11, RL (α := Int) 3 line4), (b12, RL (α := Int) 3 (pre13 ++ order5)), (b6, RV 84 [.ref b7 0 3, OL (α := Int) b11 line4, OQ (α := Int) b12 pre13 order5])]) [(0, 0), (0, 1), (0, 2), (0, 3), (0, 4), (0, 5), (0, 6), (0, 7), (0, 8), (0, 9)] mixed (by kernel_rfl) (HSub_app nd) ?_
    refine DR0 (gc := true) rfl (vok_p (C := cx) (p_mv rfl)) rfl rfl ?_
    refine DR0 (gc := true) rfl (vok_p (C := cx) (p_ncR rfl (fun _ => refOK_of ndS (j := 6) rfl rfl))) rfl rfl ?_
    refine DR0 (gc := true) rfl (vok_p (C := cx) (p_faV fs84_0 (by decide) rfl ndS (j := 6) rfl rfl)) rfl rfl ?_
    refine DR0 (gc := true) rfl (vok_p (C := cx) (p_ldV (v := .ref b7 0 3) ty82 rfl rfl ndS (j := 6) rfl rfl rfl rfl rfl)) rfl rfl ?_
    refine DR0 (gc := true) rfl (vok_p (C := cx) (p_mv rfl)) rfl rfl ?_
    refine DR0 (gc := true) rfl (vok_p (C := cx) (p_mv rfl)) rfl rfl ?_
    obtain ⟨e103, he103, hX⟩ := bind_some hX
    refine DR0 (gc := true) rfl (vok_p (C := cx) (p_iaL (xs := labels14) kd46 ty3 rfl rfl rfl (fun _ => he103))) rfl rfl ?_
    refine DR0 (gc := true) rfl (vok_p (C := cx) (p_ldE (xs := labels14) (a := e103) (e103 : Int) ty3 rfl rfl (fun _ => he103) rfl rfl rfl)) rfl rfl ?_
    obtain ⟨r104, hr104, hX⟩ := bind_some hX
    refine DR0 (gc := true) rfl (vok_lookX [.vref (ofL [Enc.v (labels1 : (List Int)), Enc.v (in2 : (List Int)), Enc.v (drives3 : (List Int))]) 3 0, Enc.v (e103 : Int)] rfl (fun _ => ⟨rfl, ⟨rfl, ⟨rfl, trivial⟩⟩⟩) ⟨look_ref (l := [OL (α := Int) b8 labels1, OL (α := Int) b9 in2, OL (α := Int) b10 drives3]) ndS (j := 3) rfl ⟨look_OL ndS (j := 0) rfl, look_OL ndS (j := 1) rfl, look_OL ndS (j := 2) rfl, trivial⟩, look_v (v := Enc.v (e103 : Int)) (v_val _), trivial⟩ (fun e => ok_cartridgeref22_Shelf_find labels1 in2 drives3 e103 _ hr104) (trivial)) rfl rfl ?_
    refine DR0 (gc := true) rfl (vok_p (C := cx) (p_lss rfl rfl)) rfl rfl ?_
    refine DRend ?_
    refine hK102 _ _ ?_
    refine TK.cond (b := (decide (r104 < (0 : Int)))) rfl (fun hc => ?_) (fun hc => ?_)
    · have hX := ite_t hc hX
      refine TK.seq_k fun K105 hK105 => ?_
      refine TK.reg ?_
      refine TL.p (C := cx) (gc := true) (p_mv rfl) rfl rfl ?_
      refine TL.p (C := cx) (gc := true) (p_mv rfl) rfl rfl ?_
      refine TL.nil ?_
      refine hK105 _ _ ?_
      refine TK.pick [6, 3, 0, 1, 2, 4, 5] nd (by decide) fun nd => ?_
      refine TK.ret ?_
      obtain rfl := hR19 _ (some_in hX).symm
      replace hX := hA19
      try dsimp only [thenQ]
      exact retX (v := .tup 2 (ofL [Enc.v ((0 : Int) : Int), Enc.v ((1 : Int) : Int)])) (resN (vs := [Enc.v ((0 : Int) : Int), Enc.v ((1 : Int) : Int)]) ⟨rfl, rfl, trivial⟩) (by obtain rfl := some_in hX; exact ⟨b7, b8, b9, b10, b11, b12, pre13, rfl, rfl⟩) nd (inH_tup (l := [Enc.v ((0 : Int) : Int), Enc.v ((1 : Int) : Int)]) ⟨inH_val (v_val _), inH_val (v_val _), trivial⟩) ⟨rowIn_RV ⟨inH_ref nd (j := 1) rfl, inH_rs nd (j := 5) rfl, inH_rs nd (j := 6) rfl, trivial⟩, rowIn_RV ⟨inH_rs nd (j := 2) rfl, inH_rs nd (j := 3) rfl, inH_rs nd (j := 4) rfl, trivial⟩, rowIn_RL, rowIn_RL, rowIn_RL, rowIn_RL, rowIn_RL, trivial⟩
    · have hX := ite_f hc hX
      refine TK.skip ?_
      refine hK101 _ _ ?_
      refine TK.reg ?_
      refine TL.p (C := cx) (gc := true) (p_mv rfl) rfl rfl ?_
      refine TL.p (C := cx) (gc := true) (p_add rfl rfl) rfl rfl ?_
      refine TL.p (C := cx) (gc := true) (p_mv rfl) rfl rfl ?_
      refine TL.nil ?_
      exact ⟨_, (some_in hX).symm, (), rfl, (Nd.pick nd (is := [0, 1, 2, 3, 4, 5, 6]) (by decide)), (HSub.pick nd (is := [0, 1, 2, 3, 4, 5, 6]) (by decide))⟩
  · have hX := ite_f hc hX
    refine TK.exit ?_
    obtain rfl := hR19 _ (some_in hX).symm
    exact E19 _ _ ⟨(), rfl, (Nd.pick nd (is := [0, 1, 2, 3, 4, 5, 6]) (by decide)), (HSub.pick nd (is := [0, 1, 2, 3, 4, 5, 6]) (by decide))⟩ hA19

/-- (*cartridge/cartridgeref22.Robot).Waiting -/
theorem ok_cartridgeref22_Robot_Waiting (labels1 : (List Int)) (in2 : (List Int)) (drives3 : (List Int)) (line4 : (List Int)) (order5 : (List Int)) (r : Int) (hX : X.cartridgeref22_Robot_Waiting labels1 in2 drives3 line4 order5 = some r) : Fun Try.prog 51 [.vref (ofL [.vref (ofL [Enc.v (labels1 : (List Int)), Enc.v (in2 : (List Int)), Enc.v (drives3 : (List Int))]) 3 0, Enc.v (line4 : (List Int)), Enc.v (order5 : (List Int))]) 3 0] (· = Enc.v (r : Int)) := by
  refine Fun.of b51 (Nat.le_of_ble_eq_true rfl) (allVal.mem ⟨(by exact (vref_val (l := [.vref (ofL [Enc.v (labels1 : (List Int)), Enc.v (in2 : (List Int)), Enc.v (drives3 : (List Int))]) 3 0, Enc.v (line4 : (List Int)), Enc.v (order5 : (List Int))]) rfl ⟨(vref_val (l := [Enc.v (labels1 : (List Int)), Enc.v (in2 : (List Int)), Enc.v (drives3 : (List Int))]) rfl ⟨(v_val _), (v_val _), (v_val _), trivial⟩), (v_val _), (v_val _), trivial⟩)), trivial⟩) ?_
  unfold k51
  have nd : Nd [] := Nd_nil
  unfold X.cartridgeref22_Robot_Waiting at hX
  refine TK.seq_k fun K6 hK6 => ?_
  refine TK.reg ?_
  refine TL.p (C := cx) (gc := true) (p_mv rfl) rfl rfl ?_
  refine TL.nil ?_
  refine hK6 _ _ ?_
  refine TK.seq_k fun K7 hK7 => ?_
  refine TK.reg ?_
  refine TL.p (C := cx) (gc := true) (p_mv rfl) rfl rfl ?_
  refine TL.p (C := cx) (gc := true) (p_ncV rfl) rfl rfl ?_
  refine TL.p (C := cx) (gc := true) (p_faR fs84_1 (by decide) rfl) rfl rfl ?_
  refine TL.p (C := cx) (gc := true) (p_ldR (v := Enc.v (line4 : (List Int))) ty46 rfl rfl rfl rfl rfl rfl) rfl rfl ?_
  refine TL.p (C := cx) (gc := true) (p_lenL (xs := line4) kd46 rfl) rfl rfl ?_
  refine TL.p (C := cx) (gc := true) (p_mv rfl) rfl rfl ?_
  refine TL.nil ?_
  refine hK7 _ _ ?_
  refine TK.ret ?_
  try dsimp only [thenQ]
  exact ret1 (v := Enc.v ((line4.length : Int) : Int)) rfl (by obtain rfl := some_in hX; rfl) (v_val _)

/-- (*cartridge/cartridgeref22.Shelf).Mounted -/
theorem ok_cartridgeref22_Shelf_Mounted (labels1 : (List Int)) (in2 : (List Int)) (drives3 : (List Int)) (d4 : Int) (r : Int) (hX : X.cartridgeref22_Shelf_Mounted labels1 in2 drives3 d4 = some r) : Fun Try.prog 53 [.vref (ofL [Enc.v (labels1 : (List Int)), Enc.v (in2 : (List Int)), Enc.v (drives3 : (List Int))]) 3 0, Enc.v (d4 : Int)] (· = Enc.v (r : Int)) := by
  refine Fun.of b53 (Nat.le_of_ble_eq_true rfl) (allVal.mem ⟨(by exact (vref_val (l := [Enc.v (labels1 : (List Int)), Enc.v (in2 : (List Int)), Enc.v (drives3 : (List Int))]) rfl ⟨(v_val _), (v_val _), (v_val _), trivial⟩)), (by exact (v_val _)), trivial⟩) ?_
  unfold k53
  have nd : Nd [] := Nd_nil
  unfold X.cartridgeref22_Shelf_Mounted at hX
  refine TK.seq_k fun K5 hK5 => ?_
  refine TK.reg ?_
  refine TL.p (C := cx) (gc := true) (p_mv rfl) rfl rfl ?_
  refine TL.nil ?_
  refine hK5 _ _ ?_
  refine TK.seq_k fun K6 hK6 => ?_
  refine TK.seq_k fun K7 hK7 => ?_
  refine TK.reg ?_
  refine TL.p (C := cx) (gc := true) (p_mv rfl) rfl rfl ?_
  refine TL.p (C := cx) (gc := true) (p_lss rfl rfl) rfl rfl ?_
  refine TL.p (C := cx) (gc := true) (p_mv rfl) rfl rfl ?_
  refine TL.p (C := cx) (gc := (!((decide (d4 < (0 : Int)))))) (p_mv rfl (hg := fun e => rfl)) (gcF1 rfl) rfl ?_
  refine TL.p (C := cx) (gc := (!((decide (d4 < (0 : Int)))))) (p_mv rfl (hg := fun e => rfl)) (gcF1 rfl) rfl ?_
  refine TL.p (C := cx) (gc := (!((decide (d4 < (0 : Int)))))) (p_ncV rfl (hg := fun e => e)) (gcF1 rfl) rfl ?_
  refine TL.p (C := cx) (gc := (!((decide (d4 < (0 : Int)))))) (p_faR fs118_2 (by decide) rfl (hg := fun e => e)) (gcF1 rfl) rfl ?_
  refine TL.p (C := cx) (gc := (!((decide (d4 < (0 : Int)))))) (p_ldR (v := Enc.v (drives3 : (List Int))) ty46 rfl rfl rfl rfl rfl rfl (hg := fun e => e)) (gcF1 rfl) rfl ?_
  refine TL.p (C := cx) (gc := (!((decide (d4 < (0 : Int)))))) (p_lenL (xs := drives3) kd46 rfl (hg := fun e => e)) (gcF1 rfl) rfl ?_
  refine TL.p (C := cx) (gc := (!((decide (d4 < (0 : Int)))))) (p_geq rfl rfl (hg := fun e => ⟨e, e⟩)) (gcF1 rfl) rfl ?_
  refine TL.p (C := cx) (gc := true) (p_or rfl rfl (fun e => ⟨rfl, fun h => (not_t h)⟩)) rfl rfl ?_
  refine TL.nil ?_
  refine hK7 _ _ ?_
  refine TK.cond (b := ((decide (d4 < (0 : Int))) || (decide (d4 ≥ (drives3.length : Int))))) rfl (fun hc => ?_) (fun hc => ?_)
  · have hX := ite_t hc hX
    refine TK.seq_k fun K8 hK8 => ?_
    refine TK.reg ?_
    refine TL.p (C := cx) (gc := true) (p_mv rfl) rfl rfl ?_
    refine TL.nil ?_
    refine hK8 _ _ ?_
    refine TK.ret ?_
    try dsimp only [thenQ]
    exact ret1 (v := Enc.v ((0 : Int) : Int)) rfl (by obtain rfl := some_in hX; rfl) (v_val _)
  · have hX := ite_f hc hX
    refine TK.skip ?_
    refine hK6 _ _ ?_
    refine TK.seq_k fun K9 hK9 => ?_
    refine TK.reg ?_
    refine TL.p (C := cx) (gc := true) (p_mv rfl) rfl rfl ?_
    refine TL.p (C := cx) (gc := true) (p_ncV rfl) rfl rfl ?_
    refine TL.p (C := cx) (gc := true) (p_faR fs118_2 (by decide) rfl) rfl rfl ?_
    refine TL.p (C := cx) (gc := true) (p_ldR (v := Enc.v (drives3 : (List Int))) ty46 rfl rfl rfl rfl rfl rfl) rfl rfl ?_
    refine TL.p (C := cx) (gc := true) (p_mv rfl) rfl rfl ?_
    obtain ⟨e10, he10, hX⟩ := bind_some hX
    refine TL.p (C := cx) (gc := true) (p_iaL (xs := drives3) kd46 ty3 rfl rfl rfl (fun _ => he10)) rfl rfl ?_
    refine TL.p (C := cx) (gc := true) (p_ldE (xs := drives3) (a := e10) (e10 : Int) ty3 rfl rfl (fun _ => he10) rfl rfl rfl) rfl rfl ?_
    refine TL.p (C := cx) (gc := true) (p_mv rfl) rfl rfl ?_
    refine TL.nil ?_
    refine hK9 _ _ ?_
    refine TK.ret ?_
    try dsimp only [thenQ]
    exact ret1 (v := Enc.v (e10 : Int)) rfl (by obtain rfl := some_in hX; rfl) (v_val _)

/-- (*cartridge/robot.Robot).Ask -/
theorem ok_robot_Robot_Ask (label13 : Int) (labels1 : (List Int)) (drives2 : (List Int)) (drives3 : Int) (labels4 : (List Int)) (l5 : (List Int)) (order6 : (List Int)) (b7 : Nat) (b8 : Nat) (b9 : Nat) (b10 : Nat) (b11 : Nat) (pre12 : List Int) (nd : Nd [(b7, RV 109 [.ref b8 0 2, Enc.v (drives3 : Int), Enc.v (labels4 : (List Int)), OL (α := Int) b10 l5, OQ (α := Int) b11 pre12 order6]), (b8, RV 127 [Enc.v (labels1 : (List Int)), OL (α := Int) b9 drives2]), (b9, RL (α := Int) 3 drives2), (b10, RL (α := Int) 3 l5), (b11, RL (α := Int) 3 (pre12 ++ order6))]) (r : (Int × ((List Int) × (List Int) × Int × (List Int) × (List Int) × (List Int)))) (hX : X.robot_Robot_Ask label13 labels1 drives2 drives3 labels4 l5 order6 = some r) : TCX Try.prog 46 [.ref b7 0 5, Enc.v (label13 : Int)] [(b7, RV 109 [.ref b8 0 2, Enc.v (drives3 : Int), Enc.v (labels4 : (List Int)), OL (α := Int) b10 l5, OQ (α := Int) b11 pre12 order6]), (b8, RV 127 [Enc.v (labels1 : (List Int)), OL (α := Int) b9 drives2]), (b9, RL (α := Int) 3 drives2), (b10, RL (α := Int) 3 l5), (b11, RL (α := Int) 3 (pre12 ++ order6))] (fun rv h' => ∃ b29 b30 b31 b32 pre33, rv = Enc.v (r.1 : Int) ∧ h' = [(b7, RV 109 [.ref b29 0 2, Enc.v (r.2.2.2.1 : Int), Enc.v (r.2.2.2.2.1 : (List Int)), OL (α := Int) b31 r.2.2.2.2.2.1, OQ (α := Int) b32 pre33 r.2.2.2.2.2.2]), (b29, RV 127 [Enc.v (r.2.1 : (List Int)), OL (α := Int) b30 r.2.2.1]), (b30, RL (α := Int) 3 r.2.2.1), (b31, RL (α := Int) 3 r.2.2.2.2.2.1), (b32, RL (α := Int) 3 (pre33 ++ r.2.2.2.2.2.2))]) := by
  refine TCX.of b46 (Nat.le_of_ble_eq_true rfl) ?_
  unfold k46
  unfold X.robot_Robot_Ask at hX
  refine TK.seq_k fun K14 hK14 => ?_
  refine TK.reg ?_
  refine TL.p (C := cx) (gc := true) (p_mv rfl) rfl rfl ?_
  refine TL.nil ?_
  refine hK14 _ _ ?_
  refine TK.seq_k fun K15 hK15 => ?_
  refine TK.seq_k fun K16 hK16 => ?_
  refine TK.reg ?_
  refine TL.p (C := cx) (gc := true) (p_mv rfl) rfl rfl ?_
  refine TL.p (C := cx) (gc := true) (p_mv rfl) rfl rfl ?_
  obtain ⟨r17, hr17, hX⟩ := bind_some hX
  refine TL.lookX [.vref (ofL [.vref (ofL [Enc.v (labels1 : (List Int)), Enc.v (drives2 : (List Int))]) 2 0, Enc.v (drives3 : Int), Enc.v (labels4 : (List Int)), Enc.v (l5 : (List Int)), Enc.v (order6 : (List Int))]) 5 0, Enc.v (label13 : Int)] rfl rfl rfl (fun _ => ⟨rfl, ⟨rfl, ⟨rfl, trivial⟩⟩⟩) ⟨look_ref (l := [.ref b8 0 2, Enc.v (drives3 : Int), Enc.v (labels4 : (List Int)), OL (α := Int) b10 l5, OQ (α := Int) b11 pre12 order6]) nd (j := 0) rfl ⟨look_ref (l := [Enc.v (labels1 : (List Int)), OL (α := Int) b9 drives2]) nd (j := 1) rfl ⟨look_v (v := Enc.v (labels1 : (List Int))) (v_val _), look_OL nd (j := 2) rfl, trivial⟩, look_v (v := Enc.v (drives3 : Int)) (v_val _), look_v (v := Enc.v (labels4 : (List Int))) (v_val _), look_OL nd (j := 3) rfl, look_OQ nd (j := 4) rfl, trivial⟩, look_v (v := Enc.v (label13 : Int)) (v_val _), trivial⟩ (fun e => ok_robot_Robot_is labels1 drives2 drives3 labels4 l5 order6 label13 _ hr17) (trivial) ?_
  refine TL.p (C := cx) (gc := true) (p_not rfl) rfl rfl ?_
  refine TL.nil ?_
  refine hK16 _ _ ?_
  refine TK.cond (b := (!r17)) rfl (fun hc => ?_) (fun hc => ?_)
  · have hX := ite_t hc hX
    refine TK.seq_k fun K18 hK18 => ?_
    refine TK.reg ?_
    refine TL.p (C := cx) (gc := true) (p_mv rfl) rfl rfl ?_
    refine TL.nil ?_
    refine hK18 _ _ ?_
    refine TK.ret ?_
    try dsimp only [thenQ]
    exact retX (v := Enc.v ((1 : Int) : Int)) (res1 rfl) (by obtain rfl := some_in hX; exact ⟨b8, b9, b10, b11, pre12, rfl, rfl⟩) nd (inH_val (v_val _)) ⟨rowIn_RV ⟨inH_ref nd (j := 1) rfl, inH_val (v_val _), inH_val (v_val _), inH_rs nd (j := 3) rfl, inH_rs nd (j := 4) rfl, trivial⟩, rowIn_RV ⟨inH_val (v_val _), inH_rs nd (j := 2) rfl, trivial⟩, rowIn_RL, rowIn_RL, rowIn_RL, trivial⟩
  · have hX := ite_f hc hX
    refine TK.skip ?_
    refine hK15 _ _ ?_
    refine TK.seq_k fun K19 hK19 => ?_
    refine TK.reg ?_
    refine TL.p (C := cx) (gc := true) (p_mv rfl) rfl rfl ?_
    refine TL.p (C := cx) (gc := true) (p_ncR rfl (fun _ => refOK_of nd (j := 0) rfl rfl)) rfl rfl ?_
    refine TL.p (C := cx) (gc := true) (p_faV fs109_3 (by decide) rfl nd (j := 0) rfl rfl) rfl rfl ?_
    refine TL.p (C := cx) (gc := true) (p_mv rfl) rfl rfl ?_
    obtain ⟨r20, hr20, hX⟩ := bind_some hX
    refine TL.tcX [(b7, RV 109 [.ref b8 0 2, Enc.v (drives3 : Int), Enc.v (labels4 : (List Int)), OL (α := Int) b10 l5, OQ (α := Int) b11 pre12 order6]), (b8, RV 127 [Enc.v (labels1 : (List Int)), OL (α := Int) b9 drives2]), (b9, RL (α := Int) 3 drives2), (b10, RL (α := Int) 3 l5), (b11, RL (α := Int) 3 (pre12 ++ order6))] [] rfl nd (dlt rfl) rfl ⟨rfl, ⟨rfl, ⟨rfl, trivial⟩⟩⟩ (ok_mount_Line_Add_in_Robot_robot label13 labels1 drives2 drives3 labels4 l5 order6 b7 b8 b9 b10 b11 pre12 (Nd.take nd 5 rfl) _ hr20) ?_
    rintro _ _ hQ nd
    obtain ⟨b22, b23, b24, b25, pre26, rfl, rfl⟩ := hQ
    refine TL.nil ?_
    refine hK19 _ _ ?_
    refine TK.seq_k fun K27 hK27 => ?_
    refine TK.reg ?_
    refine TL.p (C := cx) (gc := true) (p_mv rfl) rfl rfl ?_
    refine TL.nil ?_
    refine hK27 _ _ ?_
    refine TK.ret ?_
    try dsimp only [thenQ]
    exact retX (v := Enc.v ((0 : Int) : Int)) (res1 rfl) (by obtain rfl := some_in hX; exact ⟨b22, b23, b24, b25, pre26, rfl, rfl⟩) nd (inH_val (v_val _)) ⟨rowIn_RV ⟨inH_ref nd (j := 1) rfl, inH_val (v_val _), inH_val (v_val _), inH_rs nd (j := 3) rfl, inH_rs nd (j := 4) rfl, trivial⟩, rowIn_RV ⟨inH_val (v_val _), inH_rs nd (j := 2) rfl, trivial⟩, rowIn_RL, rowIn_RL, rowIn_RL, trivial⟩

end Go.Proofs.Ytgkbjnhpmlfgdaa
