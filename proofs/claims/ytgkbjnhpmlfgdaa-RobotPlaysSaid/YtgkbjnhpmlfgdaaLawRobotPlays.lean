/- For every input the law RobotPlays of the program returns true, and each argument reads behind the call as it read before it: the given statement, with no condition of our own. -/
import Derived.Test.YtgkbjnhpmlfgdaaRows
import Derived.Test.YtgkbjnhpmlfgdaaXL
import Derived.Test.YtgkbjnhpmlfgdaaXP2
import Derived.Test.YtgkbjnhpmlfgdaaPuRobotPlays
import Derived.WalkKit
import Derived.ProofKit
import Derived.OpenShut
import Derived.ShutString
import Derived.ChangeOld
import Derived.Below
import Derived.SizedLaws
namespace Go.Proofs.Ytgkbjnhpmlfgdaa.robotPlays
open Go.ChangeShapes Go.WideShapes Go.ChangeAt Go.RowKit Go.AM Go.AX
open Go.ChangeMaps (open_string shut_string)
set_option linter.unusedVariables false
theorem own : ownKnob Try.prog.godebug = none := by kernel_rfl
theorem laidOut : laidOutB Try.prog = true := by kernel_rfl
theorem opx76 : OpX Try.prog 76 Act_law24 (fun x => (fun (n : Int) => -9223372036854775808 ≤ n ∧ n ≤ 9223372036854775807) x.Way ∧ (fun (n : Int) => -9223372036854775808 ≤ n ∧ n ≤ 9223372036854775807) x.N ∧ (fun _ => True) x.Fail ∧ (fun (xs : (List Int)) => xs.length ≤ reachBytes ∧ ∀ y ∈ xs, (fun (n : Int) => -9223372036854775808 ≤ n ∧ n ≤ 9223372036854775807) y) x.Labels ∧ True) := by
  have hF : OpensF Try.prog [⟨"Way", 3, 0, false, "", "", 0⟩, ⟨"N", 3, 1, false, "", "", 8⟩, ⟨"Fail", 4, 2, false, "", "", 16⟩, ⟨"Labels", 46, 3, false, "", "", 24⟩] 0 (1 + (1 + (1 + (1 + 0)))) _ _ := (OpensF.cons (s := 1) (sz := (1 + (1 + (1 + 0)))) (f := ⟨"Way", 3, 0, false, "", "", 0⟩) rfl (by kernel_rfl) (OpX.int Try.underlying3) (OpensF.cons (s := 1) (sz := (1 + (1 + 0))) (f := ⟨"N", 3, 1, false, "", "", 8⟩) rfl (by kernel_rfl) (OpX.int Try.underlying3) (OpensF.cons (s := 1) (sz := (1 + 0)) (f := ⟨"Fail", 4, 2, false, "", "", 16⟩) rfl (by kernel_rfl) (OpX.bool Try.underlying4) (OpensF.cons (s := 1) (sz := 0) (f := ⟨"Labels", 46, 3, false, "", "", 24⟩) rfl (by kernel_rfl) (OpX.slice Try.underlying46 (by kernel_rfl) (Nat.le_of_ble_eq_true (by kernel_rfl)) (OpX.int Try.underlying3)) OpensF.nil))))
  intro H
  exact Opens.map (sz := (1 + (1 + (1 + (1 + 0))))) (Opens.struct (sz := (1 + (1 + (1 + (1 + 0))))) Try.underlying76 (by kernel_rfl) hF) (enc' := fun (x : Act_law24) => ec x) (ok' := (fun (x : Act_law24) => (fun (n : Int) => -9223372036854775808 ≤ n ∧ n ≤ 9223372036854775807) x.Way ∧ (fun (n : Int) => -9223372036854775808 ≤ n ∧ n ≤ 9223372036854775807) x.N ∧ (fun _ => True) x.Fail ∧ (fun (xs : (List Int)) => xs.length ≤ reachBytes ∧ ∀ y ∈ xs, (fun (n : Int) => -9223372036854775808 ≤ n ∧ n ≤ 9223372036854775807) y) x.Labels ∧ True)) (fun p => ⟨p.1, p.2.1, p.2.2.1, p.2.2.2.1⟩) (fun v d hd => by
    obtain rfl | rfl | rfl | rfl : d = 0 ∨ d = 1 ∨ d = 2 ∨ d = 3 := by omega
    all_goals rfl) (fun v h => h)
set_option maxRecDepth 100000 in
theorem lifted (os : Os) (started : os.Started) (H : Type) (enc : TypeId × Value → H) :
    ReturnsInHanded {} Try.checked os 11 .any (Rows.robotPlaysSpec.pre6 enc Try.prog Try.f11 Rows.robotPlaysRow.domain false) (Rows.robotPlaysSpec.post enc Try.prog Try.f11 false true false false) := by
  refine returnsInHanded_of_change_sized (C := Try.checked) own started (by kernel_rfl) Try.func11
    (ChangeSpec.witness6 (enc := enc) (C := Try.checked) false ⟨#[], #[.slice none 0 0, .int .i64 0, .slice none 0 0], []⟩ 8 (by kernel_rfl) (by kernel_rfl) (by kernel_rfl) (by kernel_rfl)) ?_
  intro W base args ds gs before hval0 hW hcnd hsz0 _
  have hsz := hsz0
  have hval : ∀ (j : Nat) t v, Try.f11.params[j]? = some t → args[j]? = some v → Value.okWide Try.prog W .any base t v := hval0
  have hW' := hW
  obtain ⟨p, q, hA0, hV, rfl, hfz, hnd⟩ := hW
  have hA : DataW.TrodAll enc Try.prog W 0 (fun _ => true) true Try.f11.params.toList args.toList ds p := hA0
  rw [Try.params11] at hA hval hsz
  obtain ⟨v0, vs0, d0, ds0, p0, q0, hargs, rfl, rfl, h0, r0⟩ := trodAll_cons hA
  obtain ⟨v1, vs1, d1, ds1, p1, q1, rfl, rfl, rfl, h1, r1⟩ := trodAll_cons r0
  obtain ⟨v2, vs2, d2, ds2, p2, q2, rfl, rfl, rfl, h2, r2⟩ := trodAll_cons r1
  obtain ⟨rfl, rfl, rfl⟩ := trodAll_nil r2
  obtain rfl : args = #[v0, v1, v2] := by cases args; simp_all
  obtain ⟨rfl, rfl⟩ := trodVars_none hV
  have hsz1 : ∀ n, n ∈ d0.weights Try.prog 46 ++ d1.weights Try.prog 3 ++ d2.weights Try.prog 71 → n ≤ reachBytes := fun n hn => by
    have h0 : (DataW.weightsEach Try.prog _ _).all _ = true := hsz
    have h1 := List.all_eq_true.1 h0 n (by simpa [DataW.weightsEach] using hn)
    exact of_decide_eq_true h1
  obtain ⟨a0, len0, cap0, e0⟩ := okWide_slice Try.underlying46 (hval 0 46 v0 rfl rfl)
  have lt0 : ∀ x ∈ p0, x.block < W.heap.size := by obtain ⟨m, hm⟩ := h0; exact DataW.trod_lt m _ _ _ hm
  obtain ⟨x0, k0, z0⟩ := OpX.one (OpX.slice Try.underlying46 (by kernel_rfl) (Nat.le_of_ble_eq_true (by kernel_rfl)) (OpX.int Try.underlying3)) rfl (by rw [e0]; rfl) h0 (fun n hn => hsz1 n (by simp [hn]))
  obtain ⟨n1, e1⟩ := okWide_int Try.underlying3 (hval 1 3 v1 rfl rfl)
  have lt1 : ∀ x ∈ p1, x.block < W.heap.size := by obtain ⟨m, hm⟩ := h1; exact DataW.trod_lt m _ _ _ hm
  obtain ⟨x1, k1, z1⟩ := OpX.one (OpX.int Try.underlying3) rfl (by rw [e1]; rfl) h1 (fun n hn => hsz1 n (by simp [hn]))
  obtain ⟨a2, len2, cap2, e2⟩ := okWide_slice Try.underlying71 (hval 2 71 v2 rfl rfl)
  have lt2 : ∀ x ∈ p2, x.block < W.heap.size := by obtain ⟨m, hm⟩ := h2; exact DataW.trod_lt m _ _ _ hm
  obtain ⟨x2, k2, z2⟩ := OpX.one (OpX.slice Try.underlying71 (by kernel_rfl) (Nat.le_of_ble_eq_true (by kernel_rfl)) opx76) rfl (by rw [e2]; rfl) h2 (fun n hn => hsz1 n (by simp [hn]))
  clear hA0 hval0
  have plain : X.cartridgelaw24_RobotPlays x0 x1 x2 = some true := by first | exact rplays x0 x1 x2 | exact rplays x0 x1 x2 k0 k1 k2
  refine ((ok_cartridgelaw24_RobotPlays x0 x1 x2 true plain).calls flat0 W _ (muok0 W) rfl ?_).mono ?_
  · intro i hi
    match i, hi with
    | 0, _ => exact z0
    | 1, _ => exact z1
    | 2, _ => exact z2
    | n + 3, hi => exact absurd hi (by simp)
  · rintro e W' ⟨c, r, rfl, rfl, _, hc, bel⟩
    obtain rfl : c = .bool true := hc
    exact ⟨_, rfl, _, _, _, [], _, [], hW', trodAll_mk1 (shut_bool Try.underlying4 _), (trodAll_cons_mk (Below.trod laidOut (by kernel_rfl) (of_decide_eq_true (by kernel_rfl)) h0 bel lt0) (trodAll_cons_mk (Below.trod laidOut (by kernel_rfl) (of_decide_eq_true (by kernel_rfl)) h1 bel lt1) (trodAll_cons_mk (Below.trod laidOut (by kernel_rfl) (of_decide_eq_true (by kernel_rfl)) h2 bel lt2) trodAll_mk0))), rfl, bel.frame _, fun h => by cases h⟩
theorem over : Rows.robotPlaysRow.holds Try.pinned (OpenSpec.ofChange Rows.robotPlaysSpec) :=
  OpenClaim.holds_of_wide 11 Try.f11 rfl rfl rfl rfl rfl rfl rfl ⟨rfl, rfl, rfl, rfl, rfl⟩ rfl rfl rfl rfl rfl (by kernel_rfl) Try.func11 (by kernel_rfl)
    (of_decide_eq_true (by kernel_rfl)) (by unfold Func.isWrapper; first | (rw [if_pos (by decide +kernel)]; kernel_rfl) | (rw [if_neg (by decide +kernel)]; exact ⟨rfl, rfl⟩))
    (fun os started H enc _ => lifted os started H enc)
theorem proved : Rows.RobotPlaysSaid := over
#print axioms proved
end Go.Proofs.Ytgkbjnhpmlfgdaa.robotPlays
namespace Go.Proofs.Ytgkbjnhpmlfgdaa
/-- The row, under a short name, for the claim. -/
theorem robotPlays_holds : Rows.RobotPlaysSaid := robotPlays.proved
end Go.Proofs.Ytgkbjnhpmlfgdaa
