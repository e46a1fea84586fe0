/- For every input the law RecordSeals of the program returns true, and each argument reads behind the call as it read before it: the given statement, with no condition of our own. -/
import Derived.Test.YtpipaggkbiapjaaDoorRows
import Derived.Test.YtpipaggkbiapjaaDoorLibC
import Derived.Test.YtpipaggkbiapjaaDoorXP1
import Derived.Test.YtpipaggkbiapjaaDoorPuRecordSeals
import Derived.LaidMore
import Derived.Lay
import Derived.SevenTiedAt
import Derived.Stop.Joined
import Derived.Test.YtpipaggkbiapjaaDoorTie
import Derived.Test.YtpipaggkbiapjaaDoorCards
import Derived.WalkKit
import Derived.ProofKit
import Derived.OpenShut
import Derived.ShutString
import Derived.ChangeOld
import Derived.Below
import Derived.SizedLaws
namespace Go.Proofs.YtpipaggkbiapjaaDoor.recordSeals
open Go.ChangeShapes Go.WideShapes Go.ChangeAt Go.RowKit Go.AM Go.AX
open Go.ChangeMaps (open_string shut_string)
set_option linter.unusedVariables false
theorem own : ownKnob Tryd.prog.godebug = none := by kernel_rfl
theorem laidOut : laidOutB Tryd.prog = true := by kernel_rfl
theorem opx45 : OpX Tryd.prog 45 Seal_api (fun x => (fun (n : Int) => -9223372036854775808 ≤ n ∧ n ≤ 9223372036854775807) x.Number ∧ (fun (n : Int) => -9223372036854775808 ≤ n ∧ n ≤ 9223372036854775807) x.Index ∧ (fun (n : Int) => -9223372036854775808 ≤ n ∧ n ≤ 9223372036854775807) x.Data ∧ (fun (n : Int) => -9223372036854775808 ≤ n ∧ n ≤ 9223372036854775807) x.Parity ∧ (fun (xs : (List Int)) => xs.length ≤ reachBytes ∧ ∀ y ∈ xs, (fun (n : Int) => -9223372036854775808 ≤ n ∧ n ≤ 9223372036854775807) y) x.Labels ∧ True) := by
  have hF : OpensF Tryd.prog [⟨"Number", 3, 0, false, "", "", 0⟩, ⟨"Index", 3, 1, false, "", "", 8⟩, ⟨"Data", 3, 2, false, "", "", 16⟩, ⟨"Parity", 3, 3, false, "", "", 24⟩, ⟨"Labels", 43, 4, false, "", "", 32⟩] 0 (1 + (1 + (1 + (1 + (1 + 0))))) _ _ := (OpensF.cons (s := 1) (sz := (1 + (1 + (1 + (1 + 0))))) (f := ⟨"Number", 3, 0, false, "", "", 0⟩) rfl (by kernel_rfl) (OpX.int Tryd.underlying3) (OpensF.cons (s := 1) (sz := (1 + (1 + (1 + 0)))) (f := ⟨"Index", 3, 1, false, "", "", 8⟩) rfl (by kernel_rfl) (OpX.int Tryd.underlying3) (OpensF.cons (s := 1) (sz := (1 + (1 + 0))) (f := ⟨"Data", 3, 2, false, "", "", 16⟩) rfl (by kernel_rfl) (OpX.int Tryd.underlying3) (OpensF.cons (s := 1) (sz := (1 + 0)) (f := ⟨"Parity", 3, 3, false, "", "", 24⟩) rfl (by kernel_rfl) (OpX.int Tryd.underlying3) (OpensF.cons (s := 1) (sz := 0) (f := ⟨"Labels", 43, 4, false, "", "", 32⟩) rfl (by kernel_rfl) (OpX.slice Tryd.underlying43 (by kernel_rfl) (Nat.le_of_ble_eq_true (by kernel_rfl)) (OpX.int Tryd.underlying3)) OpensF.nil)))))
  intro H
  exact Opens.map (sz := (1 + (1 + (1 + (1 + (1 + 0)))))) (Opens.struct (sz := (1 + (1 + (1 + (1 + (1 + 0)))))) Tryd.underlying45 (by kernel_rfl) hF) (enc' := fun (x : Seal_api) => ec x) (ok' := (fun (x : Seal_api) => (fun (n : Int) => -9223372036854775808 ≤ n ∧ n ≤ 9223372036854775807) x.Number ∧ (fun (n : Int) => -9223372036854775808 ≤ n ∧ n ≤ 9223372036854775807) x.Index ∧ (fun (n : Int) => -9223372036854775808 ≤ n ∧ n ≤ 9223372036854775807) x.Data ∧ (fun (n : Int) => -9223372036854775808 ≤ n ∧ n ≤ 9223372036854775807) x.Parity ∧ (fun (xs : (List Int)) => xs.length ≤ reachBytes ∧ ∀ y ∈ xs, (fun (n : Int) => -9223372036854775808 ≤ n ∧ n ≤ 9223372036854775807) y) x.Labels ∧ True)) (fun p => ⟨p.1, p.2.1, p.2.2.1, p.2.2.2.1, p.2.2.2.2.1⟩) (fun v d hd => by
    obtain rfl | rfl | rfl | rfl | rfl : d = 0 ∨ d = 1 ∨ d = 2 ∨ d = 3 ∨ d = 4 := by omega
    all_goals rfl) (fun v h => h)
set_option maxRecDepth 100000 in
theorem lifted (os : Os) (started : os.Started) (H : Type) (enc : TypeId × Value → H) :
    ReturnsInHanded {} Tryd.checked os 8 .any (fun w args => (Rows.recordSealsSpec.pre enc Tryd.prog Tryd.f8 Rows.recordSealsRow.domain false w args ∧ laidMetH Tryd.prog Rows.recordSealsRow.laid w) ∧ sizedMet enc Tryd.prog Tryd.f8 (OpenSpec.ofChange Rows.recordSealsSpec) false w args) (Rows.recordSealsSpec.post enc Tryd.prog Tryd.f8 false true false false) := by
  refine returnsInHanded_of_change_and (C := Tryd.checked) (X := fun w _ => laidMetH Tryd.prog Rows.recordSealsRow.laid w) (fun _ _ _ hh h => h.of_heap hh) own started (by kernel_rfl) Tryd.func8
    (ChangeSpec.witness_shaped (enc := enc) (C := Tryd.checked) (os := os) (X := fun w _ => laidMetH Tryd.prog Rows.recordSealsRow.laid w) false (World.laidAll Tryd.prog os Rows.recordSealsRow.laid) #[.agg #[.int .i64 0, .int .i64 0, .int .i64 0, .int .i64 0, .slice none 0 0], .slice none 0 0] 8 (World.laidAll_os _ _ _)
      (World.shaped_of_ZipB (by kernel_rfl) (by kernel_rfl)) (by kernel_rfl) (by kernel_rfl) (by kernel_rfl)
      (by rw [MakeChecks.laidMetH_plain _ _ _ (by kernel_rfl)]; exact laidMet_laidAll _ (by kernel_rfl) (by kernel_rfl))) ?_
  intro W base args ds gs before hval0 hW hcnd hsz0 _ _
  have hsz := hsz0
  have hval : ∀ (j : Nat) t v, Tryd.f8.params[j]? = some t → args[j]? = some v → Value.okWide Tryd.prog W .any base t v := hval0
  have hW' := hW
  obtain ⟨p, q, hA0, hV, rfl, hfz, hnd⟩ := hW
  have hA : DataW.TrodAll enc Tryd.prog W 0 (fun _ => true) true Tryd.f8.params.toList args.toList ds p := hA0
  rw [Tryd.params8] at hA hval hsz
  obtain ⟨v0, vs0, d0, ds0, p0, q0, hargs, rfl, rfl, h0, r0⟩ := trodAll_cons hA
  obtain ⟨v1, vs1, d1, ds1, p1, q1, rfl, rfl, rfl, h1, r1⟩ := trodAll_cons r0
  obtain ⟨rfl, rfl, rfl⟩ := trodAll_nil r1
  obtain rfl : args = #[v0, v1] := by cases args; simp_all
  obtain ⟨rfl, rfl⟩ := trodVars_none hV
  have hsz1 : ∀ n, n ∈ d0.weights Tryd.prog 45 ++ d1.weights Tryd.prog 32 → n ≤ reachBytes := fun n hn => by
    have h0 : (DataW.weightsEach Tryd.prog _ _).all _ = true := hsz
    have h1 := List.all_eq_true.1 h0 n (by simpa [DataW.weightsEach] using hn)
    exact of_decide_eq_true h1
  obtain ⟨n0, e0, _⟩ := okWide_struct Tryd.underlying45 (hval 0 45 v0 rfl rfl)
  have lt0 : ∀ x ∈ p0, x.block < W.heap.size := by obtain ⟨m, hm⟩ := h0; exact DataW.trod_lt m _ _ _ hm
  obtain ⟨x0, k0, z0⟩ := OpX.oneA opx45 rfl e0 h0 (fun n hn => hsz1 n (by simp [hn]))
  obtain ⟨a1, len1, cap1, e1⟩ := okWide_slice Tryd.underlying32 (hval 1 32 v1 rfl rfl)
  have lt1 : ∀ x ∈ p1, x.block < W.heap.size := by obtain ⟨m, hm⟩ := h1; exact DataW.trod_lt m _ _ _ hm
  obtain ⟨x1, k1, z1⟩ := OpX.one (OpX.slice Tryd.underlying32 (by kernel_rfl) (Nat.le_of_ble_eq_true (by kernel_rfl)) (OpX.u8 Tryd.underlying5)) rfl (by rw [e1]; rfl) h1 (fun n hn => hsz1 n (by simp [hn]))
  clear hA0 hval0
  have plain : X.cartridgelaw10_RecordSeals x0 x1 = some true := by first | exact rec_seals x0 x1 | exact rec_seals x0 x1 k0 k1
  refine ((ok_cartridgelaw10_RecordSeals x0 x1 true plain).calls flat0 W _ (muok0 W) rfl ?_).mono ?_
  · intro i hi
    match i, hi with
    | 0, _ => exact z0
    | 1, _ => exact z1
    | n + 2, hi => exact absurd hi (by simp)
  · rintro e W' ⟨c, r, rfl, rfl, _, hc, bel⟩
    obtain rfl : c = .bool true := hc
    exact ⟨_, rfl, _, _, _, [], _, [], hW', trodAll_mk1 (shut_bool Tryd.underlying4 _), (trodAll_cons_mk (Below.trod laidOut (by kernel_rfl) (of_decide_eq_true (by kernel_rfl)) h0 bel lt0) (trodAll_cons_mk (Below.trod laidOut (by kernel_rfl) (of_decide_eq_true (by kernel_rfl)) h1 bel lt1) trodAll_mk0)), rfl, bel.frame _, fun h => by cases h⟩
theorem over : Rows.recordSealsRow.holds Tryd.pinned (OpenSpec.ofChange Rows.recordSealsSpec) :=
  OpenClaim.holds_of_wide 8 Tryd.f8 rfl rfl rfl rfl rfl rfl rfl ⟨rfl, rfl, rfl, rfl, rfl⟩ rfl rfl rfl rfl rfl (by kernel_rfl) Tryd.func8 (by kernel_rfl)
    (of_decide_eq_true (by kernel_rfl)) (by unfold Func.isWrapper; first | (rw [if_pos (by decide +kernel)]; kernel_rfl) | (rw [if_neg (by decide +kernel)]; exact ⟨rfl, rfl⟩))
    (fun os started H enc _ => lifted os started H enc)
theorem proved : Rows.RecordSealsSaid := over
/-- The tied card. -/
theorem carded : Rows.RecordSealsCardSaid :=
  Claim7.holds_tied_plain_at .later [] [.data, .pinned] true (true, "97829d9edc491b02ce313f78109d76b117aa191ea13b8688ff351af9ea6738bc") false over (fun _ h => by cases h) (by kernel_rfl) (fun _ h => by cases h) recordSeals_row_tie rfl ⟨rfl, rfl⟩ (by kernel_rfl) rfl
    (fun f fn hf hfn => by
      obtain rfl : f = 8 := Option.some.inj ((show Tryd.prog.funcNamed Rows.recordSealsRow.func = some 8 by kernel_rfl).symm.trans hf) |>.symm
      obtain rfl : fn = Tryd.f8 := (Option.some.inj (Tryd.func8.symm.trans hfn)).symm
      exact ⟨by kernel_rfl, fun j t ht => by
        rw [Tryd.params8] at ht
        have hm : t ∈ [45, 32] := by simpa using Array.mem_of_getElem? ht
        have hall : ([45, 32].all fun u => !Tryd.prog.wantsStandIn u) = true := by kernel_rfl
        exact (show Tryd.prog.wantsStandIn t = false by simpa using List.all_eq_true.1 hall t hm)⟩)
    (by kernel_rfl)
#print axioms carded
end Go.Proofs.YtpipaggkbiapjaaDoor.recordSeals
namespace Go.Proofs.YtpipaggkbiapjaaDoor
/-- The row, under a short name, for the claim. -/
theorem recordSeals_holds : Rows.RecordSealsCardSaid := recordSeals.carded
end Go.Proofs.YtpipaggkbiapjaaDoor
