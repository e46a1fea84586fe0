/- For every input the law ListingTells of the program returns true, and each argument reads behind the call as it read before it: the given statement, with no condition of our own. -/
import Derived.Test.YtndjbcnpgggddaaRows
import Derived.Test.YtndjbcnpgggddaaLibC
import Derived.Test.YtndjbcnpgggddaaXP0
import Derived.Test.YtndjbcnpgggddaaPuListingTells
import Derived.WalkKit
import Derived.ProofKit
import Derived.OpenShut
import Derived.ShutString
import Derived.ChangeOld
import Derived.Below
import Derived.SizedLaws
namespace Go.Proofs.Ytndjbcnpgggddaa.listingTells
open Go.ChangeShapes Go.WideShapes Go.ChangeAt Go.RowKit Go.AM Go.AX
open Go.ChangeMaps (open_string shut_string)
set_option linter.unusedVariables false
theorem own : ownKnob Try.prog.godebug = none := by kernel_rfl
theorem laidOut : laidOutB Try.prog = true := by kernel_rfl
theorem opx85 : OpX Try.prog 85 Head_api (fun x => (fun (s : Str) => s.l.length ≤ maxLen ∧ s.l.length ≤ reachBytes) x.Path ∧ (fun (n : Int) => -9223372036854775808 ≤ n ∧ n ≤ 9223372036854775807) x.Version ∧ (fun (n : Int) => -9223372036854775808 ≤ n ∧ n ≤ 9223372036854775807) x.Size ∧ (fun (n : Int) => -9223372036854775808 ≤ n ∧ n ≤ 9223372036854775807) x.From ∧ (fun (n : Int) => -9223372036854775808 ≤ n ∧ n ≤ 9223372036854775807) x.Len ∧ (fun (n : Int) => -9223372036854775808 ≤ n ∧ n ≤ 9223372036854775807) x.Serial ∧ (fun (n : Int) => -9223372036854775808 ≤ n ∧ n ≤ 9223372036854775807) x.Sum ∧ (fun _ => True) x.Gone ∧ True) := by
  have hF : OpensF Try.prog [⟨"Path", 9, 0, false, "", "", 0⟩, ⟨"Version", 3, 1, false, "", "", 16⟩, ⟨"Size", 3, 2, false, "", "", 24⟩, ⟨"From", 3, 3, false, "", "", 32⟩, ⟨"Len", 3, 4, false, "", "", 40⟩, ⟨"Serial", 3, 5, false, "", "", 48⟩, ⟨"Sum", 3, 6, false, "", "", 56⟩, ⟨"Gone", 4, 7, false, "", "", 64⟩] 0 (1 + (1 + (1 + (1 + (1 + (1 + (1 + (1 + 0)))))))) _ _ := (OpensF.cons (s := 1) (sz := (1 + (1 + (1 + (1 + (1 + (1 + (1 + 0)))))))) (f := ⟨"Path", 9, 0, false, "", "", 0⟩) rfl (by kernel_rfl) (OpX.str Try.underlying9) (OpensF.cons (s := 1) (sz := (1 + (1 + (1 + (1 + (1 + (1 + 0))))))) (f := ⟨"Version", 3, 1, false, "", "", 16⟩) rfl (by kernel_rfl) (OpX.int Try.underlying3) (OpensF.cons (s := 1) (sz := (1 + (1 + (1 + (1 + (1 + 0)))))) (f := ⟨"Size", 3, 2, false, "", "", 24⟩) rfl (by kernel_rfl) (OpX.int Try.underlying3) (OpensF.cons (s := 1) (sz := (1 + (1 + (1 + (1 + 0))))) (f := ⟨"From", 3, 3, false, "", "", 32⟩) rfl (by kernel_rfl) (OpX.int Try.underlying3) (OpensF.cons (s := 1) (sz := (1 + (1 + (1 + 0)))) (f := ⟨"Len", 3, 4, false, "", "", 40⟩) rfl (by kernel_rfl) (OpX.int Try.underlying3) (OpensF.cons (s := 1) (sz := (1 + (1 + 0))) (f := ⟨"Serial", 3, 5, false, "", "", 48⟩) rfl (by kernel_rfl) (OpX.int Try.underlying3) (OpensF.cons (s := 1) (sz := (1 + 0)) (f := ⟨"Sum", 3, 6, false, "", "", 56⟩) rfl (by kernel_rfl) (OpX.int Try.underlying3) (OpensF.cons (s := 1) (sz := 0) (f := ⟨"Gone", 4, 7, false, "", "", 64⟩) rfl (by kernel_rfl) (OpX.bool Try.underlying4) OpensF.nil))))))))
  intro H
  exact Opens.map (sz := (1 + (1 + (1 + (1 + (1 + (1 + (1 + (1 + 0))))))))) (Opens.struct (sz := (1 + (1 + (1 + (1 + (1 + (1 + (1 + (1 + 0))))))))) Try.underlying85 (by kernel_rfl) hF) (enc' := fun (x : Head_api) => ec x) (ok' := (fun (x : Head_api) => (fun (s : Str) => s.l.length ≤ maxLen ∧ s.l.length ≤ reachBytes) x.Path ∧ (fun (n : Int) => -9223372036854775808 ≤ n ∧ n ≤ 9223372036854775807) x.Version ∧ (fun (n : Int) => -9223372036854775808 ≤ n ∧ n ≤ 9223372036854775807) x.Size ∧ (fun (n : Int) => -9223372036854775808 ≤ n ∧ n ≤ 9223372036854775807) x.From ∧ (fun (n : Int) => -9223372036854775808 ≤ n ∧ n ≤ 9223372036854775807) x.Len ∧ (fun (n : Int) => -9223372036854775808 ≤ n ∧ n ≤ 9223372036854775807) x.Serial ∧ (fun (n : Int) => -9223372036854775808 ≤ n ∧ n ≤ 9223372036854775807) x.Sum ∧ (fun _ => True) x.Gone ∧ True)) (fun p => ⟨p.1, p.2.1, p.2.2.1, p.2.2.2.1, p.2.2.2.2.1, p.2.2.2.2.2.1, p.2.2.2.2.2.2.1, p.2.2.2.2.2.2.2.1⟩) (fun v d hd => by
    obtain rfl | rfl | rfl | rfl | rfl | rfl | rfl | rfl : d = 0 ∨ d = 1 ∨ d = 2 ∨ d = 3 ∨ d = 4 ∨ d = 5 ∨ d = 6 ∨ d = 7 := by omega
    all_goals rfl) (fun v h => h)
theorem opx87 : OpX Try.prog 87 Part_api (fun x => (fun (x : Head_api) => (fun (s : Str) => s.l.length ≤ maxLen ∧ s.l.length ≤ reachBytes) x.Path ∧ (fun (n : Int) => -9223372036854775808 ≤ n ∧ n ≤ 9223372036854775807) x.Version ∧ (fun (n : Int) => -9223372036854775808 ≤ n ∧ n ≤ 9223372036854775807) x.Size ∧ (fun (n : Int) => -9223372036854775808 ≤ n ∧ n ≤ 9223372036854775807) x.From ∧ (fun (n : Int) => -9223372036854775808 ≤ n ∧ n ≤ 9223372036854775807) x.Len ∧ (fun (n : Int) => -9223372036854775808 ≤ n ∧ n ≤ 9223372036854775807) x.Serial ∧ (fun (n : Int) => -9223372036854775808 ≤ n ∧ n ≤ 9223372036854775807) x.Sum ∧ (fun _ => True) x.Gone ∧ True) x.Head ∧ (fun (n : Int) => -9223372036854775808 ≤ n ∧ n ≤ 9223372036854775807) x.Label ∧ (fun (n : Int) => -9223372036854775808 ≤ n ∧ n ≤ 9223372036854775807) x.Block ∧ True) := by
  have hF : OpensF Try.prog [⟨"Head", 85, 0, false, "", "", 0⟩, ⟨"Label", 3, 8, false, "", "", 72⟩, ⟨"Block", 3, 9, false, "", "", 80⟩] 0 (8 + (1 + (1 + 0))) _ _ := (OpensF.cons (s := 8) (sz := (1 + (1 + 0))) (f := ⟨"Head", 85, 0, false, "", "", 0⟩) rfl (by kernel_rfl) opx85 (OpensF.cons (s := 1) (sz := (1 + 0)) (f := ⟨"Label", 3, 8, false, "", "", 72⟩) rfl (by kernel_rfl) (OpX.int Try.underlying3) (OpensF.cons (s := 1) (sz := 0) (f := ⟨"Block", 3, 9, false, "", "", 80⟩) rfl (by kernel_rfl) (OpX.int Try.underlying3) OpensF.nil)))
  intro H
  exact Opens.map (sz := (8 + (1 + (1 + 0)))) (Opens.struct (sz := (8 + (1 + (1 + 0)))) Try.underlying87 (by kernel_rfl) hF) (enc' := fun (x : Part_api) => ec x) (ok' := (fun (x : Part_api) => (fun (x : Head_api) => (fun (s : Str) => s.l.length ≤ maxLen ∧ s.l.length ≤ reachBytes) x.Path ∧ (fun (n : Int) => -9223372036854775808 ≤ n ∧ n ≤ 9223372036854775807) x.Version ∧ (fun (n : Int) => -9223372036854775808 ≤ n ∧ n ≤ 9223372036854775807) x.Size ∧ (fun (n : Int) => -9223372036854775808 ≤ n ∧ n ≤ 9223372036854775807) x.From ∧ (fun (n : Int) => -9223372036854775808 ≤ n ∧ n ≤ 9223372036854775807) x.Len ∧ (fun (n : Int) => -9223372036854775808 ≤ n ∧ n ≤ 9223372036854775807) x.Serial ∧ (fun (n : Int) => -9223372036854775808 ≤ n ∧ n ≤ 9223372036854775807) x.Sum ∧ (fun _ => True) x.Gone ∧ True) x.Head ∧ (fun (n : Int) => -9223372036854775808 ≤ n ∧ n ≤ 9223372036854775807) x.Label ∧ (fun (n : Int) => -9223372036854775808 ≤ n ∧ n ≤ 9223372036854775807) x.Block ∧ True)) (fun p => ⟨p.1, p.2.1, p.2.2.1⟩) (fun v d hd => by
    obtain rfl | rfl | rfl | rfl | rfl | rfl | rfl | rfl | rfl | rfl : d = 0 ∨ d = 1 ∨ d = 2 ∨ d = 3 ∨ d = 4 ∨ d = 5 ∨ d = 6 ∨ d = 7 ∨ d = 8 ∨ d = 9 := by omega
    all_goals rfl) (fun v h => h)
theorem opx36 : OpX Try.prog 36 File_api (fun x => (fun (s : Str) => s.l.length ≤ maxLen ∧ s.l.length ≤ reachBytes) x.Path ∧ (fun (n : Int) => -9223372036854775808 ≤ n ∧ n ≤ 9223372036854775807) x.Version ∧ (fun (n : Int) => -9223372036854775808 ≤ n ∧ n ≤ 9223372036854775807) x.Size ∧ (fun (n : Int) => -9223372036854775808 ≤ n ∧ n ≤ 9223372036854775807) x.Sum ∧ (fun (n : Int) => -9223372036854775808 ≤ n ∧ n ≤ 9223372036854775807) x.Serial ∧ (fun _ => True) x.Gone ∧ (fun (xs : (List Part_api)) => xs.length * 88 ≤ reachBytes ∧ ∀ y ∈ xs, (fun (x : Part_api) => (fun (x : Head_api) => (fun (s : Str) => s.l.length ≤ maxLen ∧ s.l.length ≤ reachBytes) x.Path ∧ (fun (n : Int) => -9223372036854775808 ≤ n ∧ n ≤ 9223372036854775807) x.Version ∧ (fun (n : Int) => -9223372036854775808 ≤ n ∧ n ≤ 9223372036854775807) x.Size ∧ (fun (n : Int) => -9223372036854775808 ≤ n ∧ n ≤ 9223372036854775807) x.From ∧ (fun (n : Int) => -9223372036854775808 ≤ n ∧ n ≤ 9223372036854775807) x.Len ∧ (fun (n : Int) => -9223372036854775808 ≤ n ∧ n ≤ 9223372036854775807) x.Serial ∧ (fun (n : Int) => -9223372036854775808 ≤ n ∧ n ≤ 9223372036854775807) x.Sum ∧ (fun _ => True) x.Gone ∧ True) x.Head ∧ (fun (n : Int) => -9223372036854775808 ≤ n ∧ n ≤ 9223372036854775807) x.Label ∧ (fun (n : Int) => -9223372036854775808 ≤ n ∧ n ≤ 9223372036854775807) x.Block ∧ True) y) x.Parts ∧ True) := by
  have hF : OpensF Try.prog [⟨"Path", 9, 0, false, "", "", 0⟩, ⟨"Version", 3, 1, false, "", "", 16⟩, ⟨"Size", 3, 2, false, "", "", 24⟩, ⟨"Sum", 3, 3, false, "", "", 32⟩, ⟨"Serial", 3, 4, false, "", "", 40⟩, ⟨"Gone", 4, 5, false, "", "", 48⟩, ⟨"Parts", 34, 6, false, "", "", 56⟩] 0 (1 + (1 + (1 + (1 + (1 + (1 + (1 + 0))))))) _ _ := (OpensF.cons (s := 1) (sz := (1 + (1 + (1 + (1 + (1 + (1 + 0))))))) (f := ⟨"Path", 9, 0, false, "", "", 0⟩) rfl (by kernel_rfl) (OpX.str Try.underlying9) (OpensF.cons (s := 1) (sz := (1 + (1 + (1 + (1 + (1 + 0)))))) (f := ⟨"Version", 3, 1, false, "", "", 16⟩) rfl (by kernel_rfl) (OpX.int Try.underlying3) (OpensF.cons (s := 1) (sz := (1 + (1 + (1 + (1 + 0))))) (f := ⟨"Size", 3, 2, false, "", "", 24⟩) rfl (by kernel_rfl) (OpX.int Try.underlying3) (OpensF.cons (s := 1) (sz := (1 + (1 + (1 + 0)))) (f := ⟨"Sum", 3, 3, false, "", "", 32⟩) rfl (by kernel_rfl) (OpX.int Try.underlying3) (OpensF.cons (s := 1) (sz := (1 + (1 + 0))) (f := ⟨"Serial", 3, 4, false, "", "", 40⟩) rfl (by kernel_rfl) (OpX.int Try.underlying3) (OpensF.cons (s := 1) (sz := (1 + 0)) (f := ⟨"Gone", 4, 5, false, "", "", 48⟩) rfl (by kernel_rfl) (OpX.bool Try.underlying4) (OpensF.cons (s := 1) (sz := 0) (f := ⟨"Parts", 34, 6, false, "", "", 56⟩) rfl (by kernel_rfl) (OpX.sliceB (by' := 88) Try.underlying34 (by kernel_rfl) (by kernel_rfl) opx87) OpensF.nil)))))))
  intro H
  exact Opens.map (sz := (1 + (1 + (1 + (1 + (1 + (1 + (1 + 0)))))))) (Opens.struct (sz := (1 + (1 + (1 + (1 + (1 + (1 + (1 + 0)))))))) Try.underlying36 (by kernel_rfl) hF) (enc' := fun (x : File_api) => ec x) (ok' := (fun (x : File_api) => (fun (s : Str) => s.l.length ≤ maxLen ∧ s.l.length ≤ reachBytes) x.Path ∧ (fun (n : Int) => -9223372036854775808 ≤ n ∧ n ≤ 9223372036854775807) x.Version ∧ (fun (n : Int) => -9223372036854775808 ≤ n ∧ n ≤ 9223372036854775807) x.Size ∧ (fun (n : Int) => -9223372036854775808 ≤ n ∧ n ≤ 9223372036854775807) x.Sum ∧ (fun (n : Int) => -9223372036854775808 ≤ n ∧ n ≤ 9223372036854775807) x.Serial ∧ (fun _ => True) x.Gone ∧ (fun (xs : (List Part_api)) => xs.length * 88 ≤ reachBytes ∧ ∀ y ∈ xs, (fun (x : Part_api) => (fun (x : Head_api) => (fun (s : Str) => s.l.length ≤ maxLen ∧ s.l.length ≤ reachBytes) x.Path ∧ (fun (n : Int) => -9223372036854775808 ≤ n ∧ n ≤ 9223372036854775807) x.Version ∧ (fun (n : Int) => -9223372036854775808 ≤ n ∧ n ≤ 9223372036854775807) x.Size ∧ (fun (n : Int) => -9223372036854775808 ≤ n ∧ n ≤ 9223372036854775807) x.From ∧ (fun (n : Int) => -9223372036854775808 ≤ n ∧ n ≤ 9223372036854775807) x.Len ∧ (fun (n : Int) => -9223372036854775808 ≤ n ∧ n ≤ 9223372036854775807) x.Serial ∧ (fun (n : Int) => -9223372036854775808 ≤ n ∧ n ≤ 9223372036854775807) x.Sum ∧ (fun _ => True) x.Gone ∧ True) x.Head ∧ (fun (n : Int) => -9223372036854775808 ≤ n ∧ n ≤ 9223372036854775807) x.Label ∧ (fun (n : Int) => -9223372036854775808 ≤ n ∧ n ≤ 9223372036854775807) x.Block ∧ True) y) x.Parts ∧ True)) (fun p => ⟨p.1, p.2.1, p.2.2.1, p.2.2.2.1, p.2.2.2.2.1, p.2.2.2.2.2.1, p.2.2.2.2.2.2.1⟩) (fun v d hd => by
    obtain rfl | rfl | rfl | rfl | rfl | rfl | rfl : d = 0 ∨ d = 1 ∨ d = 2 ∨ d = 3 ∨ d = 4 ∨ d = 5 ∨ d = 6 := by omega
    all_goals rfl) (fun v h => h)
set_option maxRecDepth 100000 in
theorem lifted (os : Os) (started : os.Started) (H : Type) (enc : TypeId × Value → H) :
    ReturnsInHanded {} Try.checked os 5 .any (Rows.listingTellsSpec.pre6 enc Try.prog Try.f5 Rows.listingTellsRow.domain false) (Rows.listingTellsSpec.post enc Try.prog Try.f5 false true false false) := by
  refine returnsInHanded_of_change_sized (C := Try.checked) own started (by kernel_rfl) Try.func5
    (ChangeSpec.witness6 (enc := enc) (C := Try.checked) false ⟨#[], #[.slice none 0 0, .string ByteArray.empty, .int .i64 0], []⟩ 8 (by kernel_rfl) (by kernel_rfl) (by kernel_rfl) (by kernel_rfl)) ?_
  intro W base args ds gs before hval0 hW hcnd hsz0 _
  have hsz := hsz0
  have hval : ∀ (j : Nat) t v, Try.f5.params[j]? = some t → args[j]? = some v → Value.okWide Try.prog W .any base t v := hval0
  have hW' := hW
  obtain ⟨p, q, hA0, hV, rfl, hfz, hnd⟩ := hW
  have hA : DataW.TrodAll enc Try.prog W 0 (fun _ => true) true Try.f5.params.toList args.toList ds p := hA0
  rw [Try.params5] at hA hval hsz
  obtain ⟨v0, vs0, d0, ds0, p0, q0, hargs, rfl, rfl, h0, r0⟩ := trodAll_cons hA
  obtain ⟨v1, vs1, d1, ds1, p1, q1, rfl, rfl, rfl, h1, r1⟩ := trodAll_cons r0
  obtain ⟨v2, vs2, d2, ds2, p2, q2, rfl, rfl, rfl, h2, r2⟩ := trodAll_cons r1
  obtain ⟨rfl, rfl, rfl⟩ := trodAll_nil r2
  obtain rfl : args = #[v0, v1, v2] := by cases args; simp_all
  obtain ⟨rfl, rfl⟩ := trodVars_none hV
  have hsz1 : ∀ n, n ∈ d0.weights Try.prog 31 ++ d1.weights Try.prog 9 ++ d2.weights Try.prog 3 → n ≤ reachBytes := fun n hn => by
    have h0 : (DataW.weightsEach Try.prog _ _).all _ = true := hsz
    have h1 := List.all_eq_true.1 h0 n (by simpa [DataW.weightsEach] using hn)
    exact of_decide_eq_true h1
  obtain ⟨a0, len0, cap0, e0⟩ := okWide_slice Try.underlying31 (hval 0 31 v0 rfl rfl)
  have lt0 : ∀ x ∈ p0, x.block < W.heap.size := by obtain ⟨m, hm⟩ := h0; exact DataW.trod_lt m _ _ _ hm
  obtain ⟨x0, k0, z0⟩ := OpX.one (OpX.sliceB (by' := 80) Try.underlying31 (by kernel_rfl) (by kernel_rfl) opx36) rfl (by rw [e0]; rfl) h0 (fun n hn => hsz1 n (by simp [hn]))
  obtain ⟨n1, e1⟩ := okWide_string Try.underlying9 (hval 1 9 v1 rfl rfl)
  have lt1 : ∀ x ∈ p1, x.block < W.heap.size := by obtain ⟨m, hm⟩ := h1; exact DataW.trod_lt m _ _ _ hm
  obtain ⟨x1, k1, z1⟩ := OpX.one (OpX.str Try.underlying9) rfl (by rw [e1]; rfl) h1 (fun n hn => hsz1 n (by simp [hn]))
  obtain ⟨n2, e2⟩ := okWide_int Try.underlying3 (hval 2 3 v2 rfl rfl)
  have lt2 : ∀ x ∈ p2, x.block < W.heap.size := by obtain ⟨m, hm⟩ := h2; exact DataW.trod_lt m _ _ _ hm
  obtain ⟨x2, k2, z2⟩ := OpX.one (OpX.int Try.underlying3) rfl (by rw [e2]; rfl) h2 (fun n hn => hsz1 n (by simp [hn]))
  clear hA0 hval0
  have plain : X.cartridgelaw18_ListingTells x0 x1 x2 = some true := by first | exact listing_tells x0 x1 x2 | exact listing_tells x0 x1 x2 k0 k1 k2
  refine ((ok_cartridgelaw18_ListingTells x0 x1 x2 true plain).calls flat0 W _ (muok0 W) rfl ?_).mono ?_
  · intro i hi
    match i, hi with
    | 0, _ => exact z0
    | 1, _ => exact z1
    | 2, _ => exact z2
    | n + 3, hi => exact absurd hi (by simp)
  · rintro e W' ⟨c, r, rfl, rfl, _, hc, bel⟩
    obtain rfl : c = .bool true := hc
    exact ⟨_, rfl, _, _, _, [], _, [], hW', trodAll_mk1 (shut_bool Try.underlying4 _), (trodAll_cons_mk (Below.trod laidOut (by kernel_rfl) (of_decide_eq_true (by kernel_rfl)) h0 bel lt0) (trodAll_cons_mk (Below.trod laidOut (by kernel_rfl) (of_decide_eq_true (by kernel_rfl)) h1 bel lt1) (trodAll_cons_mk (Below.trod laidOut (by kernel_rfl) (of_decide_eq_true (by kernel_rfl)) h2 bel lt2) trodAll_mk0))), rfl, bel.frame _, fun h => by cases h⟩
theorem over : Rows.listingTellsRow.holds Try.pinned (OpenSpec.ofChange Rows.listingTellsSpec) :=
  OpenClaim.holds_of_wide 5 Try.f5 rfl rfl rfl rfl rfl rfl rfl ⟨rfl, rfl, rfl, rfl, rfl⟩ rfl rfl rfl rfl rfl (by kernel_rfl) Try.func5 (by kernel_rfl)
    (of_decide_eq_true (by kernel_rfl)) (by unfold Func.isWrapper; first | (rw [if_pos (by decide +kernel)]; kernel_rfl) | (rw [if_neg (by decide +kernel)]; exact ⟨rfl, rfl⟩))
    (fun os started H enc _ => lifted os started H enc)
theorem proved : Rows.ListingTellsSaid := over
#print axioms proved
end Go.Proofs.Ytndjbcnpgggddaa.listingTells
namespace Go.Proofs.Ytndjbcnpgggddaa
/-- The row, under a short name, for the claim. -/
theorem listingTells_holds : Rows.ListingTellsSaid := listingTells.proved
end Go.Proofs.Ytndjbcnpgggddaa
