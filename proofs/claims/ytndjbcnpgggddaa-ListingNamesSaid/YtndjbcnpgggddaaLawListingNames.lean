/- For every input the law ListingNames of the program returns true, and each argument reads behind the call as it read before it: the given statement, with no condition of our own. -/
import Derived.Test.YtndjbcnpgggddaaRows
import Derived.Test.YtndjbcnpgggddaaLibC
import Derived.Test.YtndjbcnpgggddaaXP0
import Derived.Test.YtndjbcnpgggddaaPuListingNames
import Derived.WalkKit
import Derived.ProofKit
import Derived.OpenShut
import Derived.ShutString
import Derived.ChangeOld
import Derived.Below
import Derived.SizedLaws
namespace Go.Proofs.Ytndjbcnpgggddaa.listingNames
open Go.ChangeShapes Go.WideShapes Go.ChangeAt Go.RowKit Go.AM Go.AX
open Go.ChangeMaps (open_string shut_string)
set_option linter.unusedVariables false
theorem own : ownKnob Try.prog.godebug = none := by kernel_rfl
theorem laidOut : laidOutB Try.prog = true := by kernel_rfl
theorem opx85 : OpX Try.prog 85 Head_api (fun x => (fun (s : Str) => s.l.length ≤ maxLen ∧ s.l.length ≤ reachBytes) x.Path ∧ (fun (n : Int) => -9223372036854775808 ≤ n ∧ n ≤ 9223372036854775807) x.Version ∧ (fun (n : Int) => -9223372036854775808 ≤ n ∧ n ≤ 9223372036854775807) x.Size ∧ (fun (n : Int) => -9223372036854775808 ≤ n ∧ n ≤ 9223372036854775807) x.From ∧ (fun (n : Int) => -9223372036854775808 ≤ n ∧ n ≤ 9223372036854775807) x.Len ∧ (fun (n : Int) => -9223372036854775808 ≤ n ∧ n ≤ 9223372036854775807) x.Serial ∧ (fun (n : Int) => -9223372036854775808 ≤ n ∧ n ≤ 9223372036854775807) x.Sum ∧ (fun _ => True) x.Gone ∧ True) := by
  have hF : OpensF Try.prog [⟨"Path", 9, 0, false, "", "", 0⟩, ⟨"Version", 3, 1, false, "", "", 16⟩, ⟨"Size", 3, 2, false, "", "", 24⟩, ⟨"From", 3, 3, false, "", "", 32⟩, ⟨"Len", 3, 4, false, "", "", 40⟩, ⟨"Serial", 3, 5, false, "", "", 48⟩, ⟨"Sum", 3, 6, false, "", "", 56⟩, ⟨"Gone", 4, 7, false, "", "", 64⟩] 0 (1 + (1 + (1 + (1 + (1 + (1 + (1 + (1 + 0)))))))) _ _ := (OpensF.cons (s := 1) (sz := (1 + (1 + (1 + (1 + (1 + (1 + (1 + 0)))))))) (f := ⟨"Path", 9, 0, false, "", "", 0⟩) rfl (by kernel_rfl) (OpX.str Try.underlying9) (OpensF.cons (s := 1) (sz := (1 + (1 + (1 + (1 + (1 + (1 + 0))))))) (f := ⟨"Version", 3, 1, false, "", "", 16⟩) rfl (by kernel_rfl) (OpX.int Try.underlying3) (OpensF.cons (s := 1) (sz := (1 + (1 + (1 + (1 + (1 + 0)))))) (f := ⟨"Size", 3, 2, false, "", "", 24⟩) rfl (by kernel_rfl) (OpX.int Try.underlying3) (OpensF.cons (s := 1) (sz := (1 + (1 + (1 + (1 + 0))))) (f := ⟨"From", 3, 3, false, "", "", 32⟩) rfl (by kernel_rfl) (OpX.int Try.underlying3) (OpensF.cons (s := 1) (sz := (1 + (1 + (1 + 0)))) (f := ⟨"Len", 3, 4, false, "", "", 40⟩) rfl (by kernel_rfl) (OpX.int Try.underlying3) (OpensF.cons (s := 1) (sz := (1 + (1 + 0))) (f := ⟨"Serial", 3, 5, false, "", "", 48⟩) rfl (by kernel_rfl) (OpX.int Try.underlying3) (OpensF.cons (s := 1) (sz := (1 + 0)) (f := ⟨"Sum", 3, 6, false, "", "", 56⟩) rfl (by kernel_rfl) (OpX.int Try.underlying3) (OpensF.cons (s := 1) (sz := 0) (f := ⟨"Gone", 4, 7, false, "", "", 64⟩) rfl (by kernel_rfl) (OpX.bool Try.underlying4) OpensF.nil))))))))
  intro H
  exact Opens.map (sz := (1 + (1 + (1 + (1 + (1 + (1 + (1 + (1 + 0))))))))) (Opens.struct (sz := (1 + (1 + (1 + (1 + (1 + (1 + (1 + (1 + 0))))))))) Try.underlying85 (by kernel_rfl) hF) (enc' := fun (x : Head_api) => ec x) (ok' := (fun (x : Head_api) => (fun (s : Str) => s.l.length ≤ maxLen ∧ s.l.length ≤ reachBytes) x.Path ∧ (fun (n : Int) => -9223372036854775808 ≤ n ∧ n ≤ 9223372036854775807) x.Version ∧ (fun (n : Int) => -9223372036854775808 ≤ n ∧ n ≤ 9223372036854775807) x.Size ∧ (fun (n : Int) => -9223372036854775808 ≤ n ∧ n ≤ 9223372036854775807) x.From ∧ (fun (n : Int) => -9223372036854775808 ≤ n ∧ n ≤ 9223372036854775807) x.Len ∧ (fun (n : Int) => -9223372036854775808 ≤ n ∧ n ≤ 9223372036854775807) x.Serial ∧ (fun (n : Int) => -9223372036854775808 ≤ n ∧ n ≤ 9223372036854775807) x.Sum ∧ (fun _ => True) x.Gone ∧ True)) (fun p => ⟨p.1, p.2.1, p.2.2.1, p.2.2.2.1, p.2.2.2.2.1, p.2.2.2.2.2.1, p.2.2.2.2.2.2.1, p.2.2.2.2.2.2.2.1⟩) (fun v d hd => by
    obtain rfl | rfl | rfl | rfl | rfl | rfl | rfl | rfl : d = 0 ∨ d = 1 ∨ d = 2 ∨ d = 3 ∨ d = 4 ∨ d = 5 ∨ d = 6 ∨ d = 7 := by omega
    all_goals rfl) (fun v h => h)
theorem opx87 : OpX Try.prog 87 Part_api (fun x => (fun (x : Head_api) => (fun (s : Str) => s.l.length ≤ maxLen ∧ s.l.length ≤ reachBytes) x.Path ∧ (fun (n : Int) => -9223372036854775808 ≤ n ∧ n ≤ 9223372036854775807) x.Version ∧ (fun (n : Int) => -9223372036854775808 ≤ n ∧ n ≤ 9223372036854775807) x.Size ∧ (fun (n : Int) => -9223372036854775808 ≤ n ∧ n ≤ 9223372036854775807) x.From ∧ (fun (n : Int) => -9223372036854775808 ≤ n ∧ n ≤ 9223372036854775807) x.Len ∧ (fun (n : Int) => -9223372036854775808 ≤ n ∧ n ≤ 9223372036854775807) x.Serial ∧ (fun (n : Int) => -9223372036854775808 ≤ n ∧ n ≤ 9223372036854775807) x.Sum ∧ (fun _ => True) x.Gone ∧ True) x.Head ∧ (fun (n : Int) => -9223372036854775808 ≤ n ∧ n ≤ 9223372036854775807) x.Label ∧ (fun (n : Int) => -9223372036854775808 ≤ n ∧ n ≤ 9223372036854775807) x.Block ∧ True) := by
  have hF : OpensF Try.prog [⟨"Head", 85, 0, false, "", "", 0⟩, ⟨"Label", 3, 8, false, "", "", 72⟩, ⟨"Block", 3, 9, false, "", "", 80⟩] 0 (8 + (1 + (1 + 0))) _ _ := (OpensF.cons (s := 8) (sz := (1 + (1 + 0))) (f := ⟨"Head", 85, 0, false, "", "", 0⟩) rfl (by kernel_rfl) opx85 (OpensF.cons (s := 1) (sz := (1 + 0)) (f := ⟨"Label", 3, 8, false, "", "", 72⟩) rfl (by kernel_rfl) (OpX.int Try.underlying3) (OpensF.cons (s := 1) (sz := 0) (f := ⟨"Block", 3, 9, false, "", "", 80⟩) rfl (by kernel_rfl) (OpX.int Try.underlying3) OpensF.nil)))
  intro H
  exact Opens.map (sz := (8 + (1 + (1 + 0)))) (Opens.struct (sz := (8 + (1 + (1 + 0)))) Try.underlying87 (by kernel_rfl) hF) (enc' := fun (x : Part_api) => ec x) (ok' := (fun (x : Part_api) => (fun (x : Head_api) => (fun (s : Str) => s.l.length ≤ maxLen ∧ s.l.length ≤ reachBytes) x.Path ∧ (fun (n : Int) => -9223372036854775808 ≤ n ∧ n ≤ 9223372036854775807) x.Version ∧ (fun (n : Int) => -9223372036854775808 ≤ n ∧ n ≤ 9223372036854775807) x.Size ∧ (fun (n : Int) => -9223372036854775808 ≤ n ∧ n ≤ 9223372036854775807) x.From ∧ (fun (n : Int) => -9223372036854775808 ≤ n ∧ n ≤ 9223372036854775807) x.Len ∧ (fun (n : Int) => -9223372036854775808 ≤ n ∧ n ≤ 9223372036854775807) x.Serial ∧ (fun (n : Int) => -9223372036854775808 ≤ n ∧ n ≤ 9223372036854775807) x.Sum ∧ (fun _ => True) x.Gone ∧ True) x.Head ∧ (fun (n : Int) => -9223372036854775808 ≤ n ∧ n ≤ 9223372036854775807) x.Label ∧ (fun (n : Int) => -9223372036854775808 ≤ n ∧ n ≤ 9223372036854775807) x.Block ∧ True)) (fun p => ⟨p.1, p.2.1, p.2.2.1⟩) (fun v d hd => by
    obtain rfl | rfl | rfl | rfl | rfl | rfl | rfl | rfl | rfl | rfl : d = 0 ∨ d = 1 ∨ d = 2 ∨ d = 3 ∨ d = 4 ∨ d = 5 ∨ d = 6 ∨ d = 7 ∨ d = 8 ∨ d = 9 := by omega
    all_goals rfl) (fun v h => h)
theorem opx36 : OpX Try.prog 36 File_api (fun x => (fun (s : Str) => s.l.length ≤ maxLen ∧ s.l.length ≤ reachBytes) x.Path ∧ (fun (n : Int) => -9223372036854775808 ≤ n ∧ n ≤ 9223372036854775807) x.Version ∧ (fun (n : Int) => -9223372036854775808 ≤ n ∧ n ≤ 9223372036854775807) x.Size ∧ (fun (n : Int) => -9223372036854775808 ≤ n ∧ n ≤ 9223372036854775807) x.Sum ∧ (fun (n : Int) => -9223372036854775808 ≤ n ∧ n ≤ 9223372036854775807) x.Serial ∧ (fun _ => True) x.Gone ∧ (fun (xs : (List Part_api)) => xs.length * 88 ≤ reachBytes ∧ ∀ y ∈ xs, (fun (x : Part_api) => (fun (x : Head_api) => (fun (s : Str) => s.l.length ≤ maxLen ∧ s.l.length ≤ reachBytes) x.Path ∧ (fun (n : Int) => -9223372036854775808 ≤ n ∧ n ≤ 9223372036854775807) x.Version ∧ (fun (n : Int) => -9223372036854775808 ≤ n ∧ n ≤ 9223372036854775807) x.Size ∧ (fun (n : Int) => -9223372036854775808 ≤ n ∧ n ≤ 9223372036854775807) x.From ∧ (fun (n : Int) => -9223372036854775808 ≤ n ∧ n ≤ 9223372036854775807) x.Len ∧ (fun (n : Int) => -9223372036854775808 ≤ n ∧ n ≤ 9223372036854775807) x.Serial ∧ (fun (n : Int) => -9223372036854775808 ≤ n ∧ n ≤ 9223372036854775807) x.Sum ∧ (fun _ => True) x.Gone ∧ True) x.Head ∧ (fun (n : Int) => -9223372036854775808 ≤ n ∧ n ≤ 9223372036854775807) x.Label ∧ (fun (n : Int) => -9223372036854775808 ≤ n ∧ n ≤ 9223372036854775807) x.Block ∧ True) y) x.Parts ∧ True) := by
  have hF : OpensF Try.prog [⟨"Path", 9, 0, false, "", "", 0⟩, ⟨"Version", 3, 1, false, "", "", 16⟩, ⟨"Size", 3, 2, false, "", "", 24⟩, ⟨"Sum", 3, 3, false, "", "", 32⟩, ⟨"Serial", 3, 4, false, "", "", 40⟩, ⟨"Gone", 4, 5, false, "", "", 48⟩, ⟨"Parts", 34, 6, false, "", "", 56⟩] 0 (1 + (1 + (1 + (1 + (1 + (1 + (1 + 0))))))) _ _ := (OpensF.cons (s := 1) (sz := (1 + (1 + (1 + (1 + (1 + (1 + 0))))))) (f := ⟨"Path", 9, 0, false, "", "", 0⟩) rfl (by kernel_rfl) (OpX.str Try.underlying9) (OpensF.cons (s := 1) (sz := (1 + (1 + (1 + (1 + (1 + 0)))))) (f := ⟨"Version", 3, 1, false, "", "", 16⟩) rfl (by kernel_rfl) (OpX.int Try.underlying3) (OpensF.cons (s := 1) (sz := (1 + (1 + (1 + (1 + 0))))) (f := ⟨"Size", 3, 2, false, "", "", 24⟩) rfl (by kernel_rfl) (OpX.int Try.underlying3) (OpensF.cons (s := 1) (sz := (1 + (1 + (1 + 0)))) (f := ⟨"Sum", 3, 3, false, "", "", 32⟩) rfl (by kernel_rfl) (OpX.int Try.underlying3) (OpensF.cons (s := 1) (sz := (1 + (1 + 0))) (f := ⟨"Serial", 3, 4, false, "", "", 40⟩) rfl (by kernel_rfl) (OpX.int Try.underlying3) (OpensF.cons (s := 1) (sz := (1 + 0)) (f := ⟨"Gone", 4, 5, false, "", "", 48⟩) rfl (by kernel_rfl) (OpX.bool Try.underlying4) (OpensF.cons (s := 1) (sz := 0) (f := ⟨"Parts", 34, 6, false, "", "", 56⟩) rfl (by kernel_rfl) (OpX.sliceB (by' := 88) Try.underlying34 (by kernel_rfl) (by kernel_rfl) opx87) OpensF.nil)))))))
  intro H
  exact Opens.map (sz := (1 + (1 + (1 + (1 + (1 + (1 + (1 + 0)))))))) (Opens.struct (sz := (1 + (1 + (1 + (1 + (1 + (1 + (1 + 0)))))))) Try.underlying36 (by kernel_rfl) hF) (enc' := fun (x : File_api) => ec x) (ok' := (fun (x : File_api) => (fun (s : Str) => s.l.length ≤ maxLen ∧ s.l.length ≤ reachBytes) x.Path ∧ (fun (n : Int) => -9223372036854775808 ≤ n ∧ n ≤ 9223372036854775807) x.Version ∧ (fun (n : Int) => -9223372036854775808 ≤ n ∧ n ≤ 9223372036854775807) x.Size ∧ (fun (n : Int) => -9223372036854775808 ≤ n ∧ n ≤ 9223372036854775807) x.Sum ∧ (fun (n : Int) => -9223372036854775808 ≤ n ∧ n ≤ 9223372036854775807) x.Serial ∧ (fun _ => True) x.Gone ∧ (fun (xs : (List Part_api)) => xs.length * 88 ≤ reachBytes ∧ ∀ y ∈ xs, (fun (x : Part_api) => (fun (x : Head_api) => (fun (s : Str) => s.l.length ≤ maxLen ∧ s.l.length ≤ reachBytes) x.Path ∧ (fun (n : Int) => -9223372036854775808 ≤ n ∧ n ≤ 9223372036854775807) x.Version ∧ (fun (n : Int) => -9223372036854775808 ≤ n ∧ n ≤ 9223372036854775807) x.Size ∧ (fun (n : Int) => -9223372036854775808 ≤ n ∧ n ≤ 9223372036854775807) x.From ∧ (fun (n : Int) => -9223372036854775808 ≤ n ∧ n ≤ 9223372036854775807) x.Len ∧ (fun (n : Int) => -9223372036854775808 ≤ n ∧ n ≤ 9223372036854775807) x.Serial ∧ (fun (n : Int) => -9223372036854775808 ≤ n ∧ n ≤ 9223372036854775807) x.Sum ∧ (fun _ => True) x.Gone ∧ True) x.Head ∧ (fun (n : Int) => -9223372036854775808 ≤ n ∧ n ≤ 9223372036854775807) x.Label ∧ (fun (n : Int) => -9223372036854775808 ≤ n ∧ n ≤ 9223372036854775807) x.Block ∧ True) y) x.Parts ∧ True)) (fun p => ⟨p.1, p.2.1, p.2.2.1, p.2.2.2.1, p.2.2.2.2.1, p.2.2.2.2.2.1, p.2.2.2.2.2.2.1⟩) (fun v d hd => by
    obtain rfl | rfl | rfl | rfl | rfl | rfl | rfl : d = 0 ∨ d = 1 ∨ d = 2 ∨ d = 3 ∨ d = 4 ∨ d = 5 ∨ d = 6 := by omega
    all_goals rfl) (fun v h => h)
set_option maxRecDepth 100000 in
theorem lifted (os : Os) (started : os.Started) (H : Type) (enc : TypeId × Value → H) :
    ReturnsInHanded {} Try.checked os 4 .any (Rows.listingNamesSpec.pre6 enc Try.prog Try.f4 Rows.listingNamesRow.domain false) (Rows.listingNamesSpec.post enc Try.prog Try.f4 false true false false) := by
  refine returnsInHanded_of_change_sized (C := Try.checked) own started (by kernel_rfl) Try.func4
    (ChangeSpec.witness6 (enc := enc) (C := Try.checked) false ⟨#[], #[.slice none 0 0], []⟩ 8 (by kernel_rfl) (by kernel_rfl) (by kernel_rfl) (by kernel_rfl)) ?_
  intro W base args ds gs before hval0 hW hcnd hsz0 _
  have hsz := hsz0
  have hval : ∀ (j : Nat) t v, Try.f4.params[j]? = some t → args[j]? = some v → Value.okWide Try.prog W .any base t v := hval0
  have hW' := hW
  obtain ⟨p, q, hA0, hV, rfl, hfz, hnd⟩ := hW
  have hA : DataW.TrodAll enc Try.prog W 0 (fun _ => true) true Try.f4.params.toList args.toList ds p := hA0
  rw [Try.params4] at hA hval hsz
  obtain ⟨v0, vs0, d0, ds0, p0, q0, hargs, rfl, rfl, h0, r0⟩ := trodAll_cons hA
  obtain ⟨rfl, rfl, rfl⟩ := trodAll_nil r0
  obtain rfl : args = #[v0] := by cases args; simp_all
  obtain ⟨rfl, rfl⟩ := trodVars_none hV
  have hsz1 : ∀ n, n ∈ d0.weights Try.prog 31 → n ≤ reachBytes := fun n hn => by
    have h0 : (DataW.weightsEach Try.prog _ _).all _ = true := hsz
    have h1 := List.all_eq_true.1 h0 n (by simpa [DataW.weightsEach] using hn)
    exact of_decide_eq_true h1
  obtain ⟨a0, len0, cap0, e0⟩ := okWide_slice Try.underlying31 (hval 0 31 v0 rfl rfl)
  have lt0 : ∀ x ∈ p0, x.block < W.heap.size := by obtain ⟨m, hm⟩ := h0; exact DataW.trod_lt m _ _ _ hm
  obtain ⟨x0, k0, z0⟩ := OpX.one (OpX.sliceB (by' := 80) Try.underlying31 (by kernel_rfl) (by kernel_rfl) opx36) rfl (by rw [e0]; rfl) h0 (fun n hn => hsz1 n (by simp [hn]))
  clear hA0 hval0
  have plain : X.cartridgelaw18_ListingNames x0 = some true := by first | exact listing_names x0 | exact listing_names x0 k0
  refine ((ok_cartridgelaw18_ListingNames x0 true plain).calls flat0 W _ (muok0 W) rfl ?_).mono ?_
  · intro i hi
    match i, hi with
    | 0, _ => exact z0
    | n + 1, hi => exact absurd hi (by simp)
  · rintro e W' ⟨c, r, rfl, rfl, _, hc, bel⟩
    obtain rfl : c = .bool true := hc
    exact ⟨_, rfl, _, _, _, [], _, [], hW', trodAll_mk1 (shut_bool Try.underlying4 _), (trodAll_cons_mk (Below.trod laidOut (by kernel_rfl) (of_decide_eq_true (by kernel_rfl)) h0 bel lt0) trodAll_mk0), rfl, bel.frame _, fun h => by cases h⟩
theorem over : Rows.listingNamesRow.holds Try.pinned (OpenSpec.ofChange Rows.listingNamesSpec) :=
  OpenClaim.holds_of_wide 4 Try.f4 rfl rfl rfl rfl rfl rfl rfl ⟨rfl, rfl, rfl, rfl, rfl⟩ rfl rfl rfl rfl rfl (by kernel_rfl) Try.func4 (by kernel_rfl)
    (of_decide_eq_true (by kernel_rfl)) (by unfold Func.isWrapper; first | (rw [if_pos (by decide +kernel)]; kernel_rfl) | (rw [if_neg (by decide +kernel)]; exact ⟨rfl, rfl⟩))
    (fun os started H enc _ => lifted os started H enc)
theorem proved : Rows.ListingNamesSaid := over
#print axioms proved
end Go.Proofs.Ytndjbcnpgggddaa.listingNames
namespace Go.Proofs.Ytndjbcnpgggddaa
/-- The row, under a short name, for the claim. -/
theorem listingNames_holds : Rows.ListingNamesSaid := listingNames.proved
end Go.Proofs.Ytndjbcnpgggddaa
