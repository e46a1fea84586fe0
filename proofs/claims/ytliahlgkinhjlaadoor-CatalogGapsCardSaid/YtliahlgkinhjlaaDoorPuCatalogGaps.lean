import Derived.Test.YtliahlgkinhjlaaDoorXFn
import Derived.Test.YtliahlgkinhjlaaDoorLibB
/- Plain laws, put together. -/
set_option linter.unusedVariables false
set_option linter.unusedSimpArgs false
/- A file is found just if no part of it is missing. -/
namespace Go.AX
open Go.AM
set_option linter.unusedSimpArgs false
set_option linter.unusedVariables false
theorem bd_s {α β : Type} (a : α) (f : α → Option β) : (some a).bind f = f a := rfl
set_option maxRecDepth 100000 in
theorem alive17 : X.cartridgelaw17_alive = some true := by decide +kernel
def gapsB (n m : Nat) (w : Bool) : Bool := decide (((run (X.cartridgelaw17_CatalogGaps_s13 (n : Int) (m : Int) w) (([] : List Part_api), (0 : Int))).bind fun o13 => match o13 with
    | l16 => X.cartridgelaw17_CatalogGaps_e13 w (n : Int) l16) = some true)
set_option maxRecDepth 100000 in
theorem gaps_all : ((List.range 11).all fun n => (List.range n).all fun m => gapsB n m true && gapsB n m false) = true := by decide +kernel
theorem cat_gaps (n missing : Int) (whole : Bool) : X.cartridgelaw17_CatalogGaps n missing whole = some true := by
  unfold X.cartridgelaw17_CatalogGaps
  rw [alive17, bd_s]
  split
  · rfl
  rename_i hc
  simp only [Bool.not_true, Bool.false_or, Bool.or_eq_true, decide_eq_true_eq] at hc
  obtain ⟨a, rfl⟩ : ∃ a : Nat, n = (a : Int) := ⟨n.toNat, by omega⟩
  obtain ⟨b, rfl⟩ : ∃ b : Nat, missing = (b : Int) := ⟨missing.toNat, by omega⟩
  have h1 := List.all_eq_true.1 gaps_all a (List.mem_range.2 (by omega))
  have h2 := List.all_eq_true.1 h1 b (List.mem_range.2 (by omega))
  rw [Bool.and_eq_true] at h2
  have h3 : gapsB a b whole = true := by cases whole; exact h2.2; exact h2.1
  exact of_decide_eq_true h3
end Go.AX
