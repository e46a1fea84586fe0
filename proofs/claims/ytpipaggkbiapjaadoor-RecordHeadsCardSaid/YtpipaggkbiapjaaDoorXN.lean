import Derived.Test.YtpipaggkbiapjaaDoorXM
/- Plain laws: loops, lists and needs, with no program in sight. -/
namespace Go.AX
open Go.AM

theorem FUEL_eq : FUEL = 4611686018427387904 := by unfold FUEL; rfl
theorem iter_inv {σ ρ : Type} {f : σ → Option (σ ⊕ ρ)} (I : σ → Prop) (R : ρ → Prop) (m : σ → Nat)
    (step : ∀ s, I s → (∃ s', f s = some (.inl s') ∧ I s' ∧ m s' < m s) ∨ (∃ r, f s = some (.inr r) ∧ R r)) : ∀ n s, I s → m s < n → ∃ r, iter f n s = some r ∧ R r
  | 0, s, _, hm => by omega
  | n + 1, s, hI, hm => by
    rcases step s hI with ⟨s', h1, h2, h3⟩ | ⟨r, h1, h2⟩
    · obtain ⟨r, h4, h5⟩ := iter_inv I R m step n s' h2 (by omega)
      exact ⟨r, by simp only [iter, h1, h4], h5⟩
    · exact ⟨r, by simp only [iter, h1], h2⟩
/-- A loop that keeps I and comes nearer its end. -/
theorem run_inv {σ ρ : Type} {f : σ → Option (σ ⊕ ρ)} (I : σ → Prop) (R : ρ → Prop) (m : σ → Nat) {s : σ} (h0 : I s) (hm : m s ≤ 4000000000000000000)
    (step : ∀ s, I s → (∃ s', f s = some (.inl s') ∧ I s' ∧ m s' < m s) ∨ (∃ r, f s = some (.inr r) ∧ R r)) : ∃ r, run f s = some r ∧ R r := by
  unfold run
  exact iter_inv I R m step _ s h0 (by rw [FUEL_eq]; omega)
/-- A loop with one answer. -/
theorem run_is {σ ρ : Type} {f : σ → Option (σ ⊕ ρ)} (r : ρ) (I : σ → Prop) (m : σ → Nat) {s : σ} (h0 : I s) (hm : m s ≤ 4000000000000000000)
    (step : ∀ s, I s → (∃ s', f s = some (.inl s') ∧ I s' ∧ m s' < m s) ∨ f s = some (.inr r)) : run f s = some r := by
  obtain ⟨r', h1, h2⟩ := run_inv I (fun x => x = r) m h0 hm (fun s hs => (step s hs).imp id fun h => ⟨r, h, rfl⟩)
  rw [h1, h2]

section
variable {α : Type}
theorem getI_nat {xs : List α} {i : Nat} (h : i < xs.length) : getI xs (i : Int) = some xs[i] := by
  unfold getI
  rw [if_pos (by omega)]
  simp [h]
theorem getI_some {xs : List α} {i : Int} (h0 : 0 ≤ i) (h : i < xs.length) : getI xs i = some (xs[i.toNat]'(by omega)) := by
  unfold getI
  rw [if_pos h0, List.getElem?_eq_getElem (by omega)]
theorem need_is {c : Prop} [Decidable c] (h : c) : need c = some () := by unfold need; rw [if_pos h]
@[simp] theorem optG_true [Inhabited α] (o : Option α) : optG true o = o := rfl
@[simp] theorem optG_false [Inhabited α] (o : Option α) : optG false o = some default := rfl
theorem wr_id {x : Int} (h1 : -9223372036854775808 ≤ x) (h2 : x ≤ 9223372036854775807) : wr x = x := wr_eq h1 h2
theorem wr_succ {n : Nat} (h : n < 9223372036854775807) : wr ((n : Int) + 1) = ((n + 1 : Nat) : Int) := by rw [wr_eq (by omega) (by omega)]; omega
theorem slc_all (xs : List α) : slc xs 0 xs.length = xs := by simp [slc]
theorem nilU_same {ρ : Type} [DecidableEq ρ] {xs : List α} {k : Bool → Option ρ} {r : ρ} (h1 : xs = [] → k true = some r) (h2 : k false = some r) : nilU xs k = some r := by
  unfold nilU
  split
  · rw [h1 rfl, h2]; simp
  · exact h2
end
end Go.AX
