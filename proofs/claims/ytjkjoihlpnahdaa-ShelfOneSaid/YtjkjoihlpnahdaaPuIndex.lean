import Derived.Test.YtjkjoihlpnahdaaXFn
import Derived.Test.YtjkjoihlpnahdaaXN
/- What the library functions on slices of numbers compute: where a number stands, whether it stands there. -/
namespace Go.AX
open Go.AM

def ixOf : Option Nat → Int
  | some i => i
  | none => -1

theorem x_Index (s : List Int) (v : Int) (hs : s.length ≤ 4000000000000000000) : X.slices_Index_Lint_int s v = some (ixOf (s.findIdx? (v == ·))) := by
  unfold X.slices_Index_Lint_int
  have key : run (X.slices_Index_Lint_int_s6 s v) (0 : Int) = some (match s.findIdx? (v == ·) with | some i => .inr (i : Int) | none => .inl ()) := by
    refine run_is _ (fun x : Int => ∃ n : Nat, x = (n : Int) ∧ n ≤ s.length ∧ ∀ j (hj : j < s.length), j < n → (v == s[j]) = false) (fun x : Int => s.length - x.toNat) ⟨0, rfl, by omega, fun j hj h => by omega⟩ (by omega) ?_
    rintro x ⟨n, rfl, hn, hp⟩
    unfold X.slices_Index_Lint_int_s6
    by_cases h : n < s.length
    · rw [if_pos (by simpa using h), getI_nat h]
      simp only [Option.bind_some]
      cases hq : (v == s[n]) with
      | true =>
        right
        have : s.findIdx? (v == ·) = some n := by
          rw [List.findIdx?_eq_some_iff_getElem]
          exact ⟨h, hq, fun j hj => by simpa using hp j (by omega) hj⟩
        simp [this]
      | false =>
        left
        refine ⟨((n + 1 : Nat) : Int), by simp [wr_succ (n := n) (by omega)], ⟨n + 1, rfl, by omega, fun j hj h => ?_⟩, by omega⟩
        rcases Nat.lt_succ_iff_lt_or_eq.1 h with h | rfl
        · exact hp j hj h
        · exact hq
    · rw [if_neg (by simpa using h)]
      right
      have : s.findIdx? (v == ·) = none := by
        rw [List.findIdx?_eq_none_iff]
        intro x hx
        obtain ⟨j, hj, rfl⟩ := List.getElem_of_mem hx
        exact hp j hj (by omega)
      simp [this]
  rw [key]
  cases s.findIdx? (v == ·) <;> simp [ixOf, X.slices_Index_Lint_int_e6]

theorem x_Contains (s : List Int) (v : Int) (hs : s.length ≤ 4000000000000000000) : X.slices_Contains_Lint_int s v = some (decide (v ∈ s)) := by
  unfold X.slices_Contains_Lint_int
  rw [x_Index s v hs]
  simp only [Option.bind_some, Option.some.injEq, decide_eq_decide]
  cases h : s.findIdx? (v == ·) with
  | none =>
    rw [List.findIdx?_eq_none_iff] at h
    simp only [ixOf]
    constructor
    · intro h2; omega
    · intro h2; have := h v h2; simp at this
  | some i =>
    rw [List.findIdx?_eq_some_iff_getElem] at h
    obtain ⟨h1, h2, _⟩ := h
    simp only [ixOf]
    constructor
    · intro _; have : v = s[i] := by simpa using h2
      rw [this]; exact List.getElem_mem h1
    · intro _; omega
end Go.AX
