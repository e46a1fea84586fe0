import Derived.Test.YtjkjoihlpnahdaaXFn
import Derived.Test.YtjkjoihlpnahdaaXN
/- What the library functions on slices of numbers compute. -/
namespace Go.AX
open Go.AM

def ixOf : Option Nat → Int
  | some i => i
  | none => -1

theorem x_IndexFunc (s : List Int) (p : Int → Bool) (hs : s.length ≤ 4000000000000000000) : X.slices_IndexFunc_Lint_int s (fun a => some (p a)) = some (ixOf (s.findIdx? p)) := by
  unfold X.slices_IndexFunc_Lint_int
  have key : run (X.slices_IndexFunc_Lint_int_s6 s (fun a => some (p a))) (0 : Int) = some (match s.findIdx? p with | some i => .inr (i : Int) | none => .inl ()) := by
    refine run_is _ (fun x : Int => ∃ n : Nat, x = (n : Int) ∧ n ≤ s.length ∧ ∀ j (hj : j < s.length), j < n → p s[j] = false) (fun x : Int => s.length - x.toNat) ⟨0, rfl, by omega, fun j hj h => by omega⟩ (by omega) ?_
    rintro x ⟨n, rfl, hn, hp⟩
    unfold X.slices_IndexFunc_Lint_int_s6
    by_cases h : n < s.length
    · rw [if_pos (by simpa using h), getI_nat h]
      simp only [Option.bind_some]
      cases hq : p s[n] with
      | true =>
        right
        have : s.findIdx? p = some n := by
          rw [List.findIdx?_eq_some_iff_getElem]
          exact ⟨h, hq, fun j hj => by simp [hp j (by omega) hj]⟩
        simp [this]
      | false =>
        left
        refine ⟨((n + 1 : Nat) : Int), by simp [wr_succ (n := n) (by omega)], ⟨n + 1, rfl, by omega, fun j hj h => ?_⟩, by omega⟩
        rcases Nat.lt_succ_iff_lt_or_eq.1 h with h | rfl
        · exact hp j hj h
        · exact hq
    · rw [if_neg (by simpa using h)]
      right
      have : s.findIdx? p = none := by
        rw [List.findIdx?_eq_none_iff]
        intro x hx
        obtain ⟨j, hj, rfl⟩ := List.getElem_of_mem hx
        exact hp j hj (by omega)
      simp [this]
  rw [key]
  cases s.findIdx? p <;> simp [ixOf, X.slices_IndexFunc_Lint_int_e6]

theorem x_Index (s : List Int) (v : Int) (hs : s.length ≤ 4000000000000000000) : X.slices_Index_Lint_int s v = some (ixOf (s.findIdx? (v == ·))) := by
  unfold X.slices_Index_Lint_int
  have key : run (X.slices_Index_Lint_int_s6 s v) (0 : Int) = some (match s.findIdx? (v == ·) with | some i => .inr (i : Int) | none => .inl ()) := by
    refine run_is _ (fun x : Int => ∃ n : Nat, x = (n : Int) ∧ n ≤ s.length ∧ ∀ j (hj : j < s.length), j < n → (v == s[j]) = false) (fun x : Int => s.length - x.toNat) ⟨0, rfl, by omega, fun j hj h => by omega⟩ (by omega) ?_
    rintro x ⟨n, rfl, hn, hp⟩
    unfold X.slices_Index_Lint_int_s6
    by_cases h : n < s.length
    · rw [if_pos (by simpa using h), getI_nat h]
      simp only [Option.bind_some]
      cases hq : (v == s[n]) with
      | true =>
        right
        have : s.findIdx? (v == ·) = some n := by
          rw [List.findIdx?_eq_some_iff_getElem]
          exact ⟨h, hq, fun j hj => by simpa using hp j (by omega) hj⟩
        simp [this]
      | false =>
        left
        refine ⟨((n + 1 : Nat) : Int), by simp [wr_succ (n := n) (by omega)], ⟨n + 1, rfl, by omega, fun j hj h => ?_⟩, by omega⟩
        rcases Nat.lt_succ_iff_lt_or_eq.1 h with h | rfl
        · exact hp j hj h
        · exact hq
    · rw [if_neg (by simpa using h)]
      right
      have : s.findIdx? (v == ·) = none := by
        rw [List.findIdx?_eq_none_iff]
        intro x hx
        obtain ⟨j, hj, rfl⟩ := List.getElem_of_mem hx
        exact hp j hj (by omega)
      simp [this]
  rw [key]
  cases s.findIdx? (v == ·) <;> simp [ixOf, X.slices_Index_Lint_int_e6]

theorem x_Contains (s : List Int) (v : Int) (hs : s.length ≤ 4000000000000000000) : X.slices_Contains_Lint_int s v = some (decide (v ∈ s)) := by
  unfold X.slices_Contains_Lint_int
  rw [x_Index s v hs]
  simp only [Option.bind_some, Option.some.injEq, decide_eq_decide]
  cases h : s.findIdx? (v == ·) with
  | none =>
    rw [List.findIdx?_eq_none_iff] at h
    simp only [ixOf]
    constructor
    · intro h2; omega
    · intro h2; have := h v h2; simp at this
  | some i =>
    rw [List.findIdx?_eq_some_iff_getElem] at h
    obtain ⟨h1, h2, _⟩ := h
    simp only [ixOf]
    constructor
    · intro _; have : v = s[i] := by simpa using h2
      rw [this]; exact List.getElem_mem h1
    · intro _; omega

/-- What stands behind the part that has been gone through. -/
theorem x_DeleteFunc (s : List Int) (p : Int → Bool) (hs : s.length ≤ 4000000000000000000) : X.slices_DeleteFunc_Lint_int (fun a => some (p a)) s = some (s.filter fun a => !p a) := by
  unfold X.slices_DeleteFunc_Lint_int
  rw [x_IndexFunc s p hs]
  simp only [Option.bind_some]
  cases h : s.findIdx? p with
  | none =>
    rw [if_pos (by rfl)]
    rw [List.findIdx?_eq_none_iff] at h
    rw [List.filter_eq_self.2 (fun a ha => by simp [h a ha])]
  | some n =>
    rw [List.findIdx?_eq_some_iff_getElem] at h
    obtain ⟨hn, hpn, hlt⟩ := h
    rw [if_neg (by simp [ixOf])]
    simp only [ixOf]
    rw [wr_succ (by omega)]
    -- the loop
    have key : ∃ r : List Int × Int, run (X.slices_DeleteFunc_Lint_int_s12 (fun a => some (p a))) (s, (n : Int), ((n + 1 : Nat) : Int)) = some r ∧
        ∃ i : Nat, r.2 = (i : Int) ∧ r.1.length = s.length ∧ i < s.length ∧ r.1.take i = s.filter fun a => !p a := by
      refine run_inv (fun x : List Int × Int × Int => ∃ i j : Nat, x.2.1 = (i : Int) ∧ x.2.2 = (j : Int) ∧ i < j ∧ j ≤ s.length ∧ x.1.length = s.length ∧ x.1.take i = (s.take j).filter (fun a => !p a) ∧ x.1.drop j = s.drop j) _ (fun x => s.length - x.2.2.toNat)
        ⟨n, n + 1, rfl, rfl, by omega, by omega, rfl, ?_, rfl⟩ (by omega) ?_
      · rw [List.take_succ_eq_append_getElem hn, List.filter_append]
        simp only [List.filter_cons, hpn, List.filter_nil, Bool.not_true, Bool.false_eq_true, if_false, List.append_nil]
        rw [List.filter_eq_self.2]
        intro a ha
        obtain ⟨j, hj, rfl⟩ := List.getElem_of_mem ha
        simp only [List.length_take] at hj
        rw [List.getElem_take]
        simpa using hlt j (by omega)
      · rintro ⟨l, i', j'⟩ ⟨i, j, rfl, rfl, hij, hj, hl, h1, h2⟩
        simp only at hl h1 h2
        unfold X.slices_DeleteFunc_Lint_int_s12
        simp only
        by_cases hjl : j < s.length
        · rw [if_pos (by simp [hl, hjl]), getI_nat (by omega)]
          have hlj : l[j]'(by omega) = s[j] := by
            have := congrArg (fun x => x[0]?) h2
            simpa [List.getElem?_drop, hjl, hl] using this
          have hd : l.drop (j + 1) = s.drop (j + 1) := by
            rw [← List.drop_drop, ← List.drop_drop, h2]
          simp only [Option.bind_some, hlj]
          left
          cases hq : p s[j] with
          | true =>
            refine ⟨(l, (i : Int), ((j + 1 : Nat) : Int)), by simp [X.slices_DeleteFunc_Lint_int_j27, wr_succ (n := j) (by omega)], ⟨i, j + 1, rfl, rfl, by omega, by omega, hl, ?_, hd⟩, by simp; omega⟩
            rw [h1, List.take_succ_eq_append_getElem hjl, List.filter_append]
            simp [hq]
          | false =>
            refine ⟨(l.set i s[j], ((i + 1 : Nat) : Int), ((j + 1 : Nat) : Int)), ?_, ⟨i + 1, j + 1, rfl, rfl, by omega, by omega, by simp [hl], ?_, ?_⟩, by simp; omega⟩
            · rw [if_pos (by simp), getI_nat (by omega : i < l.length)]
              simp [X.slices_DeleteFunc_Lint_int_j27, wr_succ (n := j) (by omega), wr_succ (n := i) (by omega)]
            · rw [List.take_succ_eq_append_getElem (by simp; omega), List.take_set_of_le (by omega), h1, List.take_succ_eq_append_getElem hjl, List.filter_append]
              simp [hq]
            · rw [List.drop_set_of_lt (by omega), hd]
        · right
          rw [if_neg (by simp [hl]; omega)]
          have : j = s.length := by omega
          subst this
          exact ⟨_, rfl, i, rfl, hl, by omega, by rw [h1]; simp⟩
    obtain ⟨⟨l, i'⟩, h1, i, rfl, hl, hi, ht⟩ := key
    simp only at hl ht
    rw [h1]
    simp only [Option.bind_some]
    unfold X.slices_DeleteFunc_Lint_int_e12
    have hb : 0 ≤ (i : Int) ∧ (i : Int) ≤ (l.length : Int) ∧ (l.length : Int) ≤ l.length := by omega
    have hc := clr_len (z := (0 : Int)) hb
    rw [need_is ⟨hb, by omega⟩]
    simp only [Option.bind_some]
    rw [need_is ⟨by omega, by omega⟩]
    simp only [Option.bind_some, Option.some.injEq]
    rw [← ht]
    simp only [slc, clr, Int.toNat_zero, List.drop_zero, Int.sub_zero, Int.toNat_natCast]
    rw [List.append_assoc, List.take_append_of_le_length (by simp; omega), List.take_take]
    simp
end Go.AX
