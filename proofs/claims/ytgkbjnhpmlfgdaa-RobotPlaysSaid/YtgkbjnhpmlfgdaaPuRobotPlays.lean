import Derived.Test.YtgkbjnhpmlfgdaaXFn
import Derived.Test.YtgkbjnhpmlfgdaaXN
/- Plain laws of counting loops and of lists that are filled place by place. -/
namespace Go.AX

theorem iter_more {σ ρ : Type} {f : σ → Option (σ ⊕ ρ)} : ∀ {n : Nat} {s : σ} {r : ρ} (k : Nat), iter f n s = some r → iter f (n + k) s = some r
  | 0, _, _, _, h => by simp [iter] at h
  | n + 1, s, r, k, h => by
    rw [Nat.add_right_comm]
    simp only [iter] at h ⊢
    cases hs : f s with
    | none => rw [hs] at h; cases h
    | some q =>
      rw [hs] at h
      cases q with
      | inl s' => exact iter_more k h
      | inr r' => exact h
theorem run_few {σ ρ : Type} {f : σ → Option (σ ⊕ ρ)} {s : σ} {r : ρ} (n : Nat) (hn : n ≤ 1000000) (h : iter f n s = some r) : run f s = some r := by
  unfold run
  rw [FUEL_eq, show (4611686018427387904 : Nat) = n + (4611686018427387904 - n) from by omega]
  exact iter_more _ h

/-- A loop over numbers. -/
theorem run_ix {σ ρ : Type} {f : σ × Int → Option ((σ × Int) ⊕ ρ)} {s0 : σ} {a n : Nat} (I : Nat → σ → Prop) (R : ρ → Prop) (han : a ≤ n) (hn : n ≤ 4000000000000000000) (h0 : I a s0)
    (step : ∀ i s, a ≤ i → i < n → I i s → (∃ s', f (s, (i : Int)) = some (.inl (s', ((i + 1 : Nat) : Int))) ∧ I (i + 1) s') ∨ ∃ r, f (s, (i : Int)) = some (.inr r) ∧ R r)
    (fin : ∀ s, I n s → ∃ r, f (s, (n : Int)) = some (.inr r) ∧ R r) : ∃ r, run f (s0, (a : Int)) = some r ∧ R r := by
  refine run_inv (fun p => ∃ i : Nat, p.2 = (i : Int) ∧ a ≤ i ∧ i ≤ n ∧ I i p.1) R (fun p => n - p.2.toNat) ⟨a, rfl, Nat.le_refl _, han, h0⟩ (by simp only; omega) ?_
  rintro ⟨s, x⟩ ⟨i, rfl, hai, hin, hI⟩
  rcases Nat.lt_or_ge i n with hlt | hge
  · rcases step i s hai hlt hI with ⟨s', h1, h2⟩ | h
    · exact .inl ⟨_, h1, ⟨i + 1, rfl, by omega, by omega, h2⟩, by simp only; omega⟩
    · exact .inr h
  · have : i = n := by omega
    subst this
    exact .inr (fin s hI)
/-- A loop over numbers, told as a function of them. -/
theorem run_G {σ ρ : Type} {f : σ × Int → Option ((σ × Int) ⊕ ρ)} (G : Nat → σ) {s0 : σ} {a n : Nat} {r : ρ} (han : a ≤ n) (hn : n ≤ 4000000000000000000) (h0 : s0 = G a)
    (step : ∀ i, a ≤ i → i < n → f (G i, (i : Int)) = some (.inl (G (i + 1), ((i + 1 : Nat) : Int)))) (fin : f (G n, (n : Int)) = some (.inr r)) : run f (s0, (a : Int)) = some r := by
  obtain ⟨r', h1, h2⟩ := run_ix (f := f) (s0 := s0) (a := a) (n := n) (fun i s => s = G i) (fun x => x = r) han hn h0 (fun i s hi hlt e => .inl ⟨_, by rw [e]; exact step i hi hlt, rfl⟩) (fun s e => ⟨r, by rw [e]; exact fin, rfl⟩)
  rw [h1, h2]
theorem run_G0 {σ ρ : Type} {f : σ × Int → Option ((σ × Int) ⊕ ρ)} (G : Nat → σ) {s0 : σ} {n : Nat} {r : ρ} (hn : n ≤ 4000000000000000000) (h0 : s0 = G 0)
    (step : ∀ i, i < n → f (G i, (i : Int)) = some (.inl (G (i + 1), ((i + 1 : Nat) : Int)))) (fin : f (G n, (n : Int)) = some (.inr r)) : run f (s0, (0 : Int)) = some r :=
  run_G (a := 0) G (Nat.zero_le _) hn h0 (fun i _ h => step i h) fin
theorem run_ix0 {σ ρ : Type} {f : σ × Int → Option ((σ × Int) ⊕ ρ)} {s0 : σ} {n : Nat} (I : Nat → σ → Prop) (R : ρ → Prop) (hn : n ≤ 4000000000000000000) (h0 : I 0 s0)
    (step : ∀ i s, i < n → I i s → (∃ s', f (s, (i : Int)) = some (.inl (s', ((i + 1 : Nat) : Int))) ∧ I (i + 1) s') ∨ ∃ r, f (s, (i : Int)) = some (.inr r) ∧ R r)
    (fin : ∀ s, I n s → ∃ r, f (s, (n : Int)) = some (.inr r) ∧ R r) : ∃ r, run f (s0, (0 : Int)) = some r ∧ R r :=
  run_ix (a := 0) I R (Nat.zero_le _) hn h0 (fun i s _ h k => step i s h k) fin
/-- A search over numbers, without other state. -/
theorem run_se {ρ : Type} {f : Int → Option (Int ⊕ ρ)} {a n : Nat} (R : ρ → Prop) (I : Nat → Prop) (han : a ≤ n) (hn : n ≤ 4000000000000000000) (h0 : I a)
    (step : ∀ i, a ≤ i → i < n → I i → (f (i : Int) = some (.inl ((i + 1 : Nat) : Int)) ∧ I (i + 1)) ∨ ∃ r, f (i : Int) = some (.inr r) ∧ R r)
    (fin : I n → ∃ r, f (n : Int) = some (.inr r) ∧ R r) : ∃ r, run f (a : Int) = some r ∧ R r := by
  refine run_inv (fun x => ∃ i : Nat, x = (i : Int) ∧ a ≤ i ∧ i ≤ n ∧ I i) R (fun x => n - x.toNat) ⟨a, rfl, Nat.le_refl _, han, h0⟩ (by omega) ?_
  rintro x ⟨i, rfl, hai, hin, hI⟩
  rcases Nat.lt_or_ge i n with hlt | hge
  · rcases step i hai hlt hI with ⟨h1, h2⟩ | h
    · exact .inl ⟨_, h1, ⟨i + 1, rfl, by omega, by omega, h2⟩, by omega⟩
    · exact .inr h
  · have : i = n := by omega
    subst this
    exact .inr (fin hI)

theorem run_seE {ρ : Type} {f : Int → Option (Int ⊕ ρ)} {a n : Nat} {r : ρ} (I : Nat → Prop) (han : a ≤ n) (hn : n ≤ 4000000000000000000) (h0 : I a)
    (step : ∀ i, a ≤ i → i < n → I i → (f (i : Int) = some (.inl ((i + 1 : Nat) : Int)) ∧ I (i + 1)) ∨ f (i : Int) = some (.inr r))
    (fin : I n → f (n : Int) = some (.inr r)) : run f (a : Int) = some r := by
  obtain ⟨r', h1, h2⟩ := run_se (f := f) (fun x => x = r) I han hn h0 (fun i h1 h2 h3 => (step i h1 h2 h3).imp id fun h => ⟨r, h, rfl⟩) (fun h => ⟨r, fin h, rfl⟩)
  rw [h1, h2]
theorem run_ixE {σ ρ : Type} {f : σ × Int → Option ((σ × Int) ⊕ ρ)} {s0 : σ} {n : Nat} {r : ρ} (I : Nat → σ → Prop) (hn : n ≤ 4000000000000000000) (h0 : I 0 s0)
    (step : ∀ i s, i < n → I i s → (∃ s', f (s, (i : Int)) = some (.inl (s', ((i + 1 : Nat) : Int))) ∧ I (i + 1) s') ∨ f (s, (i : Int)) = some (.inr r))
    (fin : ∀ s, I n s → f (s, (n : Int)) = some (.inr r)) : run f (s0, (0 : Int)) = some r := by
  obtain ⟨r', h1, h2⟩ := run_ix0 (f := f) (s0 := s0) I (fun x => x = r) hn h0 (fun i s h1 h2 => (step i s h1 h2).imp id fun h => ⟨r, h, rfl⟩) (fun s h => ⟨r, fin s h, rfl⟩)
  rw [h1, h2]

/-- A list told place by place. -/
def tab {α : Type} (n : Nat) (g : Nat → α) : List α := (List.range n).map g
section
variable {α : Type} {n : Nat} {g g' : Nat → α}
@[simp] theorem tab_len : (tab n g).length = n := by simp [tab]
theorem tab_get {i : Nat} (h : i < (tab n g).length) : (tab n g)[i] = g i := by simp [tab]
theorem tab_get? {i : Nat} (h : i < n) : (tab n g)[i]? = some (g i) := by simp [tab, h]
theorem tab_congr (h : ∀ i, i < n → g i = g' i) : tab n g = tab n g' := by
  unfold tab
  exact List.map_congr_left fun i hi => h i (List.mem_range.1 hi)
theorem tab_set {i : Nat} {y : α} : (tab n g).set i y = tab n (fun j => if j = i then y else g j) := by
  apply List.ext_getElem (by simp)
  intro j h1 h2
  rw [List.getElem_set, tab_get (by simpa using h2), tab_get h2]
  by_cases hij : i = j
  · rw [if_pos hij, if_pos hij.symm]
  · rw [if_neg hij, if_neg fun e => hij e.symm]
theorem tab_rep {z : α} : List.replicate n z = tab n (fun _ => z) := by
  apply List.ext_getElem?
  intro j
  by_cases hj : j < n <;> simp [tab, hj]
theorem getI_tab {i : Nat} (h : i < n) : getI (tab n g) (i : Int) = some (g i) := by rw [getI_nat (by simpa using h), tab_get]
theorem tab_succ : tab (n + 1) g = tab n g ++ [g n] := by simp [tab, List.range_succ]
theorem tab_zero : tab 0 g = [] := rfl
theorem tab_all (z : α) (xs : List α) : xs = tab xs.length (fun j => xs.getD j z) := by
  apply List.ext_getElem?
  intro j
  by_cases hj : j < xs.length
  · rw [tab_get? hj, List.getElem?_eq_getElem hj]; simp [List.getD_eq_getElem?_getD, hj]
  · rw [List.getElem?_eq_none (by omega), List.getElem?_eq_none (by simp; omega)]
theorem tab_getD {i : Nat} {z : α} : (tab n g).getD i z = if i < n then g i else z := by
  by_cases h : i < n
  · simp [tab, h, List.getD_eq_getElem?_getD]
  · rw [if_neg h, List.getD_eq_getElem?_getD, List.getElem?_eq_none (by simp; omega)]; rfl
theorem mem_tab {x : α} : x ∈ tab n g ↔ ∃ i, i < n ∧ g i = x := by simp [tab]
theorem getI_getD {xs : List α} (z : α) {i : Nat} (h : i < xs.length) : getI xs (i : Int) = some (xs.getD i z) := by
  rw [getI_nat h]; simp [List.getD_eq_getElem?_getD, h]
theorem set_getD {xs : List α} {z : α} {i j : Nat} {y : α} (h : i < xs.length) : (xs.set i y).getD j z = if j = i then y else xs.getD j z := by
  simp only [List.getD_eq_getElem?_getD, List.getElem?_set]
  by_cases e : i = j
  · subst e; simp [h]
  · rw [if_neg e, if_neg fun h : j = i => e h.symm]
theorem list_ext_getD (z : α) {xs ys : List α} (hl : xs.length = ys.length) (h : ∀ i, i < xs.length → xs.getD i z = ys.getD i z) : xs = ys := by
  rw [tab_all z xs, tab_all z ys, ← hl]
  exact tab_congr h
end
end Go.AX
/- What the library functions on slices of numbers compute. -/
namespace Go.AX
open Go.AM

def ixOf : Option Nat → Int
  | some i => i
  | none => -1

theorem x_IndexFunc (s : List Int) (p : Int → Bool) (hs : s.length ≤ 4000000000000000000) : X.slices_IndexFunc_Lint_int s (fun a => some (p a)) = some (ixOf (s.findIdx? p)) := by
  unfold X.slices_IndexFunc_Lint_int
  have key : run (X.slices_IndexFunc_Lint_int_s6 s (fun a => some (p a))) (0 : Int) = some (match s.findIdx? p with | some i => .inr (i : Int) | none => .inl ()) := by
    refine run_is _ (fun x : Int => ∃ n : Nat, x = (n : Int) ∧ n ≤ s.length ∧ ∀ j (hj : j < s.length), j < n → p s[j] = false) (fun x : Int => s.length - x.toNat) ⟨0, rfl, by omega, fun j hj h => by omega⟩ (by omega) ?_
    rintro x ⟨n, rfl, hn, hp⟩
    unfold X.slices_IndexFunc_Lint_int_s6
    by_cases h : n < s.length
    · rw [if_pos (by simpa using h), getI_nat h]
      simp only [Option.bind_some]
      cases hq : p s[n] with
      | true =>
        right
        have : s.findIdx? p = some n := by
          rw [List.findIdx?_eq_some_iff_getElem]
          exact ⟨h, hq, fun j hj => by simp [hp j (by omega) hj]⟩
        simp [this]
      | false =>
        left
        refine ⟨((n + 1 : Nat) : Int), by simp [wr_succ (n := n) (by omega)], ⟨n + 1, rfl, by omega, fun j hj h => ?_⟩, by omega⟩
        rcases Nat.lt_succ_iff_lt_or_eq.1 h with h | rfl
        · exact hp j hj h
        · exact hq
    · rw [if_neg (by simpa using h)]
      right
      have : s.findIdx? p = none := by
        rw [List.findIdx?_eq_none_iff]
        intro x hx
        obtain ⟨j, hj, rfl⟩ := List.getElem_of_mem hx
        exact hp j hj (by omega)
      simp [this]
  rw [key]
  cases s.findIdx? p <;> simp [ixOf, X.slices_IndexFunc_Lint_int_e6]

theorem x_Index (s : List Int) (v : Int) (hs : s.length ≤ 4000000000000000000) : X.slices_Index_Lint_int s v = some (ixOf (s.findIdx? (v == ·))) := by
  unfold X.slices_Index_Lint_int
  have key : run (X.slices_Index_Lint_int_s6 s v) (0 : Int) = some (match s.findIdx? (v == ·) with | some i => .inr (i : Int) | none => .inl ()) := by
    refine run_is _ (fun x : Int => ∃ n : Nat, x = (n : Int) ∧ n ≤ s.length ∧ ∀ j (hj : j < s.length), j < n → (v == s[j]) = false) (fun x : Int => s.length - x.toNat) ⟨0, rfl, by omega, fun j hj h => by omega⟩ (by omega) ?_
    rintro x ⟨n, rfl, hn, hp⟩
    unfold X.slices_Index_Lint_int_s6
    by_cases h : n < s.length
    · rw [if_pos (by simpa using h), getI_nat h]
      simp only [Option.bind_some]
      cases hq : (v == s[n]) with
      | true =>
        right
        have : s.findIdx? (v == ·) = some n := by
          rw [List.findIdx?_eq_some_iff_getElem]
          exact ⟨h, hq, fun j hj => by simpa using hp j (by omega) hj⟩
        simp [this]
      | false =>
        left
        refine ⟨((n + 1 : Nat) : Int), by simp [wr_succ (n := n) (by omega)], ⟨n + 1, rfl, by omega, fun j hj h => ?_⟩, by omega⟩
        rcases Nat.lt_succ_iff_lt_or_eq.1 h with h | rfl
        · exact hp j hj h
        · exact hq
    · rw [if_neg (by simpa using h)]
      right
      have : s.findIdx? (v == ·) = none := by
        rw [List.findIdx?_eq_none_iff]
        intro x hx
        obtain ⟨j, hj, rfl⟩ := List.getElem_of_mem hx
        exact hp j hj (by omega)
      simp [this]
  rw [key]
  cases s.findIdx? (v == ·) <;> simp [ixOf, X.slices_Index_Lint_int_e6]

theorem x_Contains (s : List Int) (v : Int) (hs : s.length ≤ 4000000000000000000) : X.slices_Contains_Lint_int s v = some (decide (v ∈ s)) := by
  unfold X.slices_Contains_Lint_int
  rw [x_Index s v hs]
  simp only [Option.bind_some, Option.some.injEq, decide_eq_decide]
  cases h : s.findIdx? (v == ·) with
  | none =>
    rw [List.findIdx?_eq_none_iff] at h
    simp only [ixOf]
    constructor
    · intro h2; omega
    · intro h2; have := h v h2; simp at this
  | some i =>
    rw [List.findIdx?_eq_some_iff_getElem] at h
    obtain ⟨h1, h2, _⟩ := h
    simp only [ixOf]
    constructor
    · intro _; have : v = s[i] := by simpa using h2
      rw [this]; exact List.getElem_mem h1
    · intro _; omega

/-- What stands behind the part that has been gone through. -/
theorem x_DeleteFunc (s : List Int) (p : Int → Bool) (hs : s.length ≤ 4000000000000000000) : X.slices_DeleteFunc_Lint_int (fun a => some (p a)) s = some (s.filter fun a => !p a) := by
  unfold X.slices_DeleteFunc_Lint_int
  rw [x_IndexFunc s p hs]
  simp only [Option.bind_some]
  cases h : s.findIdx? p with
  | none =>
    rw [if_pos (by rfl)]
    rw [List.findIdx?_eq_none_iff] at h
    rw [List.filter_eq_self.2 (fun a ha => by simp [h a ha])]
  | some n =>
    rw [List.findIdx?_eq_some_iff_getElem] at h
    obtain ⟨hn, hpn, hlt⟩ := h
    rw [if_neg (by simp [ixOf])]
    simp only [ixOf]
    rw [wr_succ (by omega)]
    -- the loop
    have key : ∃ r : List Int × Int, run (X.slices_DeleteFunc_Lint_int_s12 (fun a => some (p a))) (s, (n : Int), ((n + 1 : Nat) : Int)) = some r ∧
        ∃ i : Nat, r.2 = (i : Int) ∧ r.1.length = s.length ∧ i < s.length ∧ r.1.take i = s.filter fun a => !p a := by
      refine run_inv (fun x : List Int × Int × Int => ∃ i j : Nat, x.2.1 = (i : Int) ∧ x.2.2 = (j : Int) ∧ i < j ∧ j ≤ s.length ∧ x.1.length = s.length ∧ x.1.take i = (s.take j).filter (fun a => !p a) ∧ x.1.drop j = s.drop j) _ (fun x => s.length - x.2.2.toNat)
        ⟨n, n + 1, rfl, rfl, by omega, by omega, rfl, ?_, rfl⟩ (by omega) ?_
      · rw [List.take_succ_eq_append_getElem hn, List.filter_append]
        simp only [List.filter_cons, hpn, List.filter_nil, Bool.not_true, Bool.false_eq_true, if_false, List.append_nil]
        rw [List.filter_eq_self.2]
        intro a ha
        obtain ⟨j, hj, rfl⟩ := List.getElem_of_mem ha
        simp only [List.length_take] at hj
        rw [List.getElem_take]
        simpa using hlt j (by omega)
      · rintro ⟨l, i', j'⟩ ⟨i, j, rfl, rfl, hij, hj, hl, h1, h2⟩
        simp only at hl h1 h2
        unfold X.slices_DeleteFunc_Lint_int_s12
        simp only
        by_cases hjl : j < s.length
        · rw [if_pos (by simp [hl, hjl]), getI_nat (by omega)]
          have hlj : l[j]'(by omega) = s[j] := by
            have := congrArg (fun x => x[0]?) h2
            simpa [List.getElem?_drop, hjl, hl] using this
          have hd : l.drop (j + 1) = s.drop (j + 1) := by
            rw [← List.drop_drop, ← List.drop_drop, h2]
          simp only [Option.bind_some, hlj]
          left
          cases hq : p s[j] with
          | true =>
            refine ⟨(l, (i : Int), ((j + 1 : Nat) : Int)), by simp [X.slices_DeleteFunc_Lint_int_j27, wr_succ (n := j) (by omega)], ⟨i, j + 1, rfl, rfl, by omega, by omega, hl, ?_, hd⟩, by simp; omega⟩
            rw [h1, List.take_succ_eq_append_getElem hjl, List.filter_append]
            simp [hq]
          | false =>
            refine ⟨(l.set i s[j], ((i + 1 : Nat) : Int), ((j + 1 : Nat) : Int)), ?_, ⟨i + 1, j + 1, rfl, rfl, by omega, by omega, by simp [hl], ?_, ?_⟩, by simp; omega⟩
            · rw [if_pos (by simp), getI_nat (by omega : i < l.length)]
              simp [X.slices_DeleteFunc_Lint_int_j27, wr_succ (n := j) (by omega), wr_succ (n := i) (by omega)]
            · rw [List.take_succ_eq_append_getElem (by simp; omega), List.take_set_of_le (by omega), h1, List.take_succ_eq_append_getElem hjl, List.filter_append]
              simp [hq]
            · rw [List.drop_set_of_lt (by omega), hd]
        · right
          rw [if_neg (by simp [hl]; omega)]
          have : j = s.length := by omega
          subst this
          exact ⟨_, rfl, i, rfl, hl, by omega, by rw [h1]; simp⟩
    obtain ⟨⟨l, i'⟩, h1, i, rfl, hl, hi, ht⟩ := key
    simp only at hl ht
    rw [h1]
    simp only [Option.bind_some]
    unfold X.slices_DeleteFunc_Lint_int_e12
    have hb : 0 ≤ (i : Int) ∧ (i : Int) ≤ (l.length : Int) ∧ (l.length : Int) ≤ l.length := by omega
    have hc := clr_len (z := (0 : Int)) hb
    rw [need_is ⟨hb, by omega⟩]
    simp only [Option.bind_some]
    rw [need_is ⟨by omega, by omega⟩]
    simp only [Option.bind_some, Option.some.injEq]
    rw [← ht]
    simp only [slc, clr, Int.toNat_zero, List.drop_zero, Int.sub_zero, Int.toNat_natCast]
    rw [List.append_assoc, List.take_append_of_le_length (by simp; omega), List.take_take]
    simp
end Go.AX
/- The laws of the shelf, on what its functions compute. -/
namespace Go.AX
open Go.AM

theorem fi_none {s : List Int} {v : Int} (h : s.findIdx? (v == ·) = none) : v ∉ s := fun hv => by
  rw [List.findIdx?_eq_none_iff] at h
  have := h v hv
  simp at this
theorem fi_some {s : List Int} {v : Int} {n : Nat} (h : s.findIdx? (v == ·) = some n) : s[n]? = some v := by
  rw [List.findIdx?_eq_some_iff_getElem] at h
  obtain ⟨h1, h2, _⟩ := h
  rw [List.getElem?_eq_getElem h1]
  have : v = s[n] := by simpa using h2
  rw [this]
theorem fi_eq {s : List Int} {v : Int} {n : Nat} (h : s[n]? = some v) (hu : ∀ m, s[m]? = some v → m = n) : s.findIdx? (v == ·) = some n := by
  cases hf : s.findIdx? (v == ·) with
  | none => exact absurd (List.mem_of_getElem? h) (fi_none hf)
  | some m => rw [hu m (fi_some hf)]
theorem fi_out {s : List Int} {v : Int} (h : v ∉ s) : s.findIdx? (v == ·) = none := by
  cases hf : s.findIdx? (v == ·) with
  | none => rfl
  | some m => exact absurd (List.mem_of_getElem? (fi_some hf)) h

/-- Labels, where each stands, what each drive holds. -/
structure ShInv (L I D : List Int) : Prop where
  len : I.length = L.length
  small : L.length ≤ 1000000
  dsmall : D.length ≤ 1000000
  pos : ∀ (i : Nat) (v : Int), L[i]? = some v → 1 ≤ v
  inj : ∀ (i j : Nat) (v : Int), L[i]? = some v → L[j]? = some v → i = j
  dr : ∀ (d : Nat) (v : Int), D[d]? = some v → v = 0 ∨ ∃ i : Nat, L[i]? = some v ∧ I[i]? = some (d : Int)
  at_ : ∀ (i : Nat) (u : Int), I[i]? = some u → u = -1 ∨ ∃ d : Nat, u = (d : Int) ∧ ∃ v, D[d]? = some v ∧ L[i]? = some v

theorem ShInv.fi {L I D : List Int} (h : ShInv L I D) {n : Nat} {v : Int} (hn : L[n]? = some v) : L.findIdx? (v == ·) = some n := fi_eq hn fun m hm => h.inj m n v hm hn
theorem ShInv.ix {L I D : List Int} (h : ShInv L I D) {n : Nat} {v : Int} (hn : L[n]? = some v) : ∃ u, I[n]? = some u ∧ D.findIdx? (v == ·) = (if u = -1 then none else some u.toNat) ∧ (u = -1 ∨ 0 ≤ u) := by
  have hlt : n < I.length := by rw [h.len]; exact (List.getElem?_eq_some_iff.1 hn).1
  refine ⟨I[n], List.getElem?_eq_getElem hlt, ?_, ?_⟩
  · rcases h.at_ n _ (List.getElem?_eq_getElem hlt) with hu | ⟨d, hu, w, hd, hw⟩
    · rw [if_pos hu]
      apply fi_out
      intro hm
      obtain ⟨d, hd, hd2⟩ := List.getElem_of_mem hm
      rcases h.dr d v (by rw [List.getElem?_eq_getElem hd, hd2]) with h0 | ⟨i, hi1, hi2⟩
      · have := h.pos n v hn; omega
      · obtain rfl := h.inj i n v hi1 hn
        rw [List.getElem?_eq_getElem hlt, hu] at hi2
        simp at hi2
    · rw [hn] at hw
      injection hw with hw
      subst hw
      rw [if_neg (by omega)]
      have : D.findIdx? (v == ·) = some d := by
        refine fi_eq hd fun m hm => ?_
        rcases h.dr m v hm with h0 | ⟨i, hi1, hi2⟩
        · have := h.pos n v hn; omega
        · obtain rfl := h.inj i n v hi1 hn
          rw [List.getElem?_eq_getElem hlt, hu] at hi2
          simp at hi2
          omega
      rw [this, hu]
      simp
  · rcases h.at_ n _ (List.getElem?_eq_getElem hlt) with hu | ⟨d, hu, _⟩
    · exact .inl hu
    · right; omega

def drv (L I : List Int) (v : Int) : Int := match L.findIdx? (v == ·) with
  | none => -1
  | some n => I.getD n (-1)
def mnt (D : List Int) (d : Int) : Int := if 0 ≤ d ∧ d < D.length then D.getD d.toNat 0 else 0
def mov (L I D : List Int) (v d : Int) : Int × List Int × List Int := match L.findIdx? (v == ·) with
  | none => (1, I, D)
  | some n => if 0 ≤ d ∧ d < D.length then (if 0 ≤ I.getD n (-1) ∨ D.getD d.toNat 0 ≠ 0 then (11, I, D) else (0, I.set n d, D.set d.toNat v)) else (1, I, D)
def bck (L I D : List Int) (d : Int) : Int × List Int × List Int := if 0 ≤ d ∧ d < D.length then (if D.getD d.toNat 0 = 0 then (11, I, D) else match L.findIdx? (D.getD d.toNat 0 == ·) with
  | none => (1, I, D)
  | some n => (0, I.set n (-1), D.set d.toNat 0)) else (1, I, D)

section
variable {L I D : List Int}
theorem mem_iff_fi (L : List Int) (v : Int) : v ∈ L ↔ L.findIdx? (v == ·) ≠ none := by
  constructor
  · intro h hn; exact fi_none hn h
  · intro h
    cases hf : L.findIdx? (v == ·) with
    | none => exact absurd hf h
    | some n => exact List.mem_of_getElem? (fi_some hf)
theorem x_is (h : ShInv L I D) (v : Int) : X.shelf_Shelf_is L D v = some (decide (v ∈ L)) := by
  unfold X.shelf_Shelf_is
  rw [x_Contains L v (by have := h.small; omega)]
  rfl
theorem x_Drive (h : ShInv L I D) (v : Int) : X.shelf_Shelf_Drive L D v = some (drv L I v) := by
  unfold X.shelf_Shelf_Drive drv
  rw [x_is h]
  simp only [Option.bind_some]
  cases hf : L.findIdx? (v == ·) with
  | none =>
    rw [if_pos (by simpa using fi_none hf)]
  | some n =>
    rw [if_neg (by simpa using List.mem_of_getElem? (fi_some hf)), x_Index D v (by have := h.dsmall; omega)]
    obtain ⟨u, h1, h2, h3⟩ := h.ix (fi_some hf)
    simp only [Option.bind_some, Option.some.injEq]
    rw [h2, List.getD_eq_getElem?_getD, h1]
    simp only [Option.getD_some]
    by_cases hu : u = -1
    · rw [if_pos hu, hu]; rfl
    · rw [if_neg hu]; simp only [ixOf]; omega
theorem x_drive (d : Int) : X.shelf_Shelf_drive L D d = some (decide (0 ≤ d ∧ d < D.length)) := by
  unfold X.shelf_Shelf_drive
  simp only [Option.some.injEq]
  rw [Bool.eq_iff_iff]
  simp
theorem x_Mounted (d : Int) : X.shelf_Shelf_Mounted L D d = some (mnt D d) := by
  unfold X.shelf_Shelf_Mounted mnt
  rw [x_drive]
  simp only [Option.bind_some]
  by_cases hd : 0 ≤ d ∧ d < D.length
  · rw [if_neg (by simpa using hd), if_pos hd, getI_some hd.1 hd.2]
    simp [List.getD_eq_getElem?_getD, List.getElem?_eq_getElem (show d.toNat < D.length by omega)]
  · rw [if_pos (by simp; omega), if_neg hd]
theorem getD_at {D : List Int} {d : Int} (hd : 0 ≤ d ∧ d < D.length) : getI D d = some (D.getD d.toNat 0) := by
  rw [getI_some hd.1 hd.2]
  simp [List.getD_eq_getElem?_getD, List.getElem?_eq_getElem (show d.toNat < D.length by omega)]
theorem x_Move (h : ShInv L I D) (v d : Int) : X.shelf_Shelf_Move v d L D = some ((mov L I D v d).1, (L, (mov L I D v d).2.2)) := by
  unfold X.shelf_Shelf_Move mov
  rw [x_is h, x_drive, x_Drive h]
  simp only [Option.bind_some]
  cases hf : L.findIdx? (v == ·) with
  | none =>
    have : decide (v ∈ L) = false := by simpa using fi_none hf
    rw [this]
    simp
  | some n =>
    have hm : decide (v ∈ L) = true := by simpa using List.mem_of_getElem? (fi_some hf)
    rw [hm]
    obtain ⟨u, h1, h2, h3⟩ := h.ix (fi_some hf)
    have hd : drv L I v = u := by unfold drv; rw [hf]; simp [List.getD_eq_getElem?_getD, h1]
    have hg : I.getD n (-1) = u := by simp [List.getD_eq_getElem?_getD, h1]
    simp only [Bool.not_true, Bool.not_false, optG_true, Option.bind_some, Bool.false_or, hd, hg]
    by_cases hr : 0 ≤ d ∧ d < D.length
    · rw [if_neg (by simpa using hr), if_pos hr, getD_at hr]
      rcases h3 with h3 | h3
      · subst h3
        simp only [bne_self_eq_false, Bool.not_false, optG_true, Option.bind_some, Bool.false_or]
        by_cases h0 : D.getD d.toNat 0 = 0
        · rw [if_neg (by simp only [h0]; simp), if_neg (by simp only [h0]; omega)]
        · rw [if_pos (by simpa using h0), if_pos (.inr h0)]
      · have : (u != (-1 : Int)) = true := by simp; omega
        rw [this]
        simp only [Bool.not_true, optG_false, Option.bind_some, Bool.true_or, if_true]
        rw [if_pos (.inl h3)]
    · rw [if_pos (by simp; omega), if_neg hr]
theorem x_Back (d : Int) (h : ShInv L I D) : X.shelf_Shelf_Back d L D = some ((bck L I D d).1, (L, (bck L I D d).2.2)) := by
  unfold X.shelf_Shelf_Back bck
  rw [x_drive]
  simp only [Option.bind_some]
  by_cases hr : 0 ≤ d ∧ d < D.length
  · rw [if_neg (by simpa using hr), if_pos hr, getD_at hr]
    simp only [Option.bind_some]
    by_cases h0 : D.getD d.toNat 0 = 0
    · rw [if_pos (by simpa using h0), if_pos h0]
    · rw [if_neg (by simpa using h0), if_neg h0]
      have hd : D[d.toNat]? = some (D.getD d.toNat 0) := by
        simp [List.getD_eq_getElem?_getD, List.getElem?_eq_getElem (show d.toNat < D.length by omega)]
      rcases h.dr _ _ hd with h1 | ⟨i, hi, _⟩
      · exact absurd h1 h0
      · rw [h.fi hi]
  · rw [if_pos (by simp; omega), if_neg hr]

theorem mov_inv (h : ShInv L I D) (v d : Int) : ShInv L (mov L I D v d).2.1 (mov L I D v d).2.2 := by
  unfold mov
  cases hf : L.findIdx? (v == ·) with
  | none => exact h
  | some n =>
    simp only
    obtain ⟨u, h1, _⟩ := h.ix (fi_some hf)
    have hn := fi_some hf
    simp only [List.getD_eq_getElem?_getD, h1, Option.getD_some]
    by_cases hr : 0 ≤ d ∧ d < D.length
    · rw [if_pos hr]
      by_cases hc : 0 ≤ u ∨ (D[d.toNat]?).getD 0 ≠ 0
      · rw [if_pos hc]; exact h
      · rw [if_neg hc]
        obtain ⟨hu, hd0⟩ := not_or.1 hc
        have hdl : d.toNat < D.length := by omega
        rw [List.getElem?_eq_getElem hdl] at hd0
        simp only [Option.getD_some, ne_eq, Classical.not_not] at hd0
        have hnl : n < I.length := (List.getElem?_eq_some_iff.1 h1).1
        refine ⟨by simp [h.len], h.small, by simpa using h.dsmall, h.pos, h.inj, fun d' w hw => ?_, fun i w hw => ?_⟩
        · rw [List.getElem?_set] at hw
          by_cases e : d.toNat = d'
          · rw [if_pos e, if_pos hdl] at hw
            injection hw with hw
            subst hw
            refine .inr ⟨n, hn, ?_⟩
            rw [List.getElem?_set, if_pos rfl, if_pos hnl]
            congr 1
            omega
          · rw [if_neg e] at hw
            rcases h.dr d' w hw with h0 | ⟨i, hi1, hi2⟩
            · exact .inl h0
            · refine .inr ⟨i, hi1, ?_⟩
              rw [List.getElem?_set, if_neg ?_]
              · exact hi2
              · rintro rfl
                rw [h1] at hi2
                injection hi2 with hi2
                omega
        · rw [List.getElem?_set] at hw
          by_cases e : n = i
          · subst e
            rw [if_pos rfl, if_pos hnl] at hw
            injection hw with hw
            subst hw
            refine .inr ⟨d.toNat, by omega, v, ?_, hn⟩
            rw [List.getElem?_set, if_pos rfl, if_pos hdl]
          · rw [if_neg e] at hw
            rcases h.at_ i w hw with h0 | ⟨d', hd', x, hx1, hx2⟩
            · exact .inl h0
            · refine .inr ⟨d', hd', x, ?_, hx2⟩
              rw [List.getElem?_set, if_neg ?_]
              · exact hx1
              · rintro rfl
                rw [List.getElem?_eq_getElem hdl, hd0] at hx1
                injection hx1 with hx1
                have := h.pos i x hx2
                omega
    · rw [if_neg hr]; exact h
theorem bck_inv (h : ShInv L I D) (d : Int) : ShInv L (bck L I D d).2.1 (bck L I D d).2.2 := by
  unfold bck
  by_cases hr : 0 ≤ d ∧ d < D.length
  · rw [if_pos hr]
    by_cases h0 : D.getD d.toNat 0 = 0
    · rw [if_pos h0]; exact h
    · rw [if_neg h0]
      have hdl : d.toNat < D.length := by omega
      have hd : D[d.toNat]? = some (D.getD d.toNat 0) := by
        simp [List.getD_eq_getElem?_getD, List.getElem?_eq_getElem hdl]
      rcases h.dr _ _ hd with h1 | ⟨n, hn, hni⟩
      · exact absurd h1 h0
      · rw [h.fi hn]
        have hnl : n < I.length := (List.getElem?_eq_some_iff.1 hni).1
        refine ⟨by simp [h.len], h.small, by simpa using h.dsmall, h.pos, h.inj, fun d' w hw => ?_, fun i w hw => ?_⟩
        · simp only at hw ⊢
          rw [List.getElem?_set] at hw
          by_cases e : d.toNat = d'
          · rw [if_pos e, if_pos hdl] at hw
            injection hw with hw
            exact .inl hw.symm
          · rw [if_neg e] at hw
            rcases h.dr d' w hw with h2 | ⟨i, hi1, hi2⟩
            · exact .inl h2
            · refine .inr ⟨i, hi1, ?_⟩
              rw [List.getElem?_set, if_neg ?_]
              · exact hi2
              · rintro rfl
                rw [hni] at hi2
                injection hi2 with hi2
                omega
        · simp only at hw ⊢
          rw [List.getElem?_set] at hw
          by_cases e : n = i
          · rw [if_pos e, if_pos hnl] at hw
            injection hw with hw
            exact .inl hw.symm
          · rw [if_neg e] at hw
            rcases h.at_ i w hw with h2 | ⟨d', hd', x, hx1, hx2⟩
            · exact .inl h2
            · refine .inr ⟨d', hd', x, ?_, hx2⟩
              rw [List.getElem?_set, if_neg ?_]
              · exact hx1
              · rintro rfl
                rw [hd] at hx1
                injection hx1 with hx1
                rw [hx1] at hn
                exact e (h.inj n i x hn hx2)
  · rw [if_neg hr]; exact h
end
end Go.AX
/- Making a shelf, on what its functions compute. -/
namespace Go.AX
open Go.AM

theorem x_Clone (s : List Int) (h : s.length ≤ 1000000) : X.slices_Clone_Lint_int s = some s := by
  unfold X.slices_Clone_Lint_int
  refine nilU_same (fun hs => by subst hs; rfl) ?_
  rw [if_neg (by simp), need_is (by omega)]
  rfl

/-- Labels that a shelf takes. -/
def goodL (L : List Int) : Prop := ∀ k (h : k < L.length), 1 ≤ L[k] ∧ L[k] ∉ L.take k

theorem goodL.inv {L : List Int} (h : goodL L) (hs : L.length ≤ 1000000) {n : Int} (hn : n ≤ 1000000) : ShInv L (List.replicate L.length (-1)) (List.replicate n.toNat 0) := by
  refine ⟨by simp, hs, by simp; omega, fun i v hv => ?_, fun i j v hi hj => ?_, fun d v hv => ?_, fun i u hu => ?_⟩
  · obtain ⟨h1, rfl⟩ := List.getElem?_eq_some_iff.1 hv
    exact (h i h1).1
  · obtain ⟨h1, e1⟩ := List.getElem?_eq_some_iff.1 hi
    obtain ⟨h2, e2⟩ := List.getElem?_eq_some_iff.1 hj
    have half : ∀ (i j : Nat) (h1 : i < L.length) (h2 : j < L.length), L[i] = L[j] → ¬ i < j := by
      intro i j h1 h2 e hij
      apply (h j h2).2
      rw [← e]
      rw [List.mem_iff_getElem?]
      exact ⟨i, by rw [List.getElem?_take, if_pos hij, List.getElem?_eq_getElem h1]⟩
    have := half i j h1 h2 (by rw [e1, e2])
    have := half j i h2 h1 (by rw [e1, e2])
    omega
  · rw [List.getElem?_replicate] at hv
    split at hv
    · injection hv with hv; exact .inl hv.symm
    · cases hv
  · rw [List.getElem?_replicate] at hu
    split at hu
    · injection hu with hu; exact .inl hu.symm
    · cases hu

theorem slc_take (L : List Int) (n : Nat) : slc L 0 (n : Int) = L.take n := by simp [slc]

theorem x_s9 (L : List Int) (hs : L.length ≤ 1000000) : (goodL L → run (X.shelf_New_s9 L) (0 : Int) = some (.inl ())) ∧ (¬ goodL L → run (X.shelf_New_s9 L) (0 : Int) = some (.inr (none, (1 : Int)))) := by
  have step : ∀ n : Nat, n < L.length → (∀ k (h : k < L.length), k < n → 1 ≤ L[k] ∧ L[k] ∉ L.take k) →
      (X.shelf_New_s9 L (n : Int) = some (.inl ((n + 1 : Nat) : Int)) ∧ (∀ k (h : k < L.length), k < n + 1 → 1 ≤ L[k] ∧ L[k] ∉ L.take k)) ∨ (X.shelf_New_s9 L (n : Int) = some (.inr (.inr (none, (1 : Int)))) ∧ ¬ goodL L) := by
    intro n hn hp
    have hc : X.shelf_New_s9 L (n : Int) = if L[n] < 1 ∨ L[n] ∈ L.take n then some (.inr (.inr (none, (1 : Int)))) else some (.inl ((n + 1 : Nat) : Int)) := by
      unfold X.shelf_New_s9
      rw [if_pos (by simpa using hn), getI_nat hn]
      simp only [Option.bind_some]
      by_cases h1 : L[n] < 1
      · have : decide (L[n] < (1 : Int)) = true := by simpa using h1
        rw [this, if_pos (.inl h1)]
        simp
      · have : decide (L[n] < (1 : Int)) = false := by simpa using h1
        rw [this]
        simp only [Bool.not_false, optG_true, Bool.false_or]
        rw [need_is (by omega), slc_take, x_Contains _ _ (by simp; omega)]
        simp only [Option.bind_some]
        by_cases h2 : L[n] ∈ L.take n
        · rw [if_pos (by simpa using h2), if_pos (.inr h2)]
        · rw [if_neg (by simpa using h2), if_neg (by simp [h1, h2]), wr_succ (by omega)]
    by_cases hb : L[n] < 1 ∨ L[n] ∈ L.take n
    · right
      refine ⟨by rw [hc, if_pos hb], fun hg => ?_⟩
      have := hg n hn
      rcases hb with hb | hb
      · omega
      · exact this.2 hb
    · left
      refine ⟨by rw [hc, if_neg hb], fun k hk hkn => ?_⟩
      rcases Nat.lt_succ_iff_lt_or_eq.1 hkn with hkn | rfl
      · exact hp k hk hkn
      · exact ⟨by have := fun h => hb (.inl h); omega, fun h => hb (.inr h)⟩
  have last : X.shelf_New_s9 L (L.length : Int) = some (.inr (.inl ())) := by
    unfold X.shelf_New_s9
    rw [if_neg (by simp)]
  refine ⟨fun hg => ?_, fun hg => ?_⟩
  all_goals
    refine run_is _ (fun x : Int => ∃ n : Nat, x = (n : Int) ∧ n ≤ L.length ∧ ∀ k (h : k < L.length), k < n → 1 ≤ L[k] ∧ L[k] ∉ L.take k) (fun x : Int => L.length - x.toNat) ⟨0, rfl, by omega, fun k hk h => by omega⟩ (by omega) ?_
    rintro x ⟨n, rfl, hn, hp⟩
    by_cases h : n < L.length
    · rcases step n h hp with ⟨h1, h2⟩ | ⟨h1, h2⟩
      · exact .inl ⟨_, h1, ⟨n + 1, rfl, by omega, h2⟩, by omega⟩
      · first | exact absurd hg h2 | exact .inr h1
    · have : n = L.length := by omega
      subst this
      first | exact .inr last | exact absurd (fun k hk => hp k hk hk) hg

/-- What a shelf is made of. -/
def okNew (L : List Int) (n : Int) : Prop := L.length ≤ 30 ∧ 1 ≤ n ∧ n ≤ 4 ∧ goodL L
theorem x_New_ok {L : List Int} {n : Int} (h : okNew L n) : X.shelf_New L n = some (some (L, List.replicate n.toNat 0), 0) := by
  obtain ⟨h1, h2, h3, h4⟩ := h
  unfold X.shelf_New
  rw [if_neg (by simp; omega), (x_s9 L (by omega)).1 h4]
  simp only [Option.bind_some]
  unfold X.shelf_New_e9
  rw [x_Clone L (by omega), need_is (by omega)]
  rfl
theorem x_New_no {L : List Int} {n : Int} (h : ¬ okNew L n) : X.shelf_New L n = some (none, 1) := by
  unfold X.shelf_New
  by_cases hc : L.length ≤ 30 ∧ 1 ≤ n ∧ n ≤ 4
  · rw [if_neg (by simp; omega), (x_s9 L (by omega)).2 (fun hg => h ⟨hc.1, hc.2.1, hc.2.2, hg⟩)]
    rfl
  · rw [if_pos (by simp; omega)]
theorem okNew.inv {L : List Int} {n : Int} (h : okNew L n) : ShInv L (List.replicate L.length (-1)) (List.replicate n.toNat 0) := h.2.2.2.inv (by have := h.1; omega) (by have := h.2.2.1; omega)

end Go.AX
/- What a robot does, step by step. -/
namespace Go.AX
open Go.AM

theorem bd_s {α β : Type} (a : α) (f : α → Option β) : (some a).bind f = f a := rfl
theorem wr_is {a : Nat} (h : a ≤ 4000000000000000000) : wr ((a : Int) + (1 : Int)) = ((a + 1 : Nat) : Int) := wr_succ (by omega)
section
variable {D : List Int} {p : Int → Bool}
theorem gD {i : Nat} (h : i < D.length) : D.getD i 0 = D[i] := by rw [List.getD_eq_getElem?_getD, List.getElem?_eq_getElem h]; rfl
theorem find_at {i : Nat} (hi : i < D.length) (h0 : ∀ j, j < i → p (D.getD j 0) = false) (h1 : p (D.getD i 0) = true) : D.find? p = some (D.getD i 0) := by
  rw [List.find?_eq_some_iff_getElem]
  refine ⟨h1, i, hi, (gD hi).symm, fun j hj => ?_⟩
  have := h0 j hj
  rw [gD (by omega)] at this
  rw [this]; rfl
theorem find_no (h : ∀ j, j < D.length → p (D.getD j 0) = false) : D.find? p = none := by
  rw [List.find?_eq_none]
  intro x hx
  obtain ⟨j, hj, rfl⟩ := List.getElem_of_mem hx
  rw [← gD hj, h j hj]; simp
theorem fix_at {i : Nat} (hi : i < D.length) (h0 : ∀ j, j < i → p (D.getD j 0) = false) (h1 : p (D.getD i 0) = true) : D.findIdx? p = some i := by
  rw [List.findIdx?_eq_some_iff_getElem]
  refine ⟨hi, by rw [← gD hi]; exact h1, fun j hj => ?_⟩
  rw [← gD (by omega), h0 j hj]; simp
theorem fix_no (h : ∀ j, j < D.length → p (D.getD j 0) = false) : D.findIdx? p = none := by
  rw [List.findIdx?_eq_none_iff]
  intro x hx
  obtain ⟨j, hj, rfl⟩ := List.getElem_of_mem hx
  rw [← gD hj, h j hj]
end

/-- Where labels are, which each drive has, who waits, which drives were filled. -/
structure RSt where
  I : List Int
  D : List Int
  line : List Int
  order : List Int
def rdy (D line : List Int) : Option Int := D.find? (fun n => n != 0 && decide (n ∈ line))
def emp (D : List Int) : Option Nat := D.findIdx? (fun n => n == 0)
def pickR (L : List Int) (s : RSt) : RSt := match emp s.D with
  | some i => ⟨(mov L s.I s.D (s.line.getD 0 0) i).2.1, (mov L s.I s.D (s.line.getD 0 0) i).2.2, s.line, s.order ++ [(i : Int)]⟩
  | none => ⟨(bck L s.I s.D (s.order.getD 0 0)).2.1, (bck L s.I s.D (s.order.getD 0 0)).2.2, s.line, s.order.drop 1⟩
def stepR (L : List Int) (s : RSt) (fail : Bool) : Bool × RSt :=
  if s.line = [] then (false, s) else match rdy s.D s.line with
    | some n => (true, ⟨s.I, s.D, s.line.filter (fun a => !(a == n)), s.order⟩)
    | none => if fail then (true, s) else (true, pickR L s)
/-- How a robot stands. -/
structure RInv (L : List Int) (n : Nat) (s : RSt) : Prop where
  sh : ShInv L s.I s.D
  dl : s.D.length = n
  n1 : 1 ≤ n
  n4 : n ≤ 4
  ll : ∀ v ∈ s.line, v ∈ L
  ls : s.line.length ≤ 1000000
  of : ∀ o ∈ s.order, 0 ≤ o ∧ o < s.D.length ∧ s.D.getD o.toNat 0 ≠ 0
  nd : s.order.Nodup
  oc : s.order.length + s.D.count 0 = s.D.length

section
variable {L : List Int} {n : Nat} {s : RSt}
theorem rdy_no (h : rdy s.D s.line = none) {k : Nat} (hk : k < s.D.length) (h0 : s.D.getD k 0 ≠ 0) : s.D.getD k 0 ∉ s.line := by
  intro hm
  unfold rdy at h
  rw [List.find?_eq_none] at h
  have := h _ (List.getElem_mem hk)
  rw [← gD hk] at this
  refine this ?_
  simp only [Bool.and_eq_true, bne_iff_ne, ne_eq, decide_eq_true_eq]
  exact ⟨h0, hm⟩
theorem rdy_is {v : Int} (h : rdy s.D s.line = some v) : v ≠ 0 ∧ v ∈ s.line ∧ ∃ k, k < s.D.length ∧ s.D.getD k 0 = v := by
  unfold rdy at h
  have h1 := List.find?_some h
  simp only [Bool.and_eq_true, bne_iff_ne, ne_eq, decide_eq_true_eq] at h1
  obtain ⟨k, hk, e⟩ := List.getElem_of_mem (List.mem_of_find?_eq_some h)
  exact ⟨h1.1, h1.2, k, hk, by rw [gD hk, e]⟩
theorem emp_is {i : Nat} (h : emp s.D = some i) : i < s.D.length ∧ s.D.getD i 0 = 0 := by
  unfold emp at h
  rw [List.findIdx?_eq_some_iff_getElem] at h
  obtain ⟨h1, h2, _⟩ := h
  exact ⟨h1, by rw [gD h1]; simpa using h2⟩
theorem emp_no (h : emp s.D = none) : s.D.count 0 = 0 := by
  unfold emp at h
  rw [List.findIdx?_eq_none_iff] at h
  rw [List.count_eq_zero]
  intro hm
  have := h _ hm
  simp at this
/-- What is moved into a drive. -/
theorem mov_is (h : RInv L n s) (hl : s.line ≠ []) (hr : rdy s.D s.line = none) {i : Nat} (he : emp s.D = some i) :
    ∃ k, mov L s.I s.D (s.line.getD 0 0) i = (0, s.I.set k i, s.D.set i (s.line.getD 0 0)) ∧ s.line.getD 0 0 ∈ s.line ∧ s.line.getD 0 0 ≠ 0 := by
  obtain ⟨e1, e2⟩ := emp_is he
  have hm : s.line.getD 0 0 ∈ s.line := by
    cases hc : s.line with
    | nil => exact absurd hc hl
    | cons a r => simp
  have hL := h.ll _ hm
  obtain ⟨k, hk, hke⟩ := List.getElem_of_mem hL
  have hk2 : L[k]? = some (s.line.getD 0 0) := by rw [List.getElem?_eq_getElem hk, hke]
  have hpos := h.sh.pos _ _ hk2
  obtain ⟨u, hu, _, _⟩ := h.sh.ix hk2
  refine ⟨k, ?_, hm, by omega⟩
  unfold mov
  rw [h.sh.fi hk2]
  simp only
  have hu1 : ¬ (0 ≤ s.I.getD k (-1)) := by
    rw [List.getD_eq_getElem?_getD, hu]
    rcases h.sh.at_ k u hu with rfl | ⟨d, rfl, w, hd, hw⟩
    · simp
    · exfalso
      rw [hk2] at hw
      injection hw with hw
      subst hw
      have hdl := (List.getElem?_eq_some_iff.1 hd).1
      have hdv : s.D.getD d 0 = s.line.getD 0 0 := by rw [List.getD_eq_getElem?_getD, hd]; rfl
      exact rdy_no hr hdl (by omega) (by rw [hdv]; exact hm)
  rw [if_pos ⟨by omega, by omega⟩, if_neg (by
    rintro (h1 | h1)
    · exact hu1 h1
    · exact h1 (by rw [Int.toNat_natCast]; exact e2)), Int.toNat_natCast]
/-- What is taken out of a drive. -/
theorem bck_is (h : RInv L n s) (he : emp s.D = none) : ∃ o r k, s.order = o :: r ∧ 0 ≤ o ∧ o < s.D.length ∧ s.D.getD o.toNat 0 ≠ 0 ∧ bck L s.I s.D (s.order.getD 0 0) = (0, s.I.set k (-1), s.D.set o.toNat 0) := by
  have h0 := emp_no he
  have hoc := h.oc
  have hdl := h.dl
  have hn1 := h.n1
  cases ho : s.order with
  | nil => rw [ho] at hoc; simp at hoc; omega
  | cons o r =>
    obtain ⟨o1, o2, o3⟩ := h.of o (by rw [ho]; simp)
    have hlt : o.toNat < s.D.length := by omega
    have hd : s.D[o.toNat]? = some (s.D.getD o.toNat 0) := by rw [gD hlt, List.getElem?_eq_getElem hlt]
    rcases h.sh.dr _ _ hd with h1 | ⟨k, hk, hki⟩
    · exact absurd h1 o3
    · refine ⟨o, r, k, rfl, o1, o2, o3, ?_⟩
      unfold bck
      show (if 0 ≤ o ∧ o < s.D.length then _ else _) = _
      rw [if_pos ⟨o1, o2⟩]
      show (if s.D.getD o.toNat 0 = 0 then _ else match L.findIdx? (s.D.getD o.toNat 0 == ·) with | none => _ | some n => _) = _
      rw [if_neg o3, h.sh.fi hk]; rfl

theorem count_put {D : List Int} {i : Nat} {v : Int} (hi : i < D.length) (h0 : D.getD i 0 = 0) (hv : v ≠ 0) : (D.set i v).count 0 + 1 = D.count 0 := by
  have hm : (0 : Int) ∈ D := by rw [← h0, gD hi]; exact List.getElem_mem hi
  have hpos := List.count_pos_iff.2 hm
  rw [List.count_set hi]
  rw [gD hi] at h0
  have : (v == 0) = false := by simpa using hv
  rw [h0, this]
  simp
  omega
theorem count_take {D : List Int} {i : Nat} (hi : i < D.length) (h0 : D.getD i 0 ≠ 0) : (D.set i 0).count 0 = D.count 0 + 1 := by
  rw [List.count_set hi]
  rw [gD hi] at h0
  have : (D[i] == 0) = false := by simpa using h0
  rw [this]
  simp
theorem setD {D : List Int} {i j : Nat} {v : Int} (h : i < D.length) : (D.set i v).getD j 0 = if j = i then v else D.getD j 0 := set_getD h

theorem pick_inv (h : RInv L n s) (hl : s.line ≠ []) (hr : rdy s.D s.line = none) : RInv L n (pickR L s) := by
  unfold pickR
  cases he : emp s.D with
  | some i =>
    obtain ⟨k, hk, hm, hv⟩ := mov_is h hl hr he
    have hinv := mov_inv h.sh (s.line.getD 0 0) i
    obtain ⟨e1, e2⟩ := emp_is he
    simp only
    rw [hk] at hinv ⊢
    simp only at hinv ⊢
    refine ⟨hinv, by simp [h.dl], h.n1, h.n4, h.ll, h.ls, fun o ho => ?_, ?_, ?_⟩
    · simp only [List.length_set]
      rw [setD e1]
      rcases List.mem_append.1 ho with ho | ho
      · obtain ⟨o1, o2, o3⟩ := h.of o ho
        refine ⟨o1, o2, ?_⟩
        split
        · exact hv
        · exact o3
      · obtain rfl := List.mem_singleton.1 ho
        exact ⟨by omega, by omega, by rw [if_pos (Int.toNat_natCast i)]; exact hv⟩
    · rw [List.nodup_append]
      refine ⟨h.nd, by simp, fun a ha b hb hab => ?_⟩
      obtain rfl := List.mem_singleton.1 hb
      subst hab
      obtain ⟨_, _, o3⟩ := h.of _ ha
      rw [Int.toNat_natCast] at o3
      exact o3 e2
    · have := count_put e1 e2 hv
      have := h.oc
      simp only [List.length_append, List.length_singleton, List.length_set]
      omega
  | none =>
    obtain ⟨o, r, k, ho, o1, o2, o3, hb⟩ := bck_is h he
    have hinv := bck_inv h.sh (s.order.getD 0 0)
    simp only
    rw [hb] at hinv ⊢
    simp only at hinv ⊢
    have hlt : o.toNat < s.D.length := by omega
    refine ⟨hinv, by simp [h.dl], h.n1, h.n4, h.ll, h.ls, fun q hq => ?_, ?_, ?_⟩
    · simp only [List.length_set]
      have hqr : q ∈ r := by rw [ho] at hq; exact hq
      obtain ⟨q1, q2, q3⟩ := h.of q (by rw [ho]; exact List.mem_cons_of_mem _ hqr)
      refine ⟨q1, q2, ?_⟩
      rw [setD hlt, if_neg ?_]
      · exact q3
      · intro e
        have hnd := h.nd
        rw [ho, List.nodup_cons] at hnd
        have : q = o := by omega
        exact hnd.1 (by rw [← this]; exact hqr)
    · have hnd := h.nd
      rw [ho] at hnd ⊢
      exact (List.nodup_cons.1 hnd).2
    · have := count_take hlt o3
      have hoc := h.oc
      rw [ho] at hoc ⊢
      simp only [List.drop_succ_cons, List.drop_zero, List.length_set, List.length_cons] at hoc ⊢
      omega
theorem step_inv (h : RInv L n s) (fail : Bool) : RInv L n (stepR L s fail).2 := by
  unfold stepR
  by_cases hl : s.line = []
  · rw [if_pos hl]; exact h
  · rw [if_neg hl]
    cases hr : rdy s.D s.line with
    | some v =>
      refine ⟨h.sh, h.dl, h.n1, h.n4, fun w hw => h.ll w (List.mem_filter.1 hw).1, Nat.le_trans (List.length_filter_le _ _) h.ls, h.of, h.nd, h.oc⟩
    | none =>
      simp only
      split
      · exact h
      · exact pick_inv h hl hr

/-! ### so many steps are left at most -/
def phi (s : RSt) : Nat := if s.line = [] then 0 else 3 * (s.line.length - 1) + (match rdy s.D s.line with | some _ => 1 | none => match emp s.D with | some _ => 2 | none => 3)
theorem phi_le (s : RSt) : phi s ≤ 3 * s.line.length := by
  unfold phi
  split
  · omega
  · rename_i hl
    have : 1 ≤ s.line.length := by
      cases hc : s.line with
      | nil => exact absurd hc hl
      | cons a r => simp
    have h3 : (match rdy s.D s.line with | some _ => 1 | none => match emp s.D with | some _ => 2 | none => 3) ≤ 3 := by
      split
      · omega
      · split <;> omega
    omega
theorem step_phi (h : RInv L n s) (hl : s.line ≠ []) : phi (stepR L s false).2 + 1 ≤ phi s ∧ (stepR L s false).2.line.length ≤ s.line.length := by
  have h1 : 1 ≤ s.line.length := by
    cases hc : s.line with
    | nil => exact absurd hc hl
    | cons a r => simp
  unfold stepR
  rw [if_neg hl]
  cases hr : rdy s.D s.line with
  | some v =>
    simp only
    have hp : phi s = 3 * (s.line.length - 1) + 1 := by unfold phi; rw [if_neg hl, hr]
    obtain ⟨_, hm, _⟩ := rdy_is hr
    have hlt : (s.line.filter (fun a => !(a == v))).length < s.line.length := by
      rw [List.length_filter_lt_length_iff_exists]
      exact ⟨v, hm, by simp⟩
    have := phi_le ⟨s.I, s.D, s.line.filter (fun a => !(a == v)), s.order⟩
    simp only at this
    omega
  | none =>
    simp only [Bool.false_eq_true, if_false]
    unfold pickR
    cases he : emp s.D with
    | some i =>
      obtain ⟨k, hk, hm, hv⟩ := mov_is h hl hr he
      obtain ⟨e1, e2⟩ := emp_is he
      simp only
      rw [hk]
      simp only
      have hp : phi s = 3 * (s.line.length - 1) + 2 := by unfold phi; rw [if_neg hl, hr, he]
      refine ⟨?_, Nat.le_refl _⟩
      have hr2 : ∃ w, rdy (s.D.set i (s.line.getD 0 0)) s.line = some w := by
        cases hq : rdy (s.D.set i (s.line.getD 0 0)) s.line with
        | some w => exact ⟨w, rfl⟩
        | none =>
          exfalso
          have := rdy_no (s := ⟨s.I, s.D.set i (s.line.getD 0 0), s.line, s.order⟩) hq (k := i) (by simpa using e1)
          simp only at this
          rw [setD e1, if_pos rfl] at this
          exact this hv hm
      obtain ⟨w, hw⟩ := hr2
      have : phi ⟨s.I.set k i, s.D.set i (s.line.getD 0 0), s.line, s.order ++ [(i : Int)]⟩ = 3 * (s.line.length - 1) + 1 := by
        unfold phi
        simp only
        rw [if_neg hl, hw]
      rw [this, hp]
      omega
    | none =>
      obtain ⟨o, r, k, ho, o1, o2, o3, hb⟩ := bck_is h he
      simp only
      rw [hb]
      simp only
      have hlt : o.toNat < s.D.length := by omega
      have hp : phi s = 3 * (s.line.length - 1) + 3 := by unfold phi; rw [if_neg hl, hr, he]
      refine ⟨?_, Nat.le_refl _⟩
      have he2 : ∃ w, emp (s.D.set o.toNat 0) = some w := by
        cases hq : emp (s.D.set o.toNat 0) with
        | some w => exact ⟨w, rfl⟩
        | none =>
          exfalso
          have := emp_no (s := ⟨s.I, s.D.set o.toNat 0, s.line, s.order⟩) hq
          have h3 := count_take hlt o3
          simp only at this
          omega
      obtain ⟨w, hw⟩ := he2
      rw [hp]
      unfold phi
      simp only
      rw [if_neg hl, hw]
      simp only
      split <;> omega
end
end Go.AX
/- The robot's functions do these steps. -/
namespace Go.AX
open Go.AM

/-- So many steps till nobody waits, and whether one of them was no serving. -/
inductive Runs (L : List Int) : RSt → Nat → Bool → RSt → Prop
  | done (s : RSt) (h : s.line = []) : Runs L s 0 false s
  | step (s s' : RSt) (k : Nat) (b : Bool) (h : s.line ≠ []) (r : Runs L (stepR L s false).2 k b s') : Runs L s (k + 1) (b || (rdy s.D s.line).isNone) s'
def cl (fails : Int) : Int := max 0 (min fails 1000)
theorem cl_is (f : Int) : 0 ≤ cl f ∧ cl f ≤ 1000 := by unfold cl; omega
section
variable {L : List Int} {n : Nat} {s : RSt}
theorem runs_ex : ∀ (m : Nat) {s : RSt}, phi s ≤ m → RInv L n s → ∃ k b s', Runs L s k b s' ∧ k ≤ phi s ∧ s'.line = [] ∧ RInv L n s' ∧ (s.line ≠ [] → 1 ≤ k)
  | m, s, hm, h => by
    by_cases hl : s.line = []
    · exact ⟨0, false, s, .done s hl, Nat.zero_le _, hl, h, fun hh => absurd hl hh⟩
    · obtain ⟨h1, h2⟩ := step_phi h hl
      match m, hm with
      | 0, hm => omega
      | m + 1, hm =>
        obtain ⟨k, b, s', r, hk, e, hi, _⟩ := runs_ex m (s := (stepR L s false).2) (by omega) (step_inv h false)
        exact ⟨k + 1, _, s', .step s s' k b hl r, by omega, e, hi, fun _ => by omega⟩

theorem x_Wants (h : RInv L n s) (v : Int) : X.mount_Line_Wants_in_Robot_robot L s.D (n : Int) L s.line s.order v = some (decide (v ∈ s.line)) := by
  unfold X.mount_Line_Wants_in_Robot_robot
  rw [x_Contains _ _ (by have := h.ls; omega)]; rfl
theorem mnt_at {D : List Int} {i : Nat} (h : i < D.length) : mnt D (i : Int) = D.getD i 0 := by
  unfold mnt
  rw [if_pos ⟨by omega, by omega⟩, Int.toNat_natCast]
theorem x_ready (h : RInv L n s) : X.robot_Robot_ready L s.D (n : Int) L s.line s.order = some (match rdy s.D s.line with | some v => (v, true) | none => (0, false)) := by
  unfold X.robot_Robot_ready
  have hdl := h.dl
  have hn4 := h.n4
  have key : run (X.robot_Robot_ready_s10 (n : Int) L s.D L s.line s.order) ((0 : Nat) : Int) = some (match rdy s.D s.line with | some v => .inr (v, true) | none => .inl ()) := by
    refine run_seE (n := n) (fun m => ∀ j, j < m → (s.D.getD j 0 != 0 && decide (s.D.getD j 0 ∈ s.line)) = false) (Nat.zero_le _) (by omega) (fun j hj => by omega) (fun i _ hi hI => ?_) (fun hI => ?_)
    · unfold X.robot_Robot_ready_s10
      simp only
      rw [if_pos (by simpa using hi), x_Mounted, bd_s, mnt_at (by omega)]
      by_cases h0 : s.D.getD i 0 = 0
      · left
        have b0 : (s.D.getD i 0 != 0) = false := by rw [h0]; rfl
        rw [b0]
        simp only [optG_false, bd_s, Bool.false_and, Bool.false_eq_true, if_false]
        rw [wr_is (by omega)]
        refine ⟨rfl, fun j hj => ?_⟩
        rcases Nat.lt_succ_iff_lt_or_eq.1 hj with hj | rfl
        · exact hI j hj
        · rw [b0]; rfl
      · have b0 : (s.D.getD i 0 != 0) = true := by simpa using h0
        rw [b0]
        simp only [optG_true, Bool.true_and]
        rw [x_Wants h, bd_s]
        by_cases hm : s.D.getD i 0 ∈ s.line
        · right
          rw [if_pos (by simpa using hm)]
          have : rdy s.D s.line = some (s.D.getD i 0) := find_at (by omega) hI (by rw [b0, decide_eq_true hm]; rfl)
          rw [this]
        · left
          rw [if_neg (by simpa using hm), wr_is (by omega)]
          refine ⟨rfl, fun j hj => ?_⟩
          rcases Nat.lt_succ_iff_lt_or_eq.1 hj with hj | rfl
          · exact hI j hj
          · rw [decide_eq_false hm, Bool.and_false]
    · unfold X.robot_Robot_ready_s10
      simp only
      have : rdy s.D s.line = none := find_no fun j hj => hI j (by omega)
      rw [if_neg (by simp), this]
  rw [show (0 : Int) = ((0 : Nat) : Int) from rfl, key, bd_s]
  cases rdy s.D s.line <;> rfl
theorem x_empty (h : RInv L n s) : X.robot_Robot_empty L s.D (n : Int) L s.line s.order = some (match emp s.D with | some i => ((i : Int), true) | none => (0, false)) := by
  unfold X.robot_Robot_empty
  have hdl := h.dl
  have hn4 := h.n4
  have key : run (X.robot_Robot_empty_s10 (n : Int) L s.D) ((0 : Nat) : Int) = some (match emp s.D with | some i => .inr ((i : Int), true) | none => .inl ()) := by
    refine run_seE (n := n) (fun m => ∀ j, j < m → (s.D.getD j 0 == 0) = false) (Nat.zero_le _) (by omega) (fun j hj => by omega) (fun i _ hi hI => ?_) (fun hI => ?_)
    · unfold X.robot_Robot_empty_s10
      simp only
      rw [if_pos (by simpa using hi), x_Mounted, bd_s, mnt_at (by omega)]
      by_cases h0 : s.D.getD i 0 = 0
      · right
        have : emp s.D = some i := fix_at (by omega) hI (by rw [h0]; rfl)
        rw [if_pos (by rw [h0]; rfl), this]
      · left
        have b0 : (s.D.getD i 0 == 0) = false := by simpa using h0
        rw [b0, if_neg (by simp), wr_is (by omega)]
        refine ⟨rfl, fun j hj => ?_⟩
        rcases Nat.lt_succ_iff_lt_or_eq.1 hj with hj | rfl
        · exact hI j hj
        · exact b0
    · unfold X.robot_Robot_empty_s10
      simp only
      have : emp s.D = none := fix_no fun j hj => hI j (by omega)
      rw [if_neg (by simp), this]
  rw [show (0 : Int) = ((0 : Nat) : Int) from rfl, key, bd_s]
  cases emp s.D <;> rfl
theorem head_is {l : List Int} (h : l ≠ []) : getI l (0 : Int) = some (l.getD 0 0) := by
  have : 0 < l.length := by
    cases l with
    | nil => exact absurd rfl h
    | cons a r => simp
  exact getI_getD 0 (i := 0) this
theorem drop_is {l : List Int} (h : 1 ≤ l.length) : slc l (1 : Int) (l.length : Int) = l.drop 1 := by
  unfold slc
  show (l.drop 1).take _ = _
  exact List.take_of_length_le (by rw [List.length_drop]; omega)
theorem x_pick (h : RInv L n s) (hl : s.line ≠ []) : X.robot_Robot_pick L s.D (n : Int) L s.line s.order = some (L, (pickR L s).D, (n : Int), L, s.line, (pickR L s).order) := by
  unfold X.robot_Robot_pick X.mount_Line_First_in_Robot_robot X.mount_Line_Len_in_Robot_robot
  have h0 : ((s.line.length : Int) == 0) = false := by
    cases hc : s.line with
    | nil => exact absurd hc hl
    | cons a r => simp; omega
  rw [bd_s, h0, if_neg (by simp), head_is hl]
  simp only [bd_s]
  rw [x_empty h, bd_s]
  unfold pickR
  have hoc := h.oc
  have hdl := h.dl
  have hn4 := h.n4
  cases he : emp s.D with
  | some i =>
    simp only [if_true]
    rw [x_Move h.sh, bd_s, need_is (by simp only [List.length_singleton]; omega), bd_s]
  | none =>
    obtain ⟨o, r, k, ho, _⟩ := bck_is h he
    have hne : s.order ≠ [] := by rw [ho]; simp
    have hl1 : 1 ≤ s.order.length := by rw [ho]; simp
    simp only [Bool.false_eq_true, if_false]
    rw [head_is hne, bd_s, x_Back _ h.sh, bd_s, need_is (by omega), bd_s, drop_is hl1]
theorem x_LineServe (h : RInv L n s) (v : Int) (hl : s.line ≠ []) : ∃ c, X.mount_Line_Serve_in_Robot_robot v L s.D (n : Int) L s.line s.order = some (c, (L, s.D, (n : Int), L, s.line.filter (fun a => !(a == v)), s.order)) := by
  unfold X.mount_Line_Serve_in_Robot_robot X.mount_Line_Len_in_Robot_robot
  have h0 : decide ((s.line.length : Int) > 0) = true := by
    cases hc : s.line with
    | nil => exact absurd hc hl
    | cons a r => simp
  rw [bd_s, h0, if_pos rfl]
  have hf : (fun a1 => X.mount_Line_Serve_c1 a1 v) = fun a => some (a == v) := rfl
  rw [hf, x_DeleteFunc _ _ (by have := h.ls; omega), bd_s]
  unfold X.mount_Line_Serve_in_Robot_robot_j17 X.mount_Line_Len_in_Robot_robot
  exact ⟨_, rfl⟩
theorem x_Step (h : RInv L n s) (fail : Bool) : X.robot_Robot_Step fail L s.D (n : Int) L s.line s.order = some ((stepR L s fail).1, (L, (stepR L s fail).2.D, (n : Int), L, (stepR L s fail).2.line, (stepR L s fail).2.order)) := by
  unfold X.robot_Robot_Step X.robot_Robot_Waiting X.mount_Line_Len_in_Robot_robot stepR
  simp only [bd_s]
  by_cases hl : s.line = []
  · rw [if_pos hl, if_pos (by rw [hl]; rfl)]
  · rw [if_neg hl, if_neg (by
      cases hc : s.line with
      | nil => exact absurd hc hl
      | cons a r => simp; omega), x_ready h, bd_s]
    cases hr : rdy s.D s.line with
    | some v =>
      obtain ⟨c, hc⟩ := x_LineServe h v hl
      simp only [if_true]
      rw [hc, bd_s]
    | none =>
      simp only [Bool.false_eq_true, if_false]
      cases fail with
      | true => rfl
      | false =>
        simp only [Bool.not_false, if_true, Bool.false_eq_true, if_false]
        rw [x_pick h hl, bd_s]
        have : (pickR L s).line = s.line := by unfold pickR; split <;> rfl
        rw [this]; rfl

theorem iter_inl {σ ρ : Type} {f : σ → Option (σ ⊕ ρ)} {x y : σ} {m : Nat} (h : f x = some (.inl y)) : iter f (m + 1) x = iter f m y := by
  simp only [iter, h]
theorem x_loop {s s' : RSt} {k : Nat} {b : Bool} (r : Runs L s k b s') : RInv L n s → ∀ (f t : Int), 0 ≤ f → f ≤ 1000 → 0 ≤ t → t + f + k ≤ 4000000000 →
    iter X.robot_Robot_Serve_s54 (k + 1) (L, s.D, (n : Int), L, s.line, s.order, f, t) = some (L, s'.D, (n : Int), L, s'.line, s'.order, t + k + (if b = true then f else 0)) := by
  induction r with
  | done s h =>
    intro hi f t _ _ _ _
    simp only [iter]
    unfold X.robot_Robot_Serve_s54 X.robot_Robot_Waiting X.mount_Line_Len_in_Robot_robot
    simp only [bd_s]
    rw [if_neg (by rw [h]; decide)]
    simp
  | step s s' k b h r ih =>
    intro hi f t hf hf2 ht htk
    have hw : decide ((s.line.length : Int) > 0) = true := by
      cases hc : s.line with
      | nil => exact absurd hc h
      | cons a r => simp
    have hst := x_Step hi false
    have hI := step_inv hi false
    have e : ∀ f2 t2, 0 ≤ t2 → t2 ≤ 4000001000 → X.robot_Robot_Serve_j87 L s.D (n : Int) L s.line s.order f2 t2 = some (.inl (L, (stepR L s false).2.D, (n : Int), L, (stepR L s false).2.line, (stepR L s false).2.order, f2, t2 + 1)) := fun f2 t2 h1 h2 => by
      unfold X.robot_Robot_Serve_j87
      rw [hst, bd_s, wr_eq (by omega) (by omega)]
    have hs : X.robot_Robot_Serve_s54 (L, s.D, (n : Int), L, s.line, s.order, f, t) = some (.inl (L, (stepR L s false).2.D, (n : Int), L, (stepR L s false).2.line, (stepR L s false).2.order, (if (rdy s.D s.line).isNone = true then 0 else f), t + (if (rdy s.D s.line).isNone = true then f else 0) + 1)) := by
      unfold X.robot_Robot_Serve_s54 X.robot_Robot_Waiting X.mount_Line_Len_in_Robot_robot
      simp only [bd_s]
      rw [if_pos hw, x_ready hi, bd_s]
      cases hr : rdy s.D s.line with
      | some v =>
        simp only [Bool.not_true, Bool.false_eq_true, if_false, Option.isNone_some]
        rw [e _ _ ht (by omega), Int.add_zero]
      | none =>
        simp only [Bool.not_false, if_true, Option.isNone_none]
        rw [wr_eq (by omega) (by omega), e _ _ (by omega) (by omega)]
    rw [iter_inl hs]
    have hk1 : ((k + 1 : Nat) : Int) = (k : Int) + 1 := by omega
    by_cases hn : (rdy s.D s.line).isNone = true
    · rw [if_pos hn, if_pos hn, ih hI 0 (t + f + 1) (by omega) (by omega) (by omega) (by omega), hn, Bool.or_true, if_pos rfl]
      have : t + f + 1 + (k : Int) + (if b = true then 0 else 0) = t + ((k + 1 : Nat) : Int) + f := by split <;> omega
      rw [this]
    · have hn2 : (rdy s.D s.line).isNone = false := Bool.eq_false_iff.2 hn
      rw [if_neg hn, if_neg hn, ih hI f (t + 0 + 1) hf hf2 (by omega) (by omega), hn2, Bool.or_false]
      have : t + 0 + 1 + (k : Int) + (if b = true then f else 0) = t + ((k + 1 : Nat) : Int) + (if b = true then f else 0) := by omega
      rw [this]

theorem x_is24 (v : Int) (h : L.length ≤ 1000000) {D line order : List Int} {q : Int} : X.robot_Robot_is L D q L line order v = some (decide (v ∈ L)) := by
  unfold X.robot_Robot_is
  rw [x_Contains _ _ (by omega)]; rfl
theorem x_all (h : L.length ≤ 1000000) (labels : List Int) (hl : labels.length ≤ 1000000) {D line order : List Int} {q : Int} :
    X.slices_ContainsFunc_Lint_int labels (fun a1 => X.robot_Robot_Serve_c1 a1 L D q L line order) = some (labels.any fun a => !decide (a ∈ L)) := by
  have hf : (fun a1 => X.robot_Robot_Serve_c1 a1 L D q L line order) = fun a => some (!decide (a ∈ L)) := by
    funext a
    unfold X.robot_Robot_Serve_c1
    rw [x_is24 a h]; rfl
  unfold X.slices_ContainsFunc_Lint_int
  rw [hf, x_IndexFunc _ _ (by omega), bd_s]
  congr 1
  cases hx : labels.findIdx? (fun a => !decide (a ∈ L)) with
  | none =>
    rw [List.findIdx?_eq_none_iff] at hx
    have : (labels.any fun a => !decide (a ∈ L)) = false := by
      rw [List.any_eq_false]
      intro a ha
      rw [hx a ha]; simp
    rw [this]; rfl
  | some j =>
    rw [List.findIdx?_eq_some_iff_getElem] at hx
    obtain ⟨h1, h2, _⟩ := hx
    have : (labels.any fun a => !decide (a ∈ L)) = true := by
      rw [List.any_eq_true]
      exact ⟨_, List.getElem_mem h1, h2⟩
    rw [this]
    show decide ((j : Int) ≥ 0) = true
    simp
theorem x_Serve_no (h : RInv L n s) {labels : List Int} {fails : Int} (hl : labels.length ≤ 1000) (hbad : ¬ ∀ a ∈ labels, a ∈ L) :
    X.robot_Robot_Serve labels fails L s.D (n : Int) L s.line s.order = some (0, 1, (L, s.D, (n : Int), L, s.line, s.order)) := by
  unfold X.robot_Robot_Serve
  rw [x_all h.sh.small labels (by omega), bd_s]
  have : (labels.any fun a => !decide (a ∈ L)) = true := by
    rw [List.any_eq_true]
    simp only [Classical.not_forall] at hbad
    obtain ⟨a, ha, hn⟩ := hbad
    exact ⟨a, ha, by simpa using hn⟩
  rw [this, if_pos rfl]
theorem x_Serve (h : RInv L n s) {labels : List Int} {fails : Int} (hl : labels.length ≤ 1000) (hline : s.line.length ≤ 10000) (hok : ∀ a ∈ labels, a ∈ L) {k : Nat} {b : Bool} {s' : RSt}
    (r : Runs L ⟨s.I, s.D, s.line ++ labels, s.order⟩ k b s') (hk : k ≤ 100000) :
    X.robot_Robot_Serve labels fails L s.D (n : Int) L s.line s.order = some ((k : Int) + (if b = true then cl fails else 0), 0, (L, s'.D, (n : Int), L, s'.line, s'.order)) := by
  unfold X.robot_Robot_Serve
  rw [x_all h.sh.small labels (by omega), bd_s]
  have : (labels.any fun a => !decide (a ∈ L)) = false := by
    rw [List.any_eq_false]
    intro a ha
    simpa using hok a ha
  rw [this, if_neg (by simp)]
  have key : run (X.robot_Robot_Serve_s23 labels) (L, s.D, (n : Int), L, s.line, s.order, (0 : Int)) = some (L, s.D, (n : Int), L, s.line ++ labels, s.order) := by
    refine run_is _ (fun q => ∃ i : Nat, i ≤ labels.length ∧ q = (L, s.D, (n : Int), L, s.line ++ labels.take i, s.order, (i : Int))) (fun q => labels.length - q.2.2.2.2.2.2.toNat) ⟨0, by omega, by simp⟩ (by simp only; omega) ?_
    rintro q ⟨i, hi, rfl⟩
    unfold X.robot_Robot_Serve_s23
    simp only
    by_cases hlt : i < labels.length
    · left
      rw [if_pos (by simpa using hlt), getI_getD 0 hlt, bd_s]
      unfold X.mount_Line_Add_in_Robot_robot
      rw [need_is (by simp only [List.length_append, List.length_take, List.length_singleton]; omega), bd_s]
      simp only [bd_s]
      rw [wr_is (by omega)]
      refine ⟨_, rfl, ⟨i + 1, by omega, ?_⟩, by simp only; omega⟩
      rw [List.append_assoc, gD hlt, List.take_append_getElem hlt]
    · right
      have : i = labels.length := by omega
      subst this
      rw [if_neg (by simp), List.take_length]
  rw [key, bd_s]
  show X.robot_Robot_Serve_e23 fails L s.D (n : Int) L (s.line ++ labels) s.order = _
  unfold X.robot_Robot_Serve_e23
  have hi2 : RInv L n ⟨s.I, s.D, s.line ++ labels, s.order⟩ := ⟨h.sh, h.dl, h.n1, h.n4, fun v hv => by
    rcases List.mem_append.1 hv with hv | hv
    · exact h.ll v hv
    · exact hok v hv, by simp only [List.length_append]; omega, h.of, h.nd, h.oc⟩
  obtain ⟨c1, c2⟩ := cl_is fails
  have hit := x_loop r hi2 (cl fails) 0 c1 c2 (by omega) (by omega)
  have hrun := run_few (k + 1) (by omega) hit
  show (run X.robot_Robot_Serve_s54 (L, s.D, (n : Int), L, s.line ++ labels, s.order, cl fails, (0 : Int))).bind _ = _
  rw [hrun, bd_s]
  show X.robot_Robot_Serve_e54 _ _ _ _ _ _ _ = _
  unfold X.robot_Robot_Serve_e54
  rw [Int.zero_add]
end
end Go.AX
/- A new robot. -/
namespace Go.AX
open Go.AM

theorem x_RNew_ok {L : List Int} {d : Int} (h : okNew L d) : X.robot_New L d = some (some (L, List.replicate d.toNat 0, d, L, [], []), 0) := by
  unfold X.robot_New
  rw [x_New_ok h, bd_s]
  simp only [bne_self_eq_false, Bool.false_eq_true, if_false]
  rw [x_Clone L (by have := h.1; omega), bd_s]
theorem x_RNew_no {L : List Int} {d : Int} (h : ¬ okNew L d) : X.robot_New L d = some (none, 1) := by
  unfold X.robot_New
  rw [x_New_no h, bd_s]
  rfl
theorem new_inv {L : List Int} {d : Int} (h : okNew L d) : RInv L d.toNat ⟨List.replicate L.length (-1), List.replicate d.toNat 0, [], []⟩ := by
  have hinv := h.inv
  obtain ⟨h1, h2, h3, _⟩ := h
  refine ⟨hinv, by simp, by omega, by omega, (fun v hv => by cases hv), by simp, (fun o ho => by cases ho), List.nodup_nil, ?_⟩
  simp
theorem rAlive : X.cartridgelaw24_alive = some true := by
  decide +kernel
end Go.AX
/- The document's shelf is the same. -/
namespace Go.AX
open Go.AM

theorem x_find (L I D : List Int) (v : Int) (hs : L.length ≤ 1000000) : X.cartridgeref22_Shelf_find L I D v = some (ixOf (L.findIdx? (v == ·))) := by
  unfold X.cartridgeref22_Shelf_find
  have key : run (X.cartridgeref22_Shelf_find_s8 L v) (0 : Int) = some (match L.findIdx? (v == ·) with | some i => .inr (i : Int) | none => .inl ()) := by
    refine run_is _ (fun x : Int => ∃ n : Nat, x = (n : Int) ∧ n ≤ L.length ∧ ∀ j (hj : j < L.length), j < n → (v == L[j]) = false) (fun x : Int => L.length - x.toNat) ⟨0, rfl, by omega, fun j hj h => by omega⟩ (by omega) ?_
    rintro x ⟨n, rfl, hn, hp⟩
    unfold X.cartridgeref22_Shelf_find_s8
    by_cases h : n < L.length
    · rw [if_pos (by simpa using h), getI_nat h]
      simp only [Option.bind_some]
      have hc : (L[n] == v) = (v == L[n]) := by rw [Bool.eq_iff_iff, beq_iff_eq, beq_iff_eq]; exact eq_comm
      rw [hc]
      cases hq : (v == L[n]) with
      | true =>
        right
        have : L.findIdx? (v == ·) = some n := by
          rw [List.findIdx?_eq_some_iff_getElem]
          exact ⟨h, hq, fun j hj => by simpa using hp j (by omega) hj⟩
        simp [this]
      | false =>
        left
        refine ⟨((n + 1 : Nat) : Int), by simp [wr_succ (n := n) (by omega)], ⟨n + 1, rfl, by omega, fun j hj h => ?_⟩, by omega⟩
        rcases Nat.lt_succ_iff_lt_or_eq.1 h with h | rfl
        · exact hp j hj h
        · exact hq
    · rw [if_neg (by simpa using h)]
      right
      have : L.findIdx? (v == ·) = none := by
        rw [List.findIdx?_eq_none_iff]
        intro x hx
        obtain ⟨j, hj, rfl⟩ := List.getElem_of_mem hx
        exact hp j hj (by omega)
      simp [this]
  rw [key]
  cases L.findIdx? (v == ·) <;> simp [ixOf, X.cartridgeref22_Shelf_find_e8]

section
variable {L I D : List Int}
theorem y_Mounted (d : Int) : X.cartridgeref22_Shelf_Mounted L I D d = some (mnt D d) := by
  unfold X.cartridgeref22_Shelf_Mounted mnt
  by_cases hd : 0 ≤ d ∧ d < D.length
  · rw [if_neg (by simp; omega), if_pos hd, getD_at hd]
    rfl
  · rw [if_pos (by simp; omega), if_neg hd]
theorem y_Move (h : ShInv L I D) (v d : Int) : X.cartridgeref22_Shelf_Move v d L I D = some ((mov L I D v d).1, (L, (mov L I D v d).2.1, (mov L I D v d).2.2)) := by
  unfold X.cartridgeref22_Shelf_Move mov
  rw [x_find L I D v h.small]
  simp only [Option.bind_some]
  cases hf : L.findIdx? (v == ·) with
  | none => simp [ixOf]
  | some n =>
    obtain ⟨u, h1, _⟩ := h.ix (fi_some hf)
    have hn : decide ((ixOf (some n)) < (0 : Int)) = false := decide_eq_false (by simp only [ixOf]; omega)
    have hg : getI I (ixOf (some n)) = some u := by simp [ixOf, getI, h1]
    simp only [hn, hg, Option.bind_some, Bool.false_or, List.getD_eq_getElem?_getD, h1, Option.getD_some]
    by_cases hr : 0 ≤ d ∧ d < D.length
    · rw [if_neg (by simp; omega), if_pos hr, getD_at hr]
      simp only [← List.getD_eq_getElem?_getD]
      by_cases hu : 0 ≤ u
      · have : decide (u ≥ (0 : Int)) = true := by simpa using hu
        rw [this]
        simp only [Bool.not_true, optG_false, Option.bind_some, Bool.true_or, if_true]
        rw [if_pos (.inl hu)]
      · have : decide (u ≥ (0 : Int)) = false := by simpa using hu
        rw [this]
        simp only [Bool.not_false, optG_true, Option.bind_some, Bool.false_or]
        by_cases h0 : D.getD d.toNat 0 = 0
        · rw [if_neg (by simp only [h0]; simp), if_neg (by simp only [h0]; omega)]
          simp [ixOf]
        · rw [if_pos (by simpa using h0), if_pos (.inr h0)]
    · rw [if_pos (by simp; omega), if_neg hr]
theorem y_Back (d : Int) (h : ShInv L I D) : X.cartridgeref22_Shelf_Back d L I D = some ((bck L I D d).1, (L, (bck L I D d).2.1, (bck L I D d).2.2)) := by
  unfold X.cartridgeref22_Shelf_Back bck
  by_cases hr : 0 ≤ d ∧ d < D.length
  · rw [if_neg (by simp; omega), if_pos hr, getD_at hr]
    simp only [Option.bind_some]
    by_cases h0 : D.getD d.toNat 0 = 0
    · rw [if_pos (by simpa using h0), if_pos h0]
    · rw [if_neg (by simpa using h0), if_neg h0, x_find L I D _ h.small]
      have hd : D[d.toNat]? = some (D.getD d.toNat 0) := by
        simp [List.getD_eq_getElem?_getD, List.getElem?_eq_getElem (show d.toNat < D.length by omega)]
      rcases h.dr _ _ hd with h1 | ⟨i, hi, hii⟩
      · exact absurd h1 h0
      · rw [h.fi hi]
        simp [ixOf, getI, hii]
  · rw [if_pos (by simp; omega), if_neg hr]
end
end Go.AX
/- The document's new shelf is the same. -/
namespace Go.AX
open Go.AM

theorem y_s15 (L : List Int) (n : Int) (hs : L.length ≤ 1000000) : (goodL L → run (X.cartridgeref22_NewShelf_s15 L n) (([] : List Int), ([] : List Int), (0 : Int)) = some (.inl (L, List.replicate L.length (-1)))) ∧
    (¬ goodL L → run (X.cartridgeref22_NewShelf_s15 L n) (([] : List Int), ([] : List Int), (0 : Int)) = some (.inr (none, (1 : Int)))) := by
  have step : ∀ k : Nat, k < L.length → (∀ j (h : j < L.length), j < k → 1 ≤ L[j] ∧ L[j] ∉ L.take j) →
      (X.cartridgeref22_NewShelf_s15 L n (L.take k, List.replicate k (-1), (k : Int)) = some (.inl (L.take (k + 1), List.replicate (k + 1) (-1), ((k + 1 : Nat) : Int))) ∧ (∀ j (h : j < L.length), j < k + 1 → 1 ≤ L[j] ∧ L[j] ∉ L.take j)) ∨
      (X.cartridgeref22_NewShelf_s15 L n (L.take k, List.replicate k (-1), (k : Int)) = some (.inr (.inr (none, (1 : Int)))) ∧ ¬ goodL L) := by
    intro k hk hp
    have hc : X.cartridgeref22_NewShelf_s15 L n (L.take k, List.replicate k (-1), (k : Int)) = if L[k] < 1 ∨ L[k] ∈ L.take k then some (.inr (.inr (none, (1 : Int)))) else some (.inl (L.take (k + 1), List.replicate (k + 1) (-1), ((k + 1 : Nat) : Int))) := by
      unfold X.cartridgeref22_NewShelf_s15
      simp only
      rw [if_pos (by simpa using hk), getI_nat hk]
      simp only [Option.bind_some]
      by_cases h1 : L[k] < 1
      · have : decide (L[k] < (1 : Int)) = true := by simpa using h1
        rw [this, if_pos (.inl h1)]
        simp
      · have : decide (L[k] < (1 : Int)) = false := by simpa using h1
        rw [this]
        simp only [Bool.not_false, optG_true, Bool.false_or, Option.bind_some]
        rw [x_find _ _ _ _ (by simp; omega)]
        simp only [Option.bind_some]
        by_cases h2 : L[k] ∈ L.take k
        · rw [if_pos ?_, if_pos (.inr h2)]
          rw [mem_iff_fi] at h2
          cases hf : (L.take k).findIdx? (L[k] == ·) with
          | none => exact absurd hf h2
          | some m => simp only [ixOf]; exact decide_eq_true (by omega)
        · rw [if_neg ?_, if_neg (by simp [h1, h2]), need_is (by simp; omega), need_is (by simp; omega)]
          · simp only [Option.bind_some]
            rw [wr_succ (by omega), List.take_succ_eq_append_getElem hk, List.replicate_succ']
          · rw [fi_out h2]; simp [ixOf]
    by_cases hb : L[k] < 1 ∨ L[k] ∈ L.take k
    · right
      refine ⟨by rw [hc, if_pos hb], fun hg => ?_⟩
      have := hg k hk
      rcases hb with hb | hb
      · omega
      · exact this.2 hb
    · left
      refine ⟨by rw [hc, if_neg hb], fun j hj hjk => ?_⟩
      rcases Nat.lt_succ_iff_lt_or_eq.1 hjk with hjk | rfl
      · exact hp j hj hjk
      · exact ⟨by have := fun h => hb (.inl h); omega, fun h => hb (.inr h)⟩
  have last : X.cartridgeref22_NewShelf_s15 L n (L, List.replicate L.length (-1), (L.length : Int)) = some (.inr (.inl (L, List.replicate L.length (-1)))) := by
    unfold X.cartridgeref22_NewShelf_s15
    simp only
    rw [if_neg (by simp)]
  refine ⟨fun hg => ?_, fun hg => ?_⟩
  all_goals
    refine run_is _ (fun x : List Int × List Int × Int => ∃ k : Nat, x = (L.take k, List.replicate k (-1), (k : Int)) ∧ k ≤ L.length ∧ ∀ j (h : j < L.length), j < k → 1 ≤ L[j] ∧ L[j] ∉ L.take j) (fun x : List Int × List Int × Int => L.length - x.2.2.toNat)
      ⟨0, by simp, by omega, fun k hk h => by omega⟩ (by omega) ?_
    rintro x ⟨k, rfl, hk, hp⟩
    by_cases h : k < L.length
    · rcases step k h hp with ⟨h1, h2⟩ | ⟨h1, h2⟩
      · exact .inl ⟨_, h1, ⟨k + 1, rfl, by omega, h2⟩, by simp; omega⟩
      · first | exact absurd hg h2 | exact .inr h1
    · have : k = L.length := by omega
      subst this
      rw [List.take_length]
      first | exact .inr last | exact absurd (fun j hj => hp j hj hj) hg

theorem y_New_ok {L : List Int} {n : Int} (h : okNew L n) : X.cartridgeref22_NewShelf L n = some (some (L, List.replicate L.length (-1), List.replicate n.toNat 0), 0) := by
  obtain ⟨h1, h2, h3, h4⟩ := h
  unfold X.cartridgeref22_NewShelf
  rw [if_neg (by simp; omega), need_is (by omega)]
  simp only [Option.bind_some]
  rw [(y_s15 L n (by omega)).1 h4]
  rfl
theorem y_New_no {L : List Int} {n : Int} (h : ¬ okNew L n) : X.cartridgeref22_NewShelf L n = some (none, 1) := by
  unfold X.cartridgeref22_NewShelf
  by_cases hc : L.length ≤ 30 ∧ 1 ≤ n ∧ n ≤ 4
  · rw [if_neg (by simp; omega), need_is (by omega)]
    simp only [Option.bind_some]
    rw [(y_s15 L n (by omega)).2 (fun hg => h ⟨hc.1, hc.2.1, hc.2.2, hg⟩)]
    rfl
  · rw [if_pos (by simp; omega)]
end Go.AX
/- The document's robot does the same steps. -/
namespace Go.AX
open Go.AM

section
variable {L : List Int} {n : Nat} {s : RSt}
theorem y_wants (h : s.line.length ≤ 1000000) {L I D order : List Int} (v : Int) : X.cartridgeref22_Robot_wants L I D s.line order v = some (decide (v ∈ s.line)) := by
  unfold X.cartridgeref22_Robot_wants
  have key : run (X.cartridgeref22_Robot_wants_s10 s.line v) ((0 : Nat) : Int) = some (if v ∈ s.line then .inr true else .inl ()) := by
    refine run_seE (n := s.line.length) (fun m => ∀ j, j < m → s.line.getD j 0 ≠ v) (Nat.zero_le _) (by omega) (fun j hj => by omega) (fun i _ hi hI => ?_) (fun hI => ?_)
    · unfold X.cartridgeref22_Robot_wants_s10
      simp only
      rw [if_pos (by simpa using hi), getI_getD 0 hi, bd_s]
      by_cases hv : s.line.getD i 0 = v
      · right
        have hm : v ∈ s.line := by rw [← hv, gD hi]; exact List.getElem_mem hi
        rw [if_pos (by simpa using hv), if_pos hm]
      · left
        have : (s.line.getD i 0 == v) = false := by simpa using hv
        rw [this, if_neg (by simp), wr_is (by omega)]
        refine ⟨rfl, fun j hj => ?_⟩
        rcases Nat.lt_succ_iff_lt_or_eq.1 hj with hj | rfl
        · exact hI j hj
        · exact hv
    · unfold X.cartridgeref22_Robot_wants_s10
      simp only
      have hm : v ∉ s.line := fun hm => by
        obtain ⟨j, hj, e⟩ := List.getElem_of_mem hm
        exact hI j hj (by rw [gD hj, e])
      rw [if_neg (by simp), if_neg hm]
  rw [show (0 : Int) = ((0 : Nat) : Int) from rfl, key, bd_s]
  by_cases h : v ∈ s.line
  · rw [if_pos h, decide_eq_true h]
  · rw [if_neg h, decide_eq_false h]; rfl
theorem y_pick (h : RInv L n s) : X.cartridgeref22_Robot_pick L s.I s.D s.line s.order = some ((rdy s.D s.line).isNone && decide ((s.line.length : Int) > 0)) := by
  unfold X.cartridgeref22_Robot_pick
  have hdl := h.dl
  have hn4 := h.n4
  have key : run (X.cartridgeref22_Robot_pick_s9 s.D L s.I s.line s.order) ((0 : Nat) : Int) = some (match rdy s.D s.line with | some _ => .inr false | none => .inl ()) := by
    refine run_seE (n := s.D.length) (fun m => ∀ j, j < m → (s.D.getD j 0 != 0 && decide (s.D.getD j 0 ∈ s.line)) = false) (Nat.zero_le _) (by omega) (fun j hj => by omega) (fun i _ hi hI => ?_) (fun hI => ?_)
    · unfold X.cartridgeref22_Robot_pick_s9
      simp only
      rw [if_pos (by simpa using hi), getI_getD 0 hi, bd_s]
      by_cases h0 : s.D.getD i 0 = 0
      · left
        have b0 : (s.D.getD i 0 != 0) = false := by rw [h0]; rfl
        rw [b0]
        simp only [optG_false, bd_s, Bool.false_and, Bool.false_eq_true, if_false]
        rw [wr_is (by omega)]
        refine ⟨rfl, fun j hj => ?_⟩
        rcases Nat.lt_succ_iff_lt_or_eq.1 hj with hj | rfl
        · exact hI j hj
        · rw [b0]; rfl
      · have b0 : (s.D.getD i 0 != 0) = true := by simpa using h0
        rw [b0]
        simp only [optG_true, Bool.true_and, bd_s]
        rw [y_wants h.ls, bd_s]
        by_cases hm : s.D.getD i 0 ∈ s.line
        · right
          rw [if_pos (by simpa using hm)]
          have : rdy s.D s.line = some (s.D.getD i 0) := find_at hi hI (by rw [b0, decide_eq_true hm]; rfl)
          rw [this]
        · left
          rw [if_neg (by simpa using hm), wr_is (by omega)]
          refine ⟨rfl, fun j hj => ?_⟩
          rcases Nat.lt_succ_iff_lt_or_eq.1 hj with hj | rfl
          · exact hI j hj
          · rw [decide_eq_false hm, Bool.and_false]
    · unfold X.cartridgeref22_Robot_pick_s9
      simp only
      have : rdy s.D s.line = none := find_no fun j hj => hI j hj
      rw [if_neg (by simp), this]
  rw [show (0 : Int) = ((0 : Nat) : Int) from rfl, key, bd_s]
  cases rdy s.D s.line <;> rfl
theorem y_left {line D : List Int} (hl : line.length ≤ 1000000) {i : Nat} (hi : i < D.length) :
    run (X.cartridgeref22_Robot_Step_s101 line D (i : Int)) (([] : List Int), (0 : Int)) = some (line.filter (fun a => !(a == D.getD i 0))) := by
  have := run_G0 (f := X.cartridgeref22_Robot_Step_s101 line D (i : Int)) (fun j => (line.take j).filter (fun a => !(a == D.getD i 0))) (s0 := []) (n := line.length) (r := line.filter (fun a => !(a == D.getD i 0))) (by omega) (by simp) (fun j hj => ?_) ?_
  · exact this
  · unfold X.cartridgeref22_Robot_Step_s101
    simp only
    have hle := List.length_filter_le (fun a => !(a == D.getD i 0)) (line.take j)
    rw [List.length_take] at hle
    rw [if_pos (by simpa using hj), getI_getD 0 hj, bd_s, getI_getD 0 hi, bd_s, ← List.take_append_getElem hj, List.filter_append, ← gD hj]
    unfold X.cartridgeref22_Robot_Step_j125
    by_cases hv : line.getD j 0 = D.getD i 0
    · have b1 : (line.getD j 0 == D.getD i 0) = true := by simpa using hv
      have b2 : (line.getD j 0 != D.getD i 0) = false := by simpa using hv
      rw [b2, if_neg (by simp), wr_is (by omega), List.filter_cons_of_neg (by rw [b1]; simp)]
      simp
    · have b1 : (line.getD j 0 == D.getD i 0) = false := by simpa using hv
      have b2 : (line.getD j 0 != D.getD i 0) = true := by simpa using hv
      rw [b2, if_pos rfl, bd_s, need_is (by simp only [List.length_singleton]; omega), bd_s, wr_is (by omega), List.filter_cons_of_pos (by rw [b1]; rfl)]
      simp
  · unfold X.cartridgeref22_Robot_Step_s101
    simp only
    rw [if_neg (by simp), List.take_length]
theorem y_Step (h : RInv L n s) (fail : Bool) : X.cartridgeref22_Robot_Step fail L s.I s.D s.line s.order = some ((stepR L s fail).1, (L, (stepR L s fail).2.I, (stepR L s fail).2.D, (stepR L s fail).2.line, (stepR L s fail).2.order)) := by
  unfold X.cartridgeref22_Robot_Step stepR
  have hdl := h.dl
  have hn4 := h.n4
  have hoc := h.oc
  by_cases hl : s.line = []
  · rw [if_pos hl, if_pos (by rw [hl]; rfl)]
  · rw [if_neg hl, if_neg (by
      cases hc : s.line with
      | nil => exact absurd hc hl
      | cons a r => simp; omega)]
    have key : run (X.cartridgeref22_Robot_Step_s21 s.D L s.I s.line s.order) ((0 : Nat) : Int) = some (match rdy s.D s.line with | some v => .inr (true, (L, s.I, s.D, s.line.filter (fun a => !(a == v)), s.order)) | none => .inl ()) := by
      refine run_seE (n := s.D.length) (fun m => ∀ j, j < m → (s.D.getD j 0 != 0 && decide (s.D.getD j 0 ∈ s.line)) = false) (Nat.zero_le _) (by omega) (fun j hj => by omega) (fun i _ hi hI => ?_) (fun hI => ?_)
      · unfold X.cartridgeref22_Robot_Step_s21
        simp only
        rw [if_pos (by simpa using hi), getI_getD 0 hi, bd_s]
        by_cases h0 : s.D.getD i 0 = 0
        · left
          have b0 : (s.D.getD i 0 == 0) = true := by rw [h0]; rfl
          rw [b0]
          simp only [Bool.not_true, optG_false, bd_s, Bool.true_or, if_true]
          rw [wr_is (by omega)]
          refine ⟨rfl, fun j hj => ?_⟩
          rcases Nat.lt_succ_iff_lt_or_eq.1 hj with hj | rfl
          · exact hI j hj
          · rw [h0]; rfl
        · have b0 : (s.D.getD i 0 == 0) = false := by simpa using h0
          have b1 : (s.D.getD i 0 != 0) = true := by simpa using h0
          rw [b0]
          simp only [Bool.not_false, optG_true, Bool.false_or, bd_s]
          rw [y_wants h.ls, bd_s]
          by_cases hm : s.D.getD i 0 ∈ s.line
          · right
            have : rdy s.D s.line = some (s.D.getD i 0) := find_at hi hI (by rw [b1, decide_eq_true hm]; rfl)
            rw [this, if_neg (by simpa using hm), y_left h.ls hi, bd_s]
            rfl
          · left
            rw [if_pos (by simpa using hm), wr_is (by omega)]
            refine ⟨rfl, fun j hj => ?_⟩
            rcases Nat.lt_succ_iff_lt_or_eq.1 hj with hj | rfl
            · exact hI j hj
            · rw [decide_eq_false hm, Bool.and_false]
      · unfold X.cartridgeref22_Robot_Step_s21
        simp only
        have : rdy s.D s.line = none := find_no fun j hj => hI j hj
        rw [if_neg (by simp), this]
    rw [show (0 : Int) = ((0 : Nat) : Int) from rfl, key, bd_s]
    cases hr : rdy s.D s.line with
    | some v => rfl
    | none =>
      simp only
      unfold X.cartridgeref22_Robot_Step_e21
      cases fail with
      | true => rfl
      | false =>
        simp only [Bool.false_eq_true, if_false]
        have key2 : run (X.cartridgeref22_Robot_Step_s42 s.D s.line L s.I s.order) ((0 : Nat) : Int) = some (match emp s.D with | some i => .inr (true, (L, (pickR L s).I, (pickR L s).D, s.line, (pickR L s).order)) | none => .inl ()) := by
          refine run_seE (n := s.D.length) (fun m => ∀ j, j < m → (s.D.getD j 0 == 0) = false) (Nat.zero_le _) (by omega) (fun j hj => by omega) (fun i _ hi hI => ?_) (fun hI => ?_)
          · unfold X.cartridgeref22_Robot_Step_s42
            simp only
            rw [if_pos (by simpa using hi), getI_getD 0 hi, bd_s]
            by_cases h0 : s.D.getD i 0 = 0
            · right
              have he : emp s.D = some i := fix_at hi hI (by rw [h0]; rfl)
              rw [if_pos (by rw [h0]; rfl), head_is hl, bd_s, y_Move h.sh, bd_s, need_is (by simp only [List.length_singleton]; omega), bd_s, he]
              unfold pickR
              rw [he]
            · left
              have b0 : (s.D.getD i 0 == 0) = false := by simpa using h0
              rw [b0, if_neg (by simp), wr_is (by omega)]
              refine ⟨rfl, fun j hj => ?_⟩
              rcases Nat.lt_succ_iff_lt_or_eq.1 hj with hj | rfl
              · exact hI j hj
              · exact b0
          · unfold X.cartridgeref22_Robot_Step_s42
            simp only
            have : emp s.D = none := fix_no fun j hj => hI j hj
            rw [if_neg (by simp), this]
        rw [show (0 : Int) = ((0 : Nat) : Int) from rfl, key2, bd_s]
        have hline : (pickR L s).line = s.line := by unfold pickR; split <;> rfl
        cases he : emp s.D with
        | some i => rw [hline]
        | none =>
          obtain ⟨o, r, k, ho, _⟩ := bck_is h he
          have hne : s.order ≠ [] := by rw [ho]; simp
          have hl1 : 1 ≤ s.order.length := by rw [ho]; simp
          simp only
          unfold X.cartridgeref22_Robot_Step_e42
          rw [head_is hne, bd_s, y_Back _ h.sh, bd_s, need_is (by omega), bd_s, need_is (by rw [drop_is hl1, List.length_drop]; omega), bd_s, drop_is hl1, hline]
          unfold pickR
          rw [he]

theorem y_stay {s : RSt} (hi : RInv L n s) (hl : s.line ≠ []) (hr : rdy s.D s.line = none) (m : Nat) : ∀ (g : Nat) (t : Int), 0 ≤ t → t + g ≤ 4000000000 →
    iter X.cartridgeref22_Robot_Serve_s41 (g + m) (L, s.I, s.D, s.line, s.order, (g : Int), t) = iter X.cartridgeref22_Robot_Serve_s41 m (L, s.I, s.D, s.line, s.order, (0 : Int), t + g)
  | 0, t, _, _ => by rw [Nat.zero_add]; simp
  | g + 1, t, h1, h2 => by
    have hw : decide ((s.line.length : Int) > 0) = true := by
      cases hc : s.line with
      | nil => exact absurd hc hl
      | cons a r => simp
    have hs : X.cartridgeref22_Robot_Serve_s41 (L, s.I, s.D, s.line, s.order, ((g + 1 : Nat) : Int), t) = some (.inl (L, s.I, s.D, s.line, s.order, (g : Int), t + 1)) := by
      unfold X.cartridgeref22_Robot_Serve_s41
      simp only
      rw [if_pos hw, y_pick hi, bd_s, hr, hw, if_pos (by simp), wr_eq (by omega) (by omega)]
      unfold X.cartridgeref22_Robot_Serve_j75
      rw [y_Step hi true, bd_s, wr_eq (by omega) (by omega)]
      have : stepR L s true = (true, s) := by unfold stepR; rw [if_neg hl, hr]; rfl
      rw [this]
      have e : ((g + 1 : Nat) : Int) - 1 = g := by omega
      rw [e]
    rw [show g + 1 + m = (g + m) + 1 by omega, iter_inl hs, y_stay hi hl hr m g (t + 1) (by omega) (by omega)]
    have e : t + 1 + (g : Int) = t + ((g + 1 : Nat) : Int) := by omega
    rw [e]
theorem y_loop {s s' : RSt} {k : Nat} {b : Bool} (r : Runs L s k b s') : RInv L n s → ∀ (f : Nat) (t : Int), f ≤ 1000 → 0 ≤ t → t + f + k ≤ 4000000000 →
    iter X.cartridgeref22_Robot_Serve_s41 (k + (if b = true then f else 0) + 1) (L, s.I, s.D, s.line, s.order, (f : Int), t) = some (L, s'.I, s'.D, s'.line, s'.order, t + k + (if b = true then (f : Int) else 0)) := by
  induction r with
  | done s h =>
    intro hi f t _ _ _
    simp only [iter, Bool.false_eq_true, if_false, Nat.add_zero]
    unfold X.cartridgeref22_Robot_Serve_s41
    simp only
    rw [if_neg (by rw [h]; decide)]
    simp
  | step s s' k b h r ih =>
    intro hi f t hf ht htk
    have hw : decide ((s.line.length : Int) > 0) = true := by
      cases hc : s.line with
      | nil => exact absurd hc h
      | cons a r => simp
    have hst := y_Step hi false
    have hI := step_inv hi false
    have e : ∀ (f2 : Int) t2, 0 ≤ t2 → t2 ≤ 4000001000 → X.cartridgeref22_Robot_Serve_j75 L s.I s.D s.line s.order t2 f2 false = some (.inl (L, (stepR L s false).2.I, (stepR L s false).2.D, (stepR L s false).2.line, (stepR L s false).2.order, f2, t2 + 1)) := fun f2 t2 h1 h2 => by
      unfold X.cartridgeref22_Robot_Serve_j75
      rw [hst, bd_s, wr_eq (by omega) (by omega)]
    cases hr : rdy s.D s.line with
    | some v =>
      rw [Option.isNone_some, Bool.or_false]
      have hs : X.cartridgeref22_Robot_Serve_s41 (L, s.I, s.D, s.line, s.order, (f : Int), t) = some (.inl (L, (stepR L s false).2.I, (stepR L s false).2.D, (stepR L s false).2.line, (stepR L s false).2.order, (f : Int), t + 1)) := by
        unfold X.cartridgeref22_Robot_Serve_s41
        simp only
        rw [if_pos hw, y_pick hi, bd_s, hr]
        simp only [Option.isNone_some, Bool.false_and, Bool.false_eq_true, if_false]
        exact e _ _ ht (by omega)
      rw [show k + 1 + (if b = true then f else 0) + 1 = (k + (if b = true then f else 0) + 1) + 1 by omega, iter_inl hs, ih hI f (t + 1) hf (by omega) (by omega)]
      have e2 : t + 1 + (k : Int) + (if b = true then (f : Int) else 0) = t + ((k + 1 : Nat) : Int) + (if b = true then (f : Int) else 0) := by omega
      rw [e2]
    | none =>
      rw [Option.isNone_none, Bool.or_true, if_pos rfl, if_pos rfl]
      have hs : X.cartridgeref22_Robot_Serve_s41 (L, s.I, s.D, s.line, s.order, (0 : Int), t + f) = some (.inl (L, (stepR L s false).2.I, (stepR L s false).2.D, (stepR L s false).2.line, (stepR L s false).2.order, (0 : Int), t + f + 1)) := by
        unfold X.cartridgeref22_Robot_Serve_s41
        simp only
        rw [if_pos hw, y_pick hi, bd_s, hr]
        simp only [gt_iff_lt, Int.lt_irrefl, decide_false, Bool.and_false, Bool.false_eq_true, if_false]
        exact e _ _ (by omega) (by omega)
      have hz : (if b = true then (0 : Nat) else 0) = 0 := by split <;> rfl
      have hz2 : (if b = true then ((0 : Nat) : Int) else 0) = 0 := by split <;> rfl
      have ih0 := ih hI 0 (t + f + 1) (by omega) (by omega) (by omega)
      rw [hz, hz2, Nat.add_zero] at ih0
      rw [show k + 1 + f + 1 = f + (k + 1 + 1) by omega, y_stay hi h hr (k + 1 + 1) f t ht (by omega), iter_inl hs]
      refine Eq.trans ih0 ?_
      have e2 : t + (f : Int) + 1 + (k : Int) + 0 = t + ((k + 1 : Nat) : Int) + (f : Int) := by omega
      rw [e2]

theorem y_find0 (h : RInv L n s) (v : Int) {I D : List Int} : ∃ r, X.cartridgeref22_Shelf_find L I D v = some r ∧ (r < 0 ↔ v ∉ L) := by
  refine ⟨_, x_find L I D v h.sh.small, ?_⟩
  have := mem_iff_fi L v
  cases hf : L.findIdx? (v == ·) with
  | none =>
    rw [hf] at this
    show (-1 : Int) < 0 ↔ _
    constructor
    · intro _ hm; exact this.1 hm rfl
    · intro _; omega
  | some j =>
    rw [hf] at this
    show (j : Int) < 0 ↔ _
    constructor
    · intro h; omega
    · intro hn; exact absurd (this.2 (by simp)) hn
theorem y_Cut (f : Int) : X.cartridgeref1_Cut f 0 1000 = some (cl f) := by
  unfold X.cartridgeref1_Cut cl
  by_cases h1 : f < 0
  · rw [if_pos (by simpa using h1)]
    congr 1; omega
  · rw [if_neg (by simpa using h1)]
    by_cases h2 : f > 1000
    · rw [if_pos (by simpa using h2)]
      congr 1; omega
    · rw [if_neg (by simpa using h2)]
      congr 1; omega
theorem y_ask (h : RInv L n s) {labels : List Int} (hl : labels.length ≤ 1000) : run (X.cartridgeref22_Robot_Serve_s19 labels L s.I s.D s.line s.order) (0 : Int) = some (if ∀ a ∈ labels, a ∈ L then .inl () else .inr (0, 1, (L, s.I, s.D, s.line, s.order))) := by
  have key : run (X.cartridgeref22_Robot_Serve_s19 labels L s.I s.D s.line s.order) ((0 : Nat) : Int) = some (if ∀ a ∈ labels, a ∈ L then .inl () else .inr (0, 1, (L, s.I, s.D, s.line, s.order))) := by
    refine run_seE (n := labels.length) (fun m => ∀ j, j < m → labels.getD j 0 ∈ L) (Nat.zero_le _) (by omega) (fun j hj => by omega) (fun i _ hi hI => ?_) (fun hI => ?_)
    · unfold X.cartridgeref22_Robot_Serve_s19
      simp only
      obtain ⟨r, hr, hr2⟩ := y_find0 h (labels.getD i 0) (I := s.I) (D := s.D)
      rw [if_pos (by simpa using hi), getI_getD 0 hi, bd_s, hr, bd_s]
      by_cases hm : labels.getD i 0 ∈ L
      · left
        rw [if_neg (by simp only [decide_eq_true_eq]; intro h; exact hr2.1 h hm), wr_is (by omega)]
        refine ⟨rfl, fun j hj => ?_⟩
        rcases Nat.lt_succ_iff_lt_or_eq.1 hj with hj | rfl
        · exact hI j hj
        · exact hm
      · right
        rw [if_pos (by simpa using hr2.2 hm), if_neg (fun hall => hm (hall _ (by rw [gD hi]; exact List.getElem_mem hi)))]
    · unfold X.cartridgeref22_Robot_Serve_s19
      simp only
      rw [if_neg (by simp), if_pos (fun a ha => by
        obtain ⟨j, hj, rfl⟩ := List.getElem_of_mem ha
        rw [← gD hj]
        exact hI j hj)]
  exact key
theorem y_Serve_no (h : RInv L n s) {labels : List Int} {fails : Int} (hl : labels.length ≤ 1000) (hbad : ¬ ∀ a ∈ labels, a ∈ L) :
    X.cartridgeref22_Robot_Serve labels fails L s.I s.D s.line s.order = some (0, 1, (L, s.I, s.D, s.line, s.order)) := by
  unfold X.cartridgeref22_Robot_Serve
  rw [y_ask h hl, bd_s, if_neg hbad]
theorem y_Serve (h : RInv L n s) {labels : List Int} {fails : Int} (hl : labels.length ≤ 1000) (hline : s.line.length ≤ 10000) (hok : ∀ a ∈ labels, a ∈ L) {k : Nat} {b : Bool} {s' : RSt}
    (r : Runs L ⟨s.I, s.D, s.line ++ labels, s.order⟩ k b s') (hk : k ≤ 100000) :
    X.cartridgeref22_Robot_Serve labels fails L s.I s.D s.line s.order = some ((k : Int) + (if b = true then cl fails else 0), 0, (L, s'.I, s'.D, s'.line, s'.order)) := by
  unfold X.cartridgeref22_Robot_Serve
  rw [y_ask h hl, bd_s, if_pos hok]
  show X.cartridgeref22_Robot_Serve_e19 s.line labels fails L s.I s.D s.order = _
  unfold X.cartridgeref22_Robot_Serve_e19
  rw [need_is (by omega), bd_s, y_Cut, bd_s]
  have hi2 : RInv L n ⟨s.I, s.D, s.line ++ labels, s.order⟩ := ⟨h.sh, h.dl, h.n1, h.n4, fun v hv => by
    rcases List.mem_append.1 hv with hv | hv
    · exact h.ll v hv
    · exact hok v hv, by simp only [List.length_append]; omega, h.of, h.nd, h.oc⟩
  obtain ⟨c1, c2⟩ := cl_is fails
  obtain ⟨f, hf⟩ := Int.eq_ofNat_of_zero_le c1
  rw [hf]
  have hle : (if b = true then f else 0) ≤ 1000 := by split <;> omega
  have hit := y_loop r hi2 f 0 (by omega) (by omega) (by omega)
  have hrun := run_few _ (by omega) hit
  simp only at hrun
  rw [hrun, bd_s]
  show X.cartridgeref22_Robot_Serve_e41 _ _ _ _ _ _ = _
  unfold X.cartridgeref22_Robot_Serve_e41
  rw [Int.zero_add]
end
end Go.AX
/- What any row of calls answers, who waits still, and which tapes are in drives. -/
namespace Go.AX
open Go.AM
set_option linter.unusedSimpArgs false

theorem y_RNew_ok {L : List Int} {d : Int} (h : okNew L d) : X.cartridgeref22_NewRobot L d = some (some (L, List.replicate L.length (-1), List.replicate d.toNat 0, [], []), 0) := by
  unfold X.cartridgeref22_NewRobot
  rw [y_New_ok h, bd_s]
  rfl
theorem y_RNew_no {L : List Int} {d : Int} (h : ¬ okNew L d) : X.cartridgeref22_NewRobot L d = some (none, 1) := by
  unfold X.cartridgeref22_NewRobot
  rw [y_New_no h, bd_s]
  rfl
section
variable {L : List Int} {q : Nat} {s : RSt}
theorem x_Ask (h : RInv L q s) (hl : s.line.length ≤ 10000) (v : Int) : X.robot_Robot_Ask v L s.D (q : Int) L s.line s.order = some (if v ∈ L then (0, (L, s.D, (q : Int), L, s.line ++ [v], s.order)) else (1, (L, s.D, (q : Int), L, s.line, s.order))) := by
  unfold X.robot_Robot_Ask
  rw [x_is24 v h.sh.small, bd_s]
  by_cases hm : v ∈ L
  · rw [if_pos hm, if_neg (by simpa using hm)]
    unfold X.mount_Line_Add_in_Robot_robot
    rw [need_is (by rw [List.length_singleton]; omega)]; rfl
  · rw [if_neg hm, if_pos (by simpa using hm)]
theorem y_Ask (h : RInv L q s) (hl : s.line.length ≤ 10000) (v : Int) : X.cartridgeref22_Robot_Ask v L s.I s.D s.line s.order = some (if v ∈ L then (0, (L, s.I, s.D, s.line ++ [v], s.order)) else (1, (L, s.I, s.D, s.line, s.order))) := by
  unfold X.cartridgeref22_Robot_Ask
  obtain ⟨r, hr, hr2⟩ := y_find0 h v (I := s.I) (D := s.D)
  rw [hr, bd_s]
  by_cases hm : v ∈ L
  · rw [if_pos hm, if_neg (by simp only [decide_eq_true_eq]; intro h; exact hr2.1 h hm), need_is (by rw [List.length_singleton]; omega)]; rfl
  · rw [if_neg hm, if_pos (by simpa using hr2.2 hm)]
/-- Behind a call all is asked. -/
theorem x_same (h : RInv L q s) (i : Int) (hi : 0 ≤ i ∧ i ≤ 1000) : X.cartridgelaw24_RobotPlays_j375 (q : Int) i L s.D (q : Int) L s.line s.order L s.I s.D s.line s.order = some (.inl (L, s.D, (q : Int), L, s.line, s.order, L, s.I, s.D, s.line, s.order, i + 1)) := by
  unfold X.cartridgelaw24_RobotPlays_j375 X.robot_Robot_Waiting X.mount_Line_Len_in_Robot_robot X.cartridgeref22_Robot_Waiting
  simp only [bd_s, bne_self_eq_false, Bool.false_eq_true, if_false]
  have hn4 := h.n4
  have key : run (X.cartridgelaw24_RobotPlays_s407 (q : Int) L s.D (q : Int) L s.line s.order L s.I s.D) ((-1) : Int) = some (.inl ()) := by
    refine run_is _ (fun d => -1 ≤ d ∧ d ≤ (q : Int) + 1) (fun d => ((q : Int) + 1 - d).toNat) ⟨by omega, by omega⟩ (by omega) ?_
    rintro d ⟨h1, h2⟩
    unfold X.cartridgelaw24_RobotPlays_s407
    simp only
    by_cases hd : d ≤ (q : Int)
    · left
      rw [if_pos (by simpa using hd)]
      unfold X.robot_Robot_Mounted
      rw [x_Mounted, bd_s, bd_s, y_Mounted, bd_s]
      simp only [bne_self_eq_false, Bool.false_eq_true, if_false]
      rw [wr_eq (by omega) (by omega)]
      exact ⟨_, rfl, ⟨by omega, by omega⟩, by omega⟩
    · right
      rw [if_neg (by simpa using hd)]
  rw [key, bd_s]
  show X.cartridgelaw24_RobotPlays_e407 _ _ _ _ _ _ _ _ _ _ _ _ = _
  unfold X.cartridgelaw24_RobotPlays_e407
  rw [wr_eq (by omega) (by omega)]
end

theorem rplays (L : List Int) (d : Int) (l : List Act_law24) (_ : L.length ≤ Go.reachBytes ∧ ∀ y ∈ L, -9223372036854775808 ≤ y ∧ y ≤ 9223372036854775807) (_ : -9223372036854775808 ≤ d ∧ d ≤ 9223372036854775807)
    (_ : l.length ≤ Go.reachBytes ∧ ∀ y ∈ l, (fun (x : Act_law24) => (-9223372036854775808 ≤ x.Way ∧ x.Way ≤ 9223372036854775807) ∧ (-9223372036854775808 ≤ x.N ∧ x.N ≤ 9223372036854775807) ∧ True ∧ (x.Labels.length ≤ Go.reachBytes ∧ ∀ y ∈ x.Labels, -9223372036854775808 ≤ y ∧ y ≤ 9223372036854775807) ∧ True) y) :
    X.cartridgelaw24_RobotPlays L d l = some true := by
  unfold X.cartridgelaw24_RobotPlays
  rw [rAlive, bd_s]
  by_cases hc : L.length ≤ 40 ∧ l.length ≤ 60
  · obtain ⟨c1, c2⟩ := hc
    rw [if_neg (by simp only [Bool.not_true, Bool.false_or, Bool.or_eq_true, decide_eq_true_eq]; omega), need_is (by omega), bd_s]
    by_cases hok : okNew L d
    · rw [x_RNew_ok hok, bd_s]
      simp only
      rw [y_RNew_ok hok, bd_s]
      have hi0 := new_inv hok
      obtain ⟨_, d1, d2, _⟩ := hok
      obtain ⟨q, rfl⟩ := Int.eq_ofNat_of_zero_le (by omega : 0 ≤ d)
      rw [Int.toNat_natCast] at hi0 ⊢
      simp only [X.cartridgelaw24_num, bd_s, bne_self_eq_false, Bool.or_self, Bool.false_eq_true, if_false]
      have key : ∃ r, run (X.cartridgelaw24_RobotPlays_s338 l (q : Int)) (L, List.replicate q (0 : Int), (q : Int), L, ([] : List Int), ([] : List Int), L, List.replicate L.length (-1 : Int), List.replicate q (0 : Int), ([] : List Int), ([] : List Int), (0 : Int)) = some r ∧ (r = .inl () ∨ r = .inr true) := by
        refine run_inv (fun z => ∃ (i : Nat) (s : RSt), i ≤ l.length ∧ s.line.length ≤ 40 * i ∧ RInv L q s ∧ z = (L, s.D, (q : Int), L, s.line, s.order, L, s.I, s.D, s.line, s.order, (i : Int))) (fun (r : Unit ⊕ Bool) => r = .inl () ∨ r = .inr true) (fun z => l.length - z.2.2.2.2.2.2.2.2.2.2.2.toNat) ⟨0, _, by omega, by simp, hi0, rfl⟩ (by simp only; omega) ?_
        rintro z ⟨i, s, hi, hl, hI, rfl⟩
        unfold X.cartridgelaw24_RobotPlays_s338
        simp only
        by_cases hlt : i < l.length
        · rw [if_pos (by simpa using hlt), getI_getD ⟨0, 0, false, []⟩ hlt, bd_s]
          generalize l.getD i ⟨0, 0, false, []⟩ = a
          have on : ∀ s' : RSt, RInv L q s' → s'.line.length ≤ 40 * (i + 1) → ∃ z', X.cartridgelaw24_RobotPlays_j375 (q : Int) (i : Int) L s'.D (q : Int) L s'.line s'.order L s'.I s'.D s'.line s'.order = some (.inl z') ∧ (∃ (i : Nat) (s : RSt), i ≤ l.length ∧ s.line.length ≤ 40 * i ∧ RInv L q s ∧ z' = (L, s.D, (q : Int), L, s.line, s.order, L, s.I, s.D, s.line, s.order, (i : Int))) ∧ l.length - z'.2.2.2.2.2.2.2.2.2.2.2.toNat < l.length - ((i : Int)).toNat := fun s' h1 h2 => by
            refine ⟨_, x_same h1 (i : Int) ⟨by omega, by omega⟩, ⟨i + 1, s', by omega, h2, h1, ?_⟩, by simp only; omega⟩
            rw [show (i : Int) + 1 = ((i + 1 : Nat) : Int) by omega]
          by_cases h40 : a.Labels.length ≤ 40
          · rw [if_neg (by simp only [decide_eq_true_eq]; omega)]
            by_cases w0 : a.Way = 0
            · left
              rw [if_pos (by simpa using w0), x_Ask hI (by omega), bd_s, y_Ask hI (by omega)]
              by_cases hm : a.N ∈ L
              · rw [if_pos hm, if_pos hm]
                simp only [bd_s, bne_self_eq_false, Bool.false_eq_true, if_false]
                exact on ⟨s.I, s.D, s.line ++ [a.N], s.order⟩ ⟨hI.sh, hI.dl, hI.n1, hI.n4, fun v hv => by
                  rcases List.mem_append.1 hv with hv | hv
                  · exact hI.ll v hv
                  · rw [List.mem_singleton.1 hv]; exact hm, by simp only [List.length_append, List.length_singleton]; omega, hI.of, hI.nd, hI.oc⟩ (by simp only [List.length_append, List.length_singleton]; omega)
              · rw [if_neg hm, if_neg hm]
                simp only [bd_s, bne_self_eq_false, Bool.false_eq_true, if_false]
                exact on s hI (by omega)
            · rw [if_neg (by simpa using w0)]
              by_cases w1 : a.Way = 1
              · left
                rw [if_pos (by simpa using w1), x_Step hI, bd_s, y_Step hI, bd_s]
                simp only [bne_self_eq_false, Bool.false_eq_true, if_false]
                refine on (stepR L s a.Fail).2 (step_inv hI _) ?_
                have : (stepR L s a.Fail).2.line.length ≤ s.line.length := by
                  unfold stepR
                  split
                  · exact Nat.le_refl _
                  · split
                    · exact List.length_filter_le _ _
                    · split
                      · exact Nat.le_refl _
                      · unfold pickR; split <;> exact Nat.le_refl _
                omega
              · rw [if_neg (by simpa using w1)]
                by_cases w2 : a.Way = 2
                · left
                  rw [if_pos (by simpa using w2), need_is (by omega), bd_s]
                  by_cases hall : ∀ v ∈ a.Labels, v ∈ L
                  · have hi2 : RInv L q ⟨s.I, s.D, s.line ++ a.Labels, s.order⟩ := ⟨hI.sh, hI.dl, hI.n1, hI.n4, fun v hv => by
                      rcases List.mem_append.1 hv with hv | hv
                      · exact hI.ll v hv
                      · exact hall v hv, by simp only [List.length_append]; omega, hI.of, hI.nd, hI.oc⟩
                    obtain ⟨k, b, s', hr, hk, he, hI', _⟩ := runs_ex _ (Nat.le_refl _) hi2
                    have hphi := phi_le ⟨s.I, s.D, s.line ++ a.Labels, s.order⟩
                    simp only [List.length_append] at hphi
                    rw [x_Serve hI (by omega) (by omega) hall hr (by omega), bd_s, y_Serve hI (by omega) (by omega) hall hr (by omega), bd_s]
                    simp only [bne_self_eq_false, Bool.not_false, optG_true, bd_s, Bool.or_self, Bool.false_eq_true, if_false]
                    exact on s' hI' (by rw [he]; simp)
                  · rw [x_Serve_no hI (by omega) hall, bd_s, y_Serve_no hI (by omega) hall, bd_s]
                    simp only [bne_self_eq_false, Bool.not_false, optG_true, bd_s, Bool.or_self, Bool.false_eq_true, if_false]
                    exact on s hI (by omega)
                · rw [if_neg (by simpa using w2)]
                  exact .inl (on s hI (by omega))
          · right
            rw [if_pos (by simp only [decide_eq_true_eq]; omega)]
            exact ⟨_, rfl, .inr rfl⟩
        · right
          have : i = l.length := by omega
          subst this
          rw [if_neg (by simp)]
          exact ⟨_, rfl, .inl rfl⟩
      obtain ⟨r, hr, h⟩ := key
      rw [hr, bd_s]
      rcases h with rfl | rfl
      · rfl
      · rfl
    · rw [x_RNew_no hok, bd_s]
      simp only
      rw [y_RNew_no hok, bd_s]
      rfl
  · rw [if_pos (by simp only [Bool.not_true, Bool.false_or, Bool.or_eq_true, decide_eq_true_eq]; omega)]
end Go.AX
