import Derived.Test.YtjkjoihlpnahdaaS1
/- The plain law of Plan. -/
namespace Go.Proofs.Ytjkjoihlpnahdaa
open Go.AM

def PlanOK (rooms : List Int) (size : Int) : List Pc → Nat → Int → Prop
  | [], _, at' => at' = size
  | p :: r, next, at' => ∃ t : Nat, p.1 = t ∧ next ≤ t ∧ t < rooms.length ∧ p.2.1 = at' ∧ 1 ≤ p.2.2 ∧ p.2.2 ≤ fitsS (rooms.getD t 0) ∧ (r ≠ [] → p.2.2 = fitsS (rooms.getD t 0)) ∧
      (∀ k, next ≤ k → k < t → fitsS (rooms.getD k 0) = 0) ∧ PlanOK rooms size r (t + 1) (at' + p.2.2)

theorem PlanOK.len {rooms : List Int} {size : Int} : ∀ {l : List Pc} {next : Nat} {at' : Int}, PlanOK rooms size l next at' → l.length ≤ rooms.length - next
  | [], _, _, _ => by simp
  | p :: r, next, at', ⟨t, _, h1, h2, _, _, _, _, _, h3⟩ => by
    have := h3.len
    simp only [List.length_cons]
    omega

theorem PlanOK.le {rooms : List Int} {size : Int} : ∀ {l : List Pc} {next : Nat} {at' : Int}, PlanOK rooms size l next at' → at' ≤ size
  | [], _, _, h => Int.le_of_eq h
  | p :: r, next, at', ⟨t, _, h1, h2, _, h4, _, _, _, h3⟩ => by
    have := h3.le
    omega

theorem planL_ok {rooms : List Int} {size : Int} (hpos : 1 ≤ size) : ∀ (rs : List Int) (i next : Nat) (at' : Int) (out l : List Pc), rs = rooms.drop i → next ≤ i → (∀ k, next ≤ k → k < i → fitsS (rooms.getD k 0) = 0) → at' < size →
    planL size rs i at' out = some l → ∃ l', l = out ++ l' ∧ l' ≠ [] ∧ PlanOK rooms size l' next at'
  | [], i, next, at', out, l, _, _, _, _, h => by simp [planL] at h
  | r :: rs, i, next, at', out, l, hrs, hni, hz, hlt, h => by
    have hi : i < rooms.length := by
      rcases Nat.lt_or_ge i rooms.length with h1 | h1
      · exact h1
      · rw [List.drop_of_length_le h1] at hrs; cases hrs
    rw [List.drop_eq_getElem_cons hi] at hrs
    injection hrs with h1 h2
    have hr : rooms.getD i 0 = r := by simp [hi, h1]
    have hf := fitsS_lo r
    simp only [planL] at h
    by_cases hc : min (fitsS r) (size - at') = 0 ∧ (size > 0 ∨ r < 2)
    · rw [if_pos hc] at h
      have := planL_ok hpos rs (i + 1) next at' out l h2 (by omega) (fun k h3 h4 => by
        by_cases hk : k = i
        · subst hk; rw [hr]; omega
        · exact hz k h3 (by omega)) hlt (by simpa using h)
      exact this
    · rw [if_neg hc] at h
      by_cases hd : at' + min (fitsS r) (size - at') = size
      · rw [if_pos hd] at h
        injection h with h
        subst h
        refine ⟨[(i, at', min (fitsS r) (size - at'))], rfl, by simp, i, rfl, hni, hi, rfl, ?_, ?_, fun hh => (hh rfl).elim, hz, hd⟩
        · simp only; omega
        · simp only; rw [hr]; omega
      · rw [if_neg hd] at h
        have hmin : min (fitsS r) (size - at') = fitsS r := by omega
        rw [hmin] at h hc hd
        have h0 : fitsS r ≠ 0 := by
          intro h0
          by_cases h3 : size > 0
          · exact hc ⟨h0, .inl h3⟩
          · by_cases h4 : r < 2
            · exact hc ⟨h0, .inr h4⟩
            · omega
        have hlt' : at' + fitsS r < size := by omega
        obtain ⟨l', e1, e2, e3⟩ := planL_ok hpos rs (i + 1) (i + 1) (at' + fitsS r) (out ++ [((i : Int), at', fitsS r)]) l h2 (by omega) (fun k h3 h4 => by omega) hlt' (by simpa using h)
        refine ⟨(i, at', fitsS r) :: l', by rw [e1]; simp, by simp, i, rfl, hni, hi, rfl, ?_, ?_, fun _ => by rw [hr], hz, e3⟩
        · simp only; omega
        · simp only; rw [hr]; exact Int.le_refl _

def sumF : List Int → Int
  | [] => 0
  | r :: rs => fitsS r + sumF rs

theorem sumF_append : ∀ (a b : List Int), sumF (a ++ b) = sumF a + sumF b
  | [], b => by simp [sumF]
  | x :: a, b => by simp only [List.cons_append, sumF, sumF_append a b]; omega

theorem sumF_bd : ∀ (l : List Int), 0 ≤ sumF l ∧ sumF l ≤ l.length * 70368744177536
  | [] => by simp [sumF]
  | x :: l => by
    have := sumF_bd l
    have := fitsS_lo x
    simp only [sumF, List.length_cons]
    omega

theorem planL_sum {size : Int} (h1 : 1 ≤ size) : ∀ (rs : List Int) (i at' : Int) (out : List Pc), at' < size → ((planL size rs i at' out).isSome = true ↔ size ≤ at' + sumF rs)
  | [], i, at', out, h => by simp [planL, sumF]; omega
  | r :: rs, i, at', out, h => by
    have hf := fitsS_lo r
    have hs : ∀ rs, 0 ≤ sumF rs := by
      intro rs
      induction rs with
      | nil => simp [sumF]
      | cons x rs ih => have := fitsS_lo x; simp only [sumF]; omega
    have hsr := hs rs
    simp only [planL, sumF]
    by_cases hc : min (fitsS r) (size - at') = 0 ∧ (size > 0 ∨ r < 2)
    · rw [if_pos hc, planL_sum h1 rs _ _ _ h]
      omega
    · rw [if_neg hc]
      by_cases hd : at' + min (fitsS r) (size - at') = size
      · rw [if_pos hd]
        simp
        omega
      · rw [if_neg hd, planL_sum h1 rs _ _ _ (by omega)]
        omega

theorem planS_sum {rs : List Int} {size : Int} (h1 : 1 ≤ size) (h2 : size ≤ 4000) : ((planS rs size).2 = 0 ∧ size ≤ sumF rs) ∨ ((planS rs size).2 = 7 ∧ (planS rs size).1 = [] ∧ sumF rs < size) := by
  have := planL_sum h1 rs 0 0 [] (by omega)
  unfold planS
  rw [if_neg (by omega)]
  cases hp : planL size rs 0 0 [] with
  | some l => rw [hp] at this; simp at this; left; simp; omega
  | none => rw [hp] at this; simp at this; right; simp; omega

theorem planS_ok {rooms : List Int} {size : Int} (h1 : 1 ≤ size) (h2 : size ≤ 4000) : ((planS rooms size).2 ≠ 0 ∧ (planS rooms size).1 = []) ∨ ((planS rooms size).2 = 0 ∧ PlanOK rooms size (planS rooms size).1 0 0) := by
  unfold planS
  rw [if_neg (by omega)]
  cases hp : planL size rooms 0 0 [] with
  | none => left; simp
  | some l =>
    right
    obtain ⟨l', e1, _, e3⟩ := planL_ok h1 rooms 0 0 0 [] l rfl (by omega) (fun k h3 h4 => by omega) (by omega) hp
    simp at e1
    subst e1
    exact ⟨rfl, e3⟩
end Go.Proofs.Ytjkjoihlpnahdaa
