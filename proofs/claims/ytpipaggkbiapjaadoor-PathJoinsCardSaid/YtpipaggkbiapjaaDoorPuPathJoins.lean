import Derived.Test.YtpipaggkbiapjaaDoorXFn
import Derived.Test.YtpipaggkbiapjaaDoorXN
import Derived.Laws.RangeAny
import Derived.Laws.RangeString
/- Plain laws of counting loops and of lists that are filled place by place. -/
namespace Go.AX

theorem iter_more {σ ρ : Type} {f : σ → Option (σ ⊕ ρ)} : ∀ {n : Nat} {s : σ} {r : ρ} (k : Nat), iter f n s = some r → iter f (n + k) s = some r
  | 0, _, _, _, h => by simp [iter] at h
  | n + 1, s, r, k, h => by
    rw [Nat.add_right_comm]
    simp only [iter] at h ⊢
    cases hs : f s with
    | none => rw [hs] at h; cases h
    | some q =>
      rw [hs] at h
      cases q with
      | inl s' => exact iter_more k h
      | inr r' => exact h
theorem run_few {σ ρ : Type} {f : σ → Option (σ ⊕ ρ)} {s : σ} {r : ρ} (n : Nat) (hn : n ≤ 1000000) (h : iter f n s = some r) : run f s = some r := by
  unfold run
  rw [FUEL_eq, show (4611686018427387904 : Nat) = n + (4611686018427387904 - n) from by omega]
  exact iter_more _ h

/-- A loop over numbers. -/
theorem run_ix {σ ρ : Type} {f : σ × Int → Option ((σ × Int) ⊕ ρ)} {s0 : σ} {a n : Nat} (I : Nat → σ → Prop) (R : ρ → Prop) (han : a ≤ n) (hn : n ≤ 4000000000000000000) (h0 : I a s0)
    (step : ∀ i s, a ≤ i → i < n → I i s → (∃ s', f (s, (i : Int)) = some (.inl (s', ((i + 1 : Nat) : Int))) ∧ I (i + 1) s') ∨ ∃ r, f (s, (i : Int)) = some (.inr r) ∧ R r)
    (fin : ∀ s, I n s → ∃ r, f (s, (n : Int)) = some (.inr r) ∧ R r) : ∃ r, run f (s0, (a : Int)) = some r ∧ R r := by
  refine run_inv (fun p => ∃ i : Nat, p.2 = (i : Int) ∧ a ≤ i ∧ i ≤ n ∧ I i p.1) R (fun p => n - p.2.toNat) ⟨a, rfl, Nat.le_refl _, han, h0⟩ (by simp only; omega) ?_
  rintro ⟨s, x⟩ ⟨i, rfl, hai, hin, hI⟩
  rcases Nat.lt_or_ge i n with hlt | hge
  · rcases step i s hai hlt hI with ⟨s', h1, h2⟩ | h
    · exact .inl ⟨_, h1, ⟨i + 1, rfl, by omega, by omega, h2⟩, by simp only; omega⟩
    · exact .inr h
  · have : i = n := by omega
    subst this
    exact .inr (fin s hI)
/-- A loop over numbers, told as a function of them. -/
theorem run_G {σ ρ : Type} {f : σ × Int → Option ((σ × Int) ⊕ ρ)} (G : Nat → σ) {s0 : σ} {a n : Nat} {r : ρ} (han : a ≤ n) (hn : n ≤ 4000000000000000000) (h0 : s0 = G a)
    (step : ∀ i, a ≤ i → i < n → f (G i, (i : Int)) = some (.inl (G (i + 1), ((i + 1 : Nat) : Int)))) (fin : f (G n, (n : Int)) = some (.inr r)) : run f (s0, (a : Int)) = some r := by
  obtain ⟨r', h1, h2⟩ := run_ix (f := f) (s0 := s0) (a := a) (n := n) (fun i s => s = G i) (fun x => x = r) han hn h0 (fun i s hi hlt e => .inl ⟨_, by rw [e]; exact step i hi hlt, rfl⟩) (fun s e => ⟨r, by rw [e]; exact fin, rfl⟩)
  rw [h1, h2]
theorem run_G0 {σ ρ : Type} {f : σ × Int → Option ((σ × Int) ⊕ ρ)} (G : Nat → σ) {s0 : σ} {n : Nat} {r : ρ} (hn : n ≤ 4000000000000000000) (h0 : s0 = G 0)
    (step : ∀ i, i < n → f (G i, (i : Int)) = some (.inl (G (i + 1), ((i + 1 : Nat) : Int)))) (fin : f (G n, (n : Int)) = some (.inr r)) : run f (s0, (0 : Int)) = some r :=
  run_G (a := 0) G (Nat.zero_le _) hn h0 (fun i _ h => step i h) fin
theorem run_ix0 {σ ρ : Type} {f : σ × Int → Option ((σ × Int) ⊕ ρ)} {s0 : σ} {n : Nat} (I : Nat → σ → Prop) (R : ρ → Prop) (hn : n ≤ 4000000000000000000) (h0 : I 0 s0)
    (step : ∀ i s, i < n → I i s → (∃ s', f (s, (i : Int)) = some (.inl (s', ((i + 1 : Nat) : Int))) ∧ I (i + 1) s') ∨ ∃ r, f (s, (i : Int)) = some (.inr r) ∧ R r)
    (fin : ∀ s, I n s → ∃ r, f (s, (n : Int)) = some (.inr r) ∧ R r) : ∃ r, run f (s0, (0 : Int)) = some r ∧ R r :=
  run_ix (a := 0) I R (Nat.zero_le _) hn h0 (fun i s _ h k => step i s h k) fin
/-- A search over numbers, without other state. -/
theorem run_se {ρ : Type} {f : Int → Option (Int ⊕ ρ)} {a n : Nat} (R : ρ → Prop) (I : Nat → Prop) (han : a ≤ n) (hn : n ≤ 4000000000000000000) (h0 : I a)
    (step : ∀ i, a ≤ i → i < n → I i → (f (i : Int) = some (.inl ((i + 1 : Nat) : Int)) ∧ I (i + 1)) ∨ ∃ r, f (i : Int) = some (.inr r) ∧ R r)
    (fin : I n → ∃ r, f (n : Int) = some (.inr r) ∧ R r) : ∃ r, run f (a : Int) = some r ∧ R r := by
  refine run_inv (fun x => ∃ i : Nat, x = (i : Int) ∧ a ≤ i ∧ i ≤ n ∧ I i) R (fun x => n - x.toNat) ⟨a, rfl, Nat.le_refl _, han, h0⟩ (by omega) ?_
  rintro x ⟨i, rfl, hai, hin, hI⟩
  rcases Nat.lt_or_ge i n with hlt | hge
  · rcases step i hai hlt hI with ⟨h1, h2⟩ | h
    · exact .inl ⟨_, h1, ⟨i + 1, rfl, by omega, by omega, h2⟩, by omega⟩
    · exact .inr h
  · have : i = n := by omega
    subst this
    exact .inr (fin hI)

theorem run_seE {ρ : Type} {f : Int → Option (Int ⊕ ρ)} {a n : Nat} {r : ρ} (I : Nat → Prop) (han : a ≤ n) (hn : n ≤ 4000000000000000000) (h0 : I a)
    (step : ∀ i, a ≤ i → i < n → I i → (f (i : Int) = some (.inl ((i + 1 : Nat) : Int)) ∧ I (i + 1)) ∨ f (i : Int) = some (.inr r))
    (fin : I n → f (n : Int) = some (.inr r)) : run f (a : Int) = some r := by
  obtain ⟨r', h1, h2⟩ := run_se (f := f) (fun x => x = r) I han hn h0 (fun i h1 h2 h3 => (step i h1 h2 h3).imp id fun h => ⟨r, h, rfl⟩) (fun h => ⟨r, fin h, rfl⟩)
  rw [h1, h2]
theorem run_ixE {σ ρ : Type} {f : σ × Int → Option ((σ × Int) ⊕ ρ)} {s0 : σ} {n : Nat} {r : ρ} (I : Nat → σ → Prop) (hn : n ≤ 4000000000000000000) (h0 : I 0 s0)
    (step : ∀ i s, i < n → I i s → (∃ s', f (s, (i : Int)) = some (.inl (s', ((i + 1 : Nat) : Int))) ∧ I (i + 1) s') ∨ f (s, (i : Int)) = some (.inr r))
    (fin : ∀ s, I n s → f (s, (n : Int)) = some (.inr r)) : run f (s0, (0 : Int)) = some r := by
  obtain ⟨r', h1, h2⟩ := run_ix0 (f := f) (s0 := s0) I (fun x => x = r) hn h0 (fun i s h1 h2 => (step i s h1 h2).imp id fun h => ⟨r, h, rfl⟩) (fun s h => ⟨r, fin s h, rfl⟩)
  rw [h1, h2]

/-- A list told place by place. -/
def tab {α : Type} (n : Nat) (g : Nat → α) : List α := (List.range n).map g
section
variable {α : Type} {n : Nat} {g g' : Nat → α}
@[simp] theorem tab_len : (tab n g).length = n := by simp [tab]
theorem tab_get {i : Nat} (h : i < (tab n g).length) : (tab n g)[i] = g i := by simp [tab]
theorem tab_get? {i : Nat} (h : i < n) : (tab n g)[i]? = some (g i) := by simp [tab, h]
theorem tab_congr (h : ∀ i, i < n → g i = g' i) : tab n g = tab n g' := by
  unfold tab
  exact List.map_congr_left fun i hi => h i (List.mem_range.1 hi)
theorem tab_set {i : Nat} {y : α} : (tab n g).set i y = tab n (fun j => if j = i then y else g j) := by
  apply List.ext_getElem (by simp)
  intro j h1 h2
  rw [List.getElem_set, tab_get (by simpa using h2), tab_get h2]
  by_cases hij : i = j
  · rw [if_pos hij, if_pos hij.symm]
  · rw [if_neg hij, if_neg fun e => hij e.symm]
theorem tab_rep {z : α} : List.replicate n z = tab n (fun _ => z) := by
  apply List.ext_getElem?
  intro j
  by_cases hj : j < n <;> simp [tab, hj]
theorem getI_tab {i : Nat} (h : i < n) : getI (tab n g) (i : Int) = some (g i) := by rw [getI_nat (by simpa using h), tab_get]
theorem tab_succ : tab (n + 1) g = tab n g ++ [g n] := by simp [tab, List.range_succ]
theorem tab_zero : tab 0 g = [] := rfl
theorem tab_all (z : α) (xs : List α) : xs = tab xs.length (fun j => xs.getD j z) := by
  apply List.ext_getElem?
  intro j
  by_cases hj : j < xs.length
  · rw [tab_get? hj, List.getElem?_eq_getElem hj]; simp [List.getD_eq_getElem?_getD, hj]
  · rw [List.getElem?_eq_none (by omega), List.getElem?_eq_none (by simp; omega)]
theorem tab_getD {i : Nat} {z : α} : (tab n g).getD i z = if i < n then g i else z := by
  by_cases h : i < n
  · simp [tab, h, List.getD_eq_getElem?_getD]
  · rw [if_neg h, List.getD_eq_getElem?_getD, List.getElem?_eq_none (by simp; omega)]; rfl
theorem mem_tab {x : α} : x ∈ tab n g ↔ ∃ i, i < n ∧ g i = x := by simp [tab]
theorem getI_getD {xs : List α} (z : α) {i : Nat} (h : i < xs.length) : getI xs (i : Int) = some (xs.getD i z) := by
  rw [getI_nat h]; simp [List.getD_eq_getElem?_getD, h]
theorem set_getD {xs : List α} {z : α} {i j : Nat} {y : α} (h : i < xs.length) : (xs.set i y).getD j z = if j = i then y else xs.getD j z := by
  simp only [List.getD_eq_getElem?_getD, List.getElem?_set]
  by_cases e : i = j
  · subst e; simp [h]
  · rw [if_neg e, if_neg fun h : j = i => e h.symm]
theorem list_ext_getD (z : α) {xs ys : List α} (hl : xs.length = ys.length) (h : ∀ i, i < xs.length → xs.getD i z = ys.getD i z) : xs = ys := by
  rw [tab_all z xs, tab_all z ys, ← hl]
  exact tab_congr h
end
end Go.AX
/- Texts cut at a sign, and their parts. -/
namespace Go.AX
def okN (x : Nat) : Bool := (decide (97 ≤ x) && decide (x ≤ 122)) || (decide (48 ≤ x) && decide (x ≤ 57)) || x == 46 || x == 45 || x == 95
def badB (w : List UInt8) : Bool := w == [] || w == [46] || w == [46, 46] || w.any fun x => !okN x.toNat
def splA (w : List UInt8) : List UInt8 → List (List UInt8)
  | [] => [w]
  | x :: l => if x = 47 then w :: splA [] l else splA (w ++ [x]) l
def spl (l : List UInt8) : List (List UInt8) := splA [] l
def rightB (l : List UInt8) : Bool := decide (l.length ≤ 24) && !(spl l).any badB

theorem splA_no : ∀ {l w : List UInt8}, (47 : UInt8) ∉ l → splA w l = [w ++ l]
  | [], w, _ => by simp [splA]
  | x :: l, w, h => by
    have h1 : x ≠ 47 := fun e => h (by simp [e])
    rw [splA, if_neg h1, splA_no (fun h2 => h (List.mem_cons_of_mem _ h2))]
    simp
theorem splA_cut : ∀ {a l w : List UInt8}, (47 : UInt8) ∉ a → splA w (a ++ 47 :: l) = (w ++ a) :: splA [] l
  | [], l, w, _ => by simp [splA]
  | x :: a, l, w, h => by
    have h1 : x ≠ 47 := fun e => h (by simp [e])
    show splA w (x :: (a ++ 47 :: l)) = _
    rw [splA, if_neg h1, splA_cut (fun h2 => h (List.mem_cons_of_mem _ h2))]
    simp
theorem spl_no {l : List UInt8} (h : (47 : UInt8) ∉ l) : spl l = [l] := by rw [spl, splA_no h]; rfl
theorem spl_cut {a l : List UInt8} (h : (47 : UInt8) ∉ a) : spl (a ++ 47 :: l) = a :: spl l := by rw [spl, splA_cut h]; rfl
theorem splA_len : ∀ (l w : List UInt8), (splA w l).length = l.count 47 + 1
  | [], w => rfl
  | x :: l, w => by
    unfold splA
    split
    · next h => subst h; simp [splA_len l]
    · next h => rw [splA_len l]; simp [h]
theorem spl_len (l : List UInt8) : (spl l).length = l.count 47 + 1 := splA_len l []
theorem spl_pos (l : List UInt8) : 0 < (spl l).length := by rw [spl_len]; omega
theorem splA_mem : ∀ (l w : List UInt8), (47 : UInt8) ∉ w → ∀ p ∈ splA w l, (47 : UInt8) ∉ p
  | [], w, h, p, hp => by simp [splA] at hp; subst hp; exact h
  | x :: l, w, h, p, hp => by
    unfold splA at hp
    split at hp
    · rcases List.mem_cons.1 hp with rfl | hp
      · exact h
      · exact splA_mem l [] (by simp) p hp
    · next hx => exact splA_mem l (w ++ [x]) (by simp [h, Ne.symm hx]) p hp
theorem spl_mem {l p : List UInt8} (h : p ∈ spl l) : (47 : UInt8) ∉ p := splA_mem l [] (by simp) p h
/-- The length of all parts. -/
theorem splA_le : ∀ (l w : List UInt8), ∀ p ∈ splA w l, p.length ≤ w.length + l.length
  | [], w, p, hp => by simp [splA] at hp; subst hp; simp
  | x :: l, w, p, hp => by
    unfold splA at hp
    split at hp
    · rcases List.mem_cons.1 hp with rfl | hp
      · simp
      · have := splA_le l [] p hp; simp at this ⊢; omega
    · have := splA_le l (w ++ [x]) p hp; simp at this ⊢; omega

/-- Parts with a sign between. -/
def joi : List (List UInt8) → List UInt8
  | [] => []
  | [w] => w
  | w :: v :: l => w ++ 47 :: joi (v :: l)
theorem joi_spl : ∀ (l w : List UInt8), joi (splA w l) = w ++ l
  | [], w => by simp [splA, joi]
  | x :: l, w => by
    unfold splA
    split
    · next h =>
      have e := joi_spl l []
      obtain ⟨v, r, hr⟩ : ∃ v r, splA [] l = v :: r := by
        cases h2 : splA [] l with
        | nil => have := splA_len l []; rw [h2] at this; simp at this
        | cons v r => exact ⟨v, r, rfl⟩
      rw [hr] at e ⊢
      show w ++ 47 :: joi (v :: r) = _
      rw [e, h]; simp
    · next h => rw [joi_spl l]; simp
theorem joi_of_spl (l : List UInt8) : joi (spl l) = l := by rw [spl, joi_spl]; rfl
theorem spl_joi : ∀ {ps : List (List UInt8)}, ps ≠ [] → (∀ p ∈ ps, (47 : UInt8) ∉ p) → spl (joi ps) = ps
  | [], h, _ => absurd rfl h
  | [w], _, h => by rw [joi, spl_no (h w (by simp))]
  | w :: v :: l, _, h => by
    rw [joi, spl_cut (h w (by simp)), spl_joi (by simp) (fun p hp => h p (List.mem_cons_of_mem _ hp))]
theorem joi_app : ∀ {a b : List (List UInt8)}, a ≠ [] → b ≠ [] → joi (a ++ b) = joi a ++ 47 :: joi b
  | [], _, h, _ => absurd rfl h
  | [w], b, _, hb => by
    cases b with
    | nil => exact absurd rfl hb
    | cons v l => rfl
  | w :: v :: l, b, _, hb => by
    have := joi_app (a := v :: l) (b := b) (by simp) hb
    show w ++ 47 :: joi ((v :: l) ++ b) = (w ++ 47 :: joi (v :: l)) ++ 47 :: joi b
    rw [this]; simp
end Go.AX
/- Which texts are paths, and their parts. -/
namespace Go.AX
open Go.AM
set_option linter.unusedSimpArgs false
theorem bd_s {α β : Type} (a : α) (f : α → Option β) : (some a).bind f = f a := rfl
theorem other_is (x : Nat) : X.path_other (I32.mk (x : Int)) = some (!okN x) := by
  unfold X.path_other okN
  simp only
  congr 1
  rw [Bool.eq_iff_iff]
  simp
  omega
theorem ba_get (s : Str) (i : Nat) (h : i < s.ba.size) : s.ba[i]'h = s.l[i]'(by rw [ba_size] at h; exact h) := rfl
theorem okN_high {x : Nat} (h : 128 ≤ x) : okN x = false := by
  unfold okN
  simp
  omega
theorem idx_from (s : Str) : ∀ (f pos : Nat), s.l.length ≤ pos + f → (0 ≤ Lib.idxFuncFrom (fun x => !okN x) true s.ba f pos ↔ ∃ i, ∃ h : i < s.l.length, pos ≤ i ∧ okN (s.l[i]).toNat = false)
  | 0, pos, h => by
    unfold Lib.idxFuncFrom
    constructor
    · intro h; omega
    · rintro ⟨i, h1, h2, _⟩; omega
  | f + 1, pos, h => by
    unfold Lib.idxFuncFrom
    by_cases hp : pos < s.ba.size
    · rw [if_pos hp]
      have hp' : pos < s.l.length := by rwa [ba_size] at hp
      by_cases ha : (s.l[pos]).toNat < 128
      · have hd := Go.decode_ascii s.ba pos hp (by rw [ba_get]; exact ha)
        have hd1 : (Utf8.decode s.ba pos).1 = (s.l[pos]).toNat := by rw [hd]; rfl
        have hd2 : (Utf8.decode s.ba pos).2 = 1 := by rw [hd]
        by_cases hk : okN (s.l[pos]).toNat = true
        · rw [if_neg (by show ¬ ((!okN (Utf8.decode s.ba pos).1) = true); rw [hd1]; simp [hk]), hd2, idx_from s f (pos + 1) (by omega)]
          constructor
          · rintro ⟨i, h1, h2, h3⟩; exact ⟨i, h1, by omega, h3⟩
          · rintro ⟨i, h1, h2, h3⟩
            refine ⟨i, h1, ?_, h3⟩
            rcases Nat.lt_or_ge pos i with h4 | h4
            · exact h4
            · obtain rfl : i = pos := by omega
              rw [hk] at h3; cases h3
        · have hk : okN (s.l[pos]).toNat = false := by simpa using hk
          rw [if_pos (by show (!okN (Utf8.decode s.ba pos).1) = true; rw [hd1]; simp [hk])]
          exact ⟨fun _ => ⟨pos, hp', Nat.le_refl _, hk⟩, fun _ => by omega⟩
      · obtain ⟨h1, h2⟩ := Go.decode_high s.ba pos hp (by rw [ba_get]; omega)
        rw [if_pos (by show (!okN (Utf8.decode s.ba pos).1) = true; simp [okN_high h1])]
        exact ⟨fun _ => ⟨pos, hp', Nat.le_refl _, okN_high (by omega)⟩, fun _ => by omega⟩
    · rw [if_neg hp]
      rw [ba_size] at hp
      constructor
      · intro h; omega
      · rintro ⟨i, h1, h2, _⟩; omega
theorem cont_is (s : Str) : X.strings_ContainsFunc s (fun a1 => X.path_other a1) = some (s.l.any fun x => !okN x.toNat) := by
  unfold X.strings_ContainsFunc X.strings_IndexFunc X.strings_indexFunc
  rw [if_pos (by intro x _; show (X.path_other _).isSome = true; rw [other_is]; rfl), bd_s, bd_s]
  have e : (fun x : Nat => (X.path_other (I32.mk (x : Int))).getD false) = fun x => !okN x := by
    funext x; rw [other_is]; rfl
  rw [e]
  congr 1
  rw [Bool.eq_iff_iff, decide_eq_true_eq]
  have := idx_from s s.ba.size 0 (by rw [ba_size]; omega)
  unfold Lib.idxFunc
  rw [ge_iff_le, this, List.any_eq_true]
  constructor
  · rintro ⟨i, h1, _, h2⟩; exact ⟨s.l[i], List.getElem_mem h1, by simp [h2]⟩
  · rintro ⟨x, h1, h2⟩
    obtain ⟨i, h3, rfl⟩ := List.mem_iff_getElem.1 h1
    exact ⟨i, h3, Nat.zero_le _, by simpa using h2⟩
theorem wrong_is (s : Str) : X.path_wrong s = some (badB s.l) := by
  unfold X.path_wrong badB
  rw [cont_is]
  simp only [optG]
  cases h1 : s.l == [] <;> cases h2 : s.l == [46] <;> cases h3 : s.l == [46, 46] <;> simp [bd_s, h1, h2, h3]

/-! ### cut at the sign -/
theorem ixb_no : ∀ {l : List UInt8}, (47 : UInt8) ∉ l → Lib.indexByte l 47 = -1
  | [], _ => rfl
  | x :: l, h => by
    have h1 : x ≠ 47 := fun e => h (by simp [e])
    rw [Lib.indexByte, ixb_no (fun h2 => h (List.mem_cons_of_mem _ h2))]
    simp [h1]
theorem ixb_cut : ∀ {a l : List UInt8}, (47 : UInt8) ∉ a → Lib.indexByte (a ++ 47 :: l) 47 = (a.length : Int)
  | [], l, _ => by simp [Lib.indexByte]
  | x :: a, l, h => by
    have h1 : x ≠ 47 := fun e => h (by simp [e])
    show Lib.indexByte (x :: (a ++ 47 :: l)) 47 = _
    rw [Lib.indexByte, ixb_cut (fun h2 => h (List.mem_cons_of_mem _ h2))]
    simp [h1]
theorem cut_at : ∀ {l : List UInt8}, (47 : UInt8) ∈ l → ∃ a r, l = a ++ 47 :: r ∧ (47 : UInt8) ∉ a
  | [], h => by cases h
  | x :: l, h => by
    by_cases h1 : x = 47
    · exact ⟨[], l, by rw [h1]; rfl, by simp⟩
    · obtain ⟨a, r, e, h2⟩ := cut_at (l := l) (by rcases List.mem_cons.1 h with e | e; exact absurd e.symm h1; exact e)
      exact ⟨x :: a, r, by rw [e]; rfl, by simp [h2, Ne.symm h1]⟩
theorem index_is (s : Str) : X.strings_Index_k47 s = some (Lib.indexByte s.l 47) := by
  unfold X.strings_Index_k47 X.stringslite_Index_k47 X.stringslite_IndexByte
  have e : getI (Str.mk [47]).l (0 : Int) = some 47 := rfl
  by_cases h : (Str.mk [47]).l == s.l
  · rw [if_pos h]
    have : s.l = [47] := (eq_of_beq h).symm
    rw [this]; rfl
  · rw [if_neg h, e]; rfl
theorem slc_nn {α : Type} (xs : List α) (a b : Nat) : slc xs (a : Int) (b : Int) = (xs.drop a).take (b - a) := by
  unfold slc
  simp
theorem slc_0n {α : Type} (xs : List α) (b : Nat) : slc xs (0 : Int) (b : Int) = xs.take b := by
  have := slc_nn xs 0 b
  simpa using this
theorem split_is (s : Str) (hl : s.l.length ≤ 1000) : X.strings_Split_k47 s = some ((spl s.l).map Str.mk) := by
  have hc : s.l.count 47 ≤ s.l.length := List.count_le_length
  unfold X.strings_Split_k47 X.strings_genSplit_k47_0_1 X.strings_Count_k47
  have e : getI (Str.mk [47]).l (0 : Int) = some 47 := rfl
  rw [e, bd_s, bd_s]
  generalize hn : s.l.count 47 = c at *
  have e1 : wr ((c : Int) + (1 : Int)) = ((c + 1 : Nat) : Int) := wr_succ (by omega)
  have e2 : wr ((s.l.length : Int) + (1 : Int)) = ((s.l.length + 1 : Nat) : Int) := wr_succ (by omega)
  have e3 : min (((c + 1 : Nat) : Int)) (((s.l.length + 1 : Nat) : Int)) = ((c + 1 : Nat) : Int) := by omega
  rw [e1, e2, e3, need_is (by omega), bd_s]
  have e4 : wr (((c + 1 : Nat) : Int) - (1 : Int)) = (c : Int) := by rw [wr_eq (by omega) (by omega)]; omega
  have key : ∃ o, run (X.strings_genSplit_k47_0_1_s17 (c : Int) s) (s, List.replicate (((c + 1 : Nat) : Int)).toNat (Str.mk []), (0 : Int)) = some o ∧
      ∃ (rest : Str) (arr : List Str), o = (rest, arr, (c : Int)) ∧ arr.length = c + 1 ∧ (spl rest.l).length = 1 ∧ arr.take c ++ (spl rest.l).map Str.mk = (spl s.l).map Str.mk := by
    refine run_inv (fun p => ∃ (i : Nat) (rest : Str) (arr : List Str), p = (rest, arr, (i : Int)) ∧ arr.length = c + 1 ∧ i + (spl rest.l).length = c + 1 ∧ rest.l.length ≤ 1000 ∧ arr.take i ++ (spl rest.l).map Str.mk = (spl s.l).map Str.mk) _ (fun p => c - p.2.2.toNat)
      ⟨0, s, _, rfl, by simp, by rw [spl_len, hn]; omega, hl, by simp⟩ (by simp only; omega) ?_
    rintro _ ⟨i, rest, arr, rfl, h1, h2, h3, h4⟩
    unfold X.strings_genSplit_k47_0_1_s17
    simp only [e1, e2, e3, e4]
    rcases Nat.lt_or_ge i c with hi | hi
    · left
      rw [if_pos (by simp; omega), index_is, bd_s]
      have hm : (47 : UInt8) ∈ rest.l := by
        refine Decidable.by_contra fun hno => ?_
        rw [spl_no hno] at h2
        simp at h2
        omega
      obtain ⟨a, r, er, ha⟩ := cut_at hm
      have hlen : rest.l.length = a.length + 1 + r.length := by rw [er]; simp; omega
      rw [er, ixb_cut ha, if_neg (by simp), ← er]
      have w0 : wr ((a.length : Int) + (0 : Int)) = (a.length : Int) := by rw [wr_eq (by omega) (by omega)]; omega
      have w1 : wr ((a.length : Int) + (1 : Int)) = ((a.length + 1 : Nat) : Int) := wr_succ (by omega)
      rw [w0, w1, need_is (by omega), bd_s, getI_nat (by omega), bd_s, need_is (by omega), bd_s, slc_0n, slc_nn, wr_succ (by omega)]
      refine ⟨_, rfl, ⟨i + 1, _, _, rfl, by simp [h1], ?_, ?_, ?_⟩, by simp only; omega⟩
      · simp only
        have e5 : (rest.l.drop (a.length + 1)).take (rest.l.length - (a.length + 1)) = r := by
          rw [er]
          rw [List.take_of_length_le (by simp; omega)]
          rw [show a ++ 47 :: r = (a ++ [47]) ++ r by simp, List.drop_left' (by simp)]
        rw [e5]
        rw [er, spl_cut ha] at h2
        simp at h2
        omega
      · simp; omega
      · simp only
        have e5 : (rest.l.drop (a.length + 1)).take (rest.l.length - (a.length + 1)) = r := by
          rw [er]
          rw [List.take_of_length_le (by simp; omega)]
          rw [show a ++ 47 :: r = (a ++ [47]) ++ r by simp, List.drop_left' (by simp)]
        have e6 : rest.l.take a.length = a := by rw [er]; simp
        rw [e5, e6]
        rw [er, spl_cut ha] at h4
        rw [← h4, Int.toNat_natCast]
        have h6 : i < arr.length := by omega
        rw [List.take_succ_eq_append_getElem (by simpa using h6)]
        simp
        rw [List.take_set_of_le (Nat.le_refl _)]
    · right
      rw [if_neg (by simp; omega)]
      have hic : i = c := by have := spl_pos rest.l; omega
      subst hic
      exact ⟨_, rfl, _, _, rfl, h1, by omega, h4⟩
  obtain ⟨o, h1, rest, arr, rfl, h2, h3, h4⟩ := key
  rw [h1, bd_s]
  simp only
  unfold X.strings_genSplit_k47_0_1_e17
  have h47 : (47 : UInt8) ∉ rest.l := by
    intro hm
    rw [spl_len] at h3
    have := List.count_pos_iff.2 hm
    omega
  rw [getI_nat (by omega), bd_s, e1, need_is (by simp; omega), bd_s, slc_0n, Int.toNat_natCast]
  rw [← h4, spl_no h47, List.take_of_length_le (by simp; omega), bd_s]
  congr 1
  apply List.ext_getElem (by simp; omega)
  intro j q1 q2
  simp only [List.length_set] at q1
  rw [List.getElem_set]
  by_cases hj : c = j
  · subst hj
    rw [if_pos rfl, List.getElem_append_right (by simp; omega)]
    simp
  · rw [if_neg hj, List.getElem_append_left (by simp; omega)]
    simp
theorem contL_is (l : List Str) (hl : l.length ≤ 100000) : X.slices_ContainsFunc_Lstring_string l (fun a1 => X.path_wrong a1) = some (l.any fun s => badB s.l) := by
  unfold X.slices_ContainsFunc_Lstring_string X.slices_IndexFunc_Lstring_string
  obtain ⟨o, h1, h2⟩ := run_se (f := X.slices_IndexFunc_Lstring_string_s6 l (fun a1 => X.path_wrong a1)) (a := 0) (n := l.length)
    (fun o => (match o with | .inl _ => l.any (fun s => badB s.l) = false | .inr k => 0 ≤ k ∧ l.any (fun s => badB s.l) = true)) (fun i => (l.take i).any (fun s => badB s.l) = false) (Nat.zero_le _) (by omega) (by simp)
    (fun i _ hi hI => by
      unfold X.slices_IndexFunc_Lstring_string_s6
      simp only
      rw [if_pos (by simpa using hi), getI_nat hi, bd_s, wrong_is, bd_s]
      cases hb : badB l[i].l
      · left
        rw [if_neg (by simp), wr_succ (by omega)]
        exact ⟨rfl, by rw [List.take_succ_eq_append_getElem hi, List.any_append, hI]; simp [hb]⟩
      · right
        rw [if_pos rfl]
        exact ⟨_, rfl, by omega, List.any_eq_true.2 ⟨l[i], List.getElem_mem hi, hb⟩⟩)
    (fun hI => by
      unfold X.slices_IndexFunc_Lstring_string_s6
      simp only
      rw [if_neg (by simp)]
      exact ⟨_, rfl, by simpa using hI⟩)
  have h1' : run (X.slices_IndexFunc_Lstring_string_s6 l (fun a1 => X.path_wrong a1)) (0 : Int) = some o := h1
  rw [h1', bd_s]
  cases o with
  | inl u => simp only at h2; rw [h2]; rfl
  | inr k => simp only at h2; obtain ⟨h2, h3⟩ := h2; rw [h3, bd_s]; simp [h2]
theorem any_mk (L : List (List UInt8)) : (L.map Str.mk).any (fun s => badB s.l) = L.any badB := by
  rw [List.any_map]; rfl
theorem right_is (s : Str) : X.path_Right s = some (rightB s.l) := by
  unfold X.path_Right rightB
  by_cases h : s.l.length ≤ 24
  · have hd : decide ((s.l.length : Int) ≤ (24 : Int)) = true := by simp; omega
    have hd2 : decide (s.l.length ≤ 24) = true := by simpa using h
    rw [hd, hd2, optG_true, split_is s (by omega), bd_s, optG_true, contL_is _ (by simp [spl_len]; have := List.count_le_length (a := (47 : UInt8)) (l := s.l); omega), bd_s, any_mk]
  · have hd : decide ((s.l.length : Int) ≤ (24 : Int)) = false := by simp; omega
    have hd2 : decide (s.l.length ≤ 24) = false := by simpa using h
    rw [hd, hd2, optG_false, bd_s, optG_false, bd_s]; rfl
theorem right_len {l : List UInt8} (h : rightB l = true) : l.length ≤ 24 := by unfold rightB at h; simp at h; exact h.1
theorem parts_is (s : Str) : X.path_Parts s = some (if rightB s.l = true then (spl s.l).map Str.mk else []) := by
  unfold X.path_Parts
  rw [right_is, bd_s]
  cases h : rightB s.l
  · rfl
  · rw [if_neg (by simp), split_is s (by have := right_len h; omega)]; rfl
end Go.AX
/- Which path lies within which. -/
namespace Go.AX
open Go.AM
set_option linter.unusedSimpArgs false
def withinB (s d : List UInt8) : Bool := (rightB s && rightB d) && ((s == d) || (decide (d.length < s.length) && (s.take (d.length + 1) == d ++ [47])))
theorem within_is (s d : Str) : X.path_Within s d = some (withinB s.l d.l) := by
  unfold X.path_Within withinB
  rw [right_is, bd_s, right_is]
  cases h1 : rightB s.l
  · simp only [optG_false, Bool.false_and, bd_s]
  cases h2 : rightB d.l
  · simp only [optG_true, optG_false, Bool.false_and, Bool.and_false, bd_s]
  have l1 := right_len h1
  have l2 := right_len h2
  cases h3 : s.l == d.l
  · rw [need_is (by simp only [List.length_singleton]; omega)]
    simp only [optG_true, bd_s, Bool.true_and, Bool.and_true, Bool.not_false, Bool.false_or]
    unfold X.strings_HasPrefix X.stringslite_HasPrefix
    simp only [List.length_append, List.length_singleton]
    by_cases hlt : d.l.length < s.l.length
    · have e1 : decide ((s.l.length : Int) ≥ ((d.l.length + 1 : Nat) : Int)) = true := by simp; omega
      rw [e1, decide_eq_true hlt, optG_true, need_is (by omega), bd_s, bd_s, slc_0n, bd_s]
    · have e1 : decide ((s.l.length : Int) ≥ ((d.l.length + 1 : Nat) : Int)) = false := by simp; omega
      rw [e1, decide_eq_false hlt, optG_false, bd_s, bd_s, bd_s]; rfl
  · simp only [optG_true, optG_false, Bool.not_true, Bool.and_false, Bool.true_or, Bool.and_self, bd_s]
theorem path_alive : X.cartridgelaw5_alive = some true := by
  unfold X.cartridgelaw5_alive
  have r1 : rightB [97, 47, 98] = true := by decide +kernel
  have r2 : rightB [97, 47, 47, 98] = false := by decide +kernel
  have r3 : withinB [97, 47, 98] [97] = true := by decide +kernel
  simp only [right_is, r1, r2, r3, bd_s, optG_true, within_is, parts_is, Bool.not_false, Bool.and_self, if_true, Bool.true_and]
  decide +kernel
end Go.AX
/- The document's own parts of a path are the same. -/
namespace Go.AX
open Go.AM
set_option linter.unusedSimpArgs false
theorem bad_acc : ∀ (l w : List UInt8), (w.any fun x => !okN x.toNat) = true → (splA w l).any badB = true
  | [], w, h => by simp [splA, badB, h]
  | x :: l, w, h => by
    unfold splA
    split
    · simp [badB, h]
    · exact bad_acc l (w ++ [x]) (by rw [List.any_append, h]; rfl)
theorem ok8 (x : UInt8) : ((((((decide (x ≥ (97 : UInt8))) && (decide (x ≤ (122 : UInt8)))) || ((decide (x ≥ (48 : UInt8))) && (decide (x ≤ (57 : UInt8))))) || (x == (46 : UInt8))) || (x == (45 : UInt8))) || (x == (95 : UInt8))) = okN x.toNat := by
  unfold okN
  rw [Bool.eq_iff_iff]
  simp [UInt8.le_iff_toNat_le, ← UInt8.toNat_inj]
theorem bad_w {w : List UInt8} (h : (w.any fun x => !okN x.toNat) = false) : badB w = (((w == []) || (w == [46])) || (w == [46, 46])) := by
  unfold badB
  rw [h, Bool.or_false]
theorem slc_one (L : List UInt8) (i : Nat) (h : i < L.length) : slc L (i : Int) ((i + 1 : Nat) : Int) = [L[i]] := by
  rw [slc_nn, show i + 1 - i = 1 by omega, List.drop_eq_getElem_cons h]; rfl
theorem pp_is (s : Str) : X.cartridgeref1_PathParts s = some (if rightB s.l = true then (spl s.l).map Str.mk else []) := by
  obtain ⟨L⟩ := s
  unfold X.cartridgeref1_PathParts
  by_cases h0 : L.length < 1 ∨ L.length > 24
  · rw [if_pos (by simp; omega)]
    have : rightB L = false := by
      rcases h0 with h | h
      · have : L = [] := List.length_eq_zero_iff.1 (by omega)
        subst this; rfl
      · unfold rightB
        rw [decide_eq_false (by omega)]; rfl
    simp [this]
  rw [if_neg (by simp; omega)]
  have hn1 : 1 ≤ L.length := by omega
  have hn2 : L.length ≤ 24 := by omega
  have key : ∃ o, run (X.cartridgeref1_PathParts_s11 (Str.mk L)) (([] : List Str), (Str.mk []), (0 : Int)) = some o ∧ ((rightB L = true ∧ o = .inl ((spl L).map Str.mk)) ∨ (rightB L = false ∧ o = .inr [])) := by
    refine run_inv (fun p => ∃ (i : Nat) (P : List (List UInt8)) (w : List UInt8), p = (P.map Str.mk, Str.mk w, (i : Int)) ∧ P.length ≤ i ∧ w.length ≤ i ∧ P.any badB = false ∧ (w.any fun x => !okN x.toNat) = false ∧
      ((i ≤ L.length ∧ P ++ splA w (L.drop i) = spl L) ∨ (i = L.length + 1 ∧ P = spl L))) _ (fun p => L.length + 1 - p.2.2.toNat) ⟨0, [], [], rfl, by simp, by simp, rfl, rfl, .inl ⟨by omega, rfl⟩⟩ (by simp only; omega) ?_
    rintro _ ⟨i, P, w, rfl, h1, h2, h3, h4, h5⟩
    unfold X.cartridgeref1_PathParts_s11
    simp only
    rcases h5 with ⟨hi, h5⟩ | ⟨hi, h5⟩
    · rw [if_pos (by simpa using hi)]
      have hi' : i ≤ 24 := by omega
      -- what is done at a sign, or at the end
      have atEnd : ∀ r, L.drop i = [] ∨ L.drop i = 47 :: r → (L.drop i = [] → i = L.length) →
        (∃ s', (if (((w == []) || (w == [46])) || (w == [46, 46])) = true then some (.inr (.inr ([] : (List Str)))) else
          (need (((P.map Str.mk).length + ([Str.mk w] : List Str).length) * 16 ≤ 140737488355328)).bind fun u32 => X.cartridgeref1_PathParts_j21 (i : Int) (P.map Str.mk ++ ([Str.mk w] : List Str)) (Str.mk [])) = some (Sum.inl s') ∧
          (∃ (i : Nat) (P : List (List UInt8)) (w : List UInt8), s' = (P.map Str.mk, Str.mk w, (i : Int)) ∧ P.length ≤ i ∧ w.length ≤ i ∧ P.any badB = false ∧ (w.any fun x => !okN x.toNat) = false ∧
            ((i ≤ L.length ∧ P ++ splA w (L.drop i) = spl L) ∨ (i = L.length + 1 ∧ P = spl L))) ∧ L.length + 1 - s'.2.2.toNat < L.length + 1 - (i : Int).toNat) ∨
        (∃ r, (if (((w == []) || (w == [46])) || (w == [46, 46])) = true then some (.inr (.inr ([] : (List Str)))) else
          (need (((P.map Str.mk).length + ([Str.mk w] : List Str).length) * 16 ≤ 140737488355328)).bind fun u32 => X.cartridgeref1_PathParts_j21 (i : Int) (P.map Str.mk ++ ([Str.mk w] : List Str)) (Str.mk [])) = some (Sum.inr r) ∧
          ((rightB L = true ∧ r = .inl ((spl L).map Str.mk)) ∨ (rightB L = false ∧ r = .inr []))) := by
        intro r hr hend
        have hcut : ∃ T, splA w (L.drop i) = w :: T ∧ (L.drop i = 47 :: r → T = splA [] (L.drop (i + 1))) ∧ (L.drop i = [] → T = []) := by
          rcases hr with hr | hr
          · rw [hr]; exact ⟨[], rfl, fun h => by simp at h, fun _ => rfl⟩
          · refine ⟨splA [] r, by rw [hr]; simp [splA], fun _ => ?_, fun h => by rw [hr] at h; cases h⟩
            rw [← List.drop_drop, hr]; rfl
        obtain ⟨T, hT, hT1, hT2⟩ := hcut
        rw [hT] at h5
        by_cases hb : (((w == []) || (w == [46])) || (w == [46, 46])) = true
        · right
          rw [if_pos hb]
          refine ⟨_, rfl, .inr ⟨?_, rfl⟩⟩
          have hbad : badB w = true := by rw [bad_w h4]; exact hb
          unfold rightB
          rw [← h5, List.any_append, List.any_cons, hbad]
          simp
        · left
          rw [if_neg hb, need_is (by simp; omega), bd_s]
          unfold X.cartridgeref1_PathParts_j21
          rw [wr_succ (by omega)]
          have hbad : badB w = false := by rw [bad_w h4]; simpa using hb
          refine ⟨_, rfl, ⟨i + 1, P ++ [w], [], by simp, by simp; omega, by simp, by rw [List.any_append, h3]; simp [hbad], rfl, ?_⟩, by simp only; omega⟩
          rcases hr with hr | hr
          · right
            have := hend hr
            refine ⟨by omega, ?_⟩
            rw [← h5, hT2 hr]
          · left
            have hlt : i < L.length := by
              rcases Nat.lt_or_ge i L.length with h | h
              · exact h
              · rw [List.drop_of_length_le h] at hr; cases hr
            refine ⟨by omega, ?_⟩
            rw [← h5, ← hT1 hr]; simp
      rcases Nat.lt_or_ge i L.length with hlt | hge
      · have hne : ((i : Int) == (L.length : Int)) = false := by simp; omega
        rw [hne]
        simp only [Bool.not_false, optG_true, Bool.false_or]
        rw [getI_nat hlt, bd_s]
        have hd : L.drop i = L[i] :: L.drop (i + 1) := List.drop_eq_getElem_cons hlt
        by_cases h47 : L[i] = 47
        · rw [if_pos (by simp [h47])]
          exact atEnd (L.drop (i + 1)) (.inr (by rw [hd, h47])) (fun h => by rw [hd] at h; cases h)
        · rw [if_neg (by simp [h47]), bd_s, ok8]
          have hs : splA w (L.drop i) = splA (w ++ [L[i]]) (L.drop (i + 1)) := by rw [hd, splA, if_neg h47]
          cases hk : okN (L[i]).toNat
          · right
            rw [if_pos (by simp)]
            refine ⟨_, rfl, .inr ⟨?_, rfl⟩⟩
            have := bad_acc (L.drop (i + 1)) (w ++ [L[i]]) (by simp [hk])
            unfold rightB
            rw [← h5, hs, List.any_append, this]
            simp
          · left
            rw [if_neg (by simp), wr_succ (by omega), need_is (by omega), bd_s, slc_one L i hlt, need_is (by simp; omega), bd_s]
            unfold X.cartridgeref1_PathParts_j21
            rw [wr_succ (by omega)]
            refine ⟨_, rfl, ⟨i + 1, P, w ++ [L[i]], rfl, by omega, by simp; omega, h3, by rw [List.any_append, h4]; simp [hk], .inl ⟨by omega, by rw [← h5, hs]⟩⟩, by simp only; omega⟩
      · obtain rfl : i = L.length := by omega
        have he : ((L.length : Int) == (L.length : Int)) = true := by simp
        rw [he]
        simp only [Bool.not_true, optG_false, Bool.true_or, bd_s, if_true]
        exact atEnd [] (.inl (by simp)) (fun _ => rfl)
    · right
      rw [if_neg (by simp; omega)]
      refine ⟨_, rfl, .inl ⟨?_, by rw [h5]⟩⟩
      unfold rightB
      rw [← h5, h3, decide_eq_true hn2]; rfl
  obtain ⟨o, h1, h2⟩ := key
  rw [h1, bd_s]
  rcases h2 with ⟨h2, rfl⟩ | ⟨h2, rfl⟩
  · simp only [h2, if_true]; rfl
  · simp [h2]
theorem rp_is (s : Str) : X.cartridgeref1_RightPath s = some (rightB s.l) := by
  unfold X.cartridgeref1_RightPath
  rw [pp_is, bd_s]
  cases h : rightB s.l
  · simp
  · have := spl_pos s.l
    simp [this]
end Go.AX
/- A path is its parts with a sign between, and lies within each of its beginnings. -/
namespace Go.AX
open Go.AM
theorem take_ne {α : Type} {P : List α} {k : Nat} (hk : 0 < k) (h : 0 < P.length) : P.take k ≠ [] := by
  intro e
  have := congrArg List.length e
  rw [List.length_take, List.length_nil] at this
  omega
theorem drop_ne {α : Type} {P : List α} {k : Nat} (h : k < P.length) : P.drop k ≠ [] := by
  intro e
  have := congrArg List.length e
  rw [List.length_drop, List.length_nil] at this
  omega
theorem joi_take {P : List (List UInt8)} {i : Nat} (hi : i < P.length) : joi (P.take (i + 1)) = (if i = 0 then [] else joi (P.take i) ++ [47]) ++ P[i] := by
  rw [List.take_succ_eq_append_getElem hi]
  cases i with
  | zero => rfl
  | succ i =>
    rw [joi_app (take_ne (by omega) (by omega)) (by simp), if_neg (by omega)]
    simp [joi]
theorem path_joins (s : Str) : X.cartridgelaw5_PathJoins s = some true := by
  unfold X.cartridgelaw5_PathJoins
  rw [path_alive, bd_s]
  by_cases hl : s.l.length ≤ 24
  · have hd : decide ((s.l.length : Int) > (24 : Int)) = false := by simp; omega
    simp only [hd, rp_is, Bool.not_true, Bool.or_self, Bool.not_false, optG_true, bd_s, Bool.false_or]
    cases hr : rightB s.l
    · rfl
    rw [if_neg (by simp), parts_is, bd_s, hr, if_pos rfl]
    have hnb : (spl s.l).any badB = false := by unfold rightB at hr; simp at hr; rw [List.any_eq_false]; intro x hx; simpa using hr.2 x hx
    have hcount := List.count_le_length (a := (47 : UInt8)) (l := s.l)
    have hsl := spl_len s.l
    -- each beginning
    have beg : ∀ i, i < (spl s.l).length → rightB (joi ((spl s.l).take (i + 1))) = true ∧ withinB s.l (joi ((spl s.l).take (i + 1))) = true ∧ withinB (joi ((spl s.l).take (i + 1))) s.l = (joi ((spl s.l).take (i + 1)) == s.l) ∧ (joi ((spl s.l).take (i + 1))).length ≤ 24 := by
      intro i hi
      generalize ht : joi ((spl s.l).take (i + 1)) = t
      have hst : spl t = (spl s.l).take (i + 1) := by
        rw [← ht]
        exact spl_joi (take_ne (by omega) (by omega)) fun p hp => spl_mem (List.mem_of_mem_take hp)
      have hcut : s.l = t ∨ ∃ r, s.l = t ++ 47 :: r := by
        rcases Nat.lt_or_ge (i + 1) (spl s.l).length with h | h
        · right
          refine ⟨joi ((spl s.l).drop (i + 1)), ?_⟩
          rw [← ht, ← joi_app (take_ne (by omega) (by omega)) (drop_ne h), List.take_append_drop, joi_of_spl]
        · left
          rw [← ht, List.take_of_length_le h, joi_of_spl]
      have htl : t.length ≤ s.l.length := by
        rcases hcut with h | ⟨r, h⟩
        · rw [h]; exact Nat.le_refl _
        · rw [h]; simp
      have hrt : rightB t = true := by
        unfold rightB
        rw [decide_eq_true (by omega), hst]
        have : ((spl s.l).take (i + 1)).any badB = false := by
          rw [List.any_eq_false] at hnb ⊢
          exact fun x hx => hnb x (List.mem_of_mem_take hx)
        rw [this]; rfl
      refine ⟨hrt, ?_, ?_, by omega⟩
      · unfold withinB
        rw [hr, hrt]
        rcases hcut with h | ⟨r, h⟩
        · rw [h]; simp
        · have h2 : t.length < s.l.length := by rw [h]; simp
          have h3 : s.l.take (t.length + 1) = t ++ [47] := by rw [h, List.take_length_add_append]; rfl
          rw [decide_eq_true h2, h3]; simp
      · unfold withinB
        rw [hr, hrt, decide_eq_false (by omega)]; simp
    have key : run (X.cartridgelaw5_PathJoins_s14 ((spl s.l).map Str.mk) s) ((Str.mk []), (0 : Int)) = some (.inl s) := by
      refine run_G0 (n := (spl s.l).length) (fun i => Str.mk (joi ((spl s.l).take i))) (by omega) rfl ?_ ?_
      · intro i hi
        obtain ⟨b1, b2, b3, b4⟩ := beg i hi
        have jt := joi_take hi
        have step : ∀ t : List UInt8, t ++ (spl s.l)[i] = joi ((spl s.l).take (i + 1)) → X.cartridgelaw5_PathJoins_j22 ((spl s.l).map Str.mk) (i : Int) s (Str.mk t) = some (.inl (Str.mk (joi ((spl s.l).take (i + 1))), ((i + 1 : Nat) : Int))) := by
          intro t ht
          unfold X.cartridgelaw5_PathJoins_j22
          have hlen := congrArg List.length ht
          simp only [List.length_append] at hlen
          rw [getI_nat (by simpa using hi), bd_s]
          simp only [List.getElem_map]
          rw [need_is (by omega), bd_s, ht, right_is, bd_s]
          simp only [b1, Bool.not_true, Bool.not_false, optG_true]
          rw [within_is, bd_s]
          simp only [b2, Bool.not_true, Bool.or_self, Bool.not_false, optG_true]
          rw [within_is, bd_s]
          simp only [b3, bne_self_eq_false, Bool.or_self, Bool.false_eq_true, if_false]
          rw [wr_succ (by omega)]
        unfold X.cartridgelaw5_PathJoins_s14
        simp only
        rw [if_pos (by simpa using hi)]
        by_cases h0 : i = 0
        · subst h0
          rw [if_neg (by simp)]
          exact step _ (by rw [jt]; rfl)
        · rw [if_pos (by simp; omega)]
          rw [if_neg h0] at jt
          have hlen := congrArg List.length jt
          simp only [List.length_append, List.length_singleton] at hlen
          rw [need_is (by simp only [List.length_singleton]; omega), bd_s]
          exact step _ jt.symm
      · unfold X.cartridgelaw5_PathJoins_s14
        simp only
        rw [if_neg (by simp), List.take_length, joi_of_spl]
    rw [key, bd_s]
    unfold X.cartridgelaw5_PathJoins_e14
    simp
  · have hd : decide ((s.l.length : Int) > (24 : Int)) = true := by simp; omega
    simp [hd]
end Go.AX
