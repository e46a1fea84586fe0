import Derived.Test.YtpipaggkbiapjaaDoorXFn
import Derived.Test.YtpipaggkbiapjaaDoorXN
import Derived.Laws.RangeAny
import Derived.Laws.RangeString
/- Plain laws of counting loops and of lists that are filled place by place. -/
namespace Go.AX

theorem iter_more {σ ρ : Type} {f : σ → Option (σ ⊕ ρ)} : ∀ {n : Nat} {s : σ} {r : ρ} (k : Nat), iter f n s = some r → iter f (n + k) s = some r
  | 0, _, _, _, h => by simp [iter] at h
  | n + 1, s, r, k, h => by
    rw [Nat.add_right_comm]
    simp only [iter] at h ⊢
    cases hs : f s with
    | none => rw [hs] at h; cases h
    | some q =>
      rw [hs] at h
      cases q with
      | inl s' => exact iter_more k h
      | inr r' => exact h
theorem run_few {σ ρ : Type} {f : σ → Option (σ ⊕ ρ)} {s : σ} {r : ρ} (n : Nat) (hn : n ≤ 1000000) (h : iter f n s = some r) : run f s = some r := by
  unfold run
  rw [FUEL_eq, show (4611686018427387904 : Nat) = n + (4611686018427387904 - n) from by omega]
  exact iter_more _ h

/-- A loop over numbers. -/
theorem run_ix {σ ρ : Type} {f : σ × Int → Option ((σ × Int) ⊕ ρ)} {s0 : σ} {a n : Nat} (I : Nat → σ → Prop) (R : ρ → Prop) (han : a ≤ n) (hn : n ≤ 4000000000000000000) (h0 : I a s0)
    (step : ∀ i s, a ≤ i → i < n → I i s → (∃ s', f (s, (i : Int)) = some (.inl (s', ((i + 1 : Nat) : Int))) ∧ I (i + 1) s') ∨ ∃ r, f (s, (i : Int)) = some (.inr r) ∧ R r)
    (fin : ∀ s, I n s → ∃ r, f (s, (n : Int)) = some (.inr r) ∧ R r) : ∃ r, run f (s0, (a : Int)) = some r ∧ R r := by
  refine run_inv (fun p => ∃ i : Nat, p.2 = (i : Int) ∧ a ≤ i ∧ i ≤ n ∧ I i p.1) R (fun p => n - p.2.toNat) ⟨a, rfl, Nat.le_refl _, han, h0⟩ (by simp only; omega) ?_
  rintro ⟨s, x⟩ ⟨i, rfl, hai, hin, hI⟩
  rcases Nat.lt_or_ge i n with hlt | hge
  · rcases step i s hai hlt hI with ⟨s', h1, h2⟩ | h
    · exact .inl ⟨_, h1, ⟨i + 1, rfl, by omega, by omega, h2⟩, by simp only; omega⟩
    · exact .inr h
  · have : i = n := by omega
    subst this
    exact .inr (fin s hI)
/-- A loop over numbers, told as a function of them. -/
theorem run_G {σ ρ : Type} {f : σ × Int → Option ((σ × Int) ⊕ ρ)} (G : Nat → σ) {s0 : σ} {a n : Nat} {r : ρ} (han : a ≤ n) (hn : n ≤ 4000000000000000000) (h0 : s0 = G a)
    (step : ∀ i, a ≤ i → i < n → f (G i, (i : Int)) = some (.inl (G (i + 1), ((i + 1 : Nat) : Int)))) (fin : f (G n, (n : Int)) = some (.inr r)) : run f (s0, (a : Int)) = some r := by
  obtain ⟨r', h1, h2⟩ := run_ix (f := f) (s0 := s0) (a := a) (n := n) (fun i s => s = G i) (fun x => x = r) han hn h0 (fun i s hi hlt e => .inl ⟨_, by rw [e]; exact step i hi hlt, rfl⟩) (fun s e => ⟨r, by rw [e]; exact fin, rfl⟩)
  rw [h1, h2]
theorem run_G0 {σ ρ : Type} {f : σ × Int → Option ((σ × Int) ⊕ ρ)} (G : Nat → σ) {s0 : σ} {n : Nat} {r : ρ} (hn : n ≤ 4000000000000000000) (h0 : s0 = G 0)
    (step : ∀ i, i < n → f (G i, (i : Int)) = some (.inl (G (i + 1), ((i + 1 : Nat) : Int)))) (fin : f (G n, (n : Int)) = some (.inr r)) : run f (s0, (0 : Int)) = some r :=
  run_G (a := 0) G (Nat.zero_le _) hn h0 (fun i _ h => step i h) fin
theorem run_ix0 {σ ρ : Type} {f : σ × Int → Option ((σ × Int) ⊕ ρ)} {s0 : σ} {n : Nat} (I : Nat → σ → Prop) (R : ρ → Prop) (hn : n ≤ 4000000000000000000) (h0 : I 0 s0)
    (step : ∀ i s, i < n → I i s → (∃ s', f (s, (i : Int)) = some (.inl (s', ((i + 1 : Nat) : Int))) ∧ I (i + 1) s') ∨ ∃ r, f (s, (i : Int)) = some (.inr r) ∧ R r)
    (fin : ∀ s, I n s → ∃ r, f (s, (n : Int)) = some (.inr r) ∧ R r) : ∃ r, run f (s0, (0 : Int)) = some r ∧ R r :=
  run_ix (a := 0) I R (Nat.zero_le _) hn h0 (fun i s _ h k => step i s h k) fin
/-- A search over numbers, without other state. -/
theorem run_se {ρ : Type} {f : Int → Option (Int ⊕ ρ)} {a n : Nat} (R : ρ → Prop) (I : Nat → Prop) (han : a ≤ n) (hn : n ≤ 4000000000000000000) (h0 : I a)
    (step : ∀ i, a ≤ i → i < n → I i → (f (i : Int) = some (.inl ((i + 1 : Nat) : Int)) ∧ I (i + 1)) ∨ ∃ r, f (i : Int) = some (.inr r) ∧ R r)
    (fin : I n → ∃ r, f (n : Int) = some (.inr r) ∧ R r) : ∃ r, run f (a : Int) = some r ∧ R r := by
  refine run_inv (fun x => ∃ i : Nat, x = (i : Int) ∧ a ≤ i ∧ i ≤ n ∧ I i) R (fun x => n - x.toNat) ⟨a, rfl, Nat.le_refl _, han, h0⟩ (by omega) ?_
  rintro x ⟨i, rfl, hai, hin, hI⟩
  rcases Nat.lt_or_ge i n with hlt | hge
  · rcases step i hai hlt hI with ⟨h1, h2⟩ | h
    · exact .inl ⟨_, h1, ⟨i + 1, rfl, by omega, by omega, h2⟩, by omega⟩
    · exact .inr h
  · have : i = n := by omega
    subst this
    exact .inr (fin hI)

theorem run_seE {ρ : Type} {f : Int → Option (Int ⊕ ρ)} {a n : Nat} {r : ρ} (I : Nat → Prop) (han : a ≤ n) (hn : n ≤ 4000000000000000000) (h0 : I a)
    (step : ∀ i, a ≤ i → i < n → I i → (f (i : Int) = some (.inl ((i + 1 : Nat) : Int)) ∧ I (i + 1)) ∨ f (i : Int) = some (.inr r))
    (fin : I n → f (n : Int) = some (.inr r)) : run f (a : Int) = some r := by
  obtain ⟨r', h1, h2⟩ := run_se (f := f) (fun x => x = r) I han hn h0 (fun i h1 h2 h3 => (step i h1 h2 h3).imp id fun h => ⟨r, h, rfl⟩) (fun h => ⟨r, fin h, rfl⟩)
  rw [h1, h2]
theorem run_ixE {σ ρ : Type} {f : σ × Int → Option ((σ × Int) ⊕ ρ)} {s0 : σ} {n : Nat} {r : ρ} (I : Nat → σ → Prop) (hn : n ≤ 4000000000000000000) (h0 : I 0 s0)
    (step : ∀ i s, i < n → I i s → (∃ s', f (s, (i : Int)) = some (.inl (s', ((i + 1 : Nat) : Int))) ∧ I (i + 1) s') ∨ f (s, (i : Int)) = some (.inr r))
    (fin : ∀ s, I n s → f (s, (n : Int)) = some (.inr r)) : run f (s0, (0 : Int)) = some r := by
  obtain ⟨r', h1, h2⟩ := run_ix0 (f := f) (s0 := s0) I (fun x => x = r) hn h0 (fun i s h1 h2 => (step i s h1 h2).imp id fun h => ⟨r, h, rfl⟩) (fun s h => ⟨r, fin s h, rfl⟩)
  rw [h1, h2]

/-- A list told place by place. -/
def tab {α : Type} (n : Nat) (g : Nat → α) : List α := (List.range n).map g
section
variable {α : Type} {n : Nat} {g g' : Nat → α}
@[simp] theorem tab_len : (tab n g).length = n := by simp [tab]
theorem tab_get {i : Nat} (h : i < (tab n g).length) : (tab n g)[i] = g i := by simp [tab]
theorem tab_get? {i : Nat} (h : i < n) : (tab n g)[i]? = some (g i) := by simp [tab, h]
theorem tab_congr (h : ∀ i, i < n → g i = g' i) : tab n g = tab n g' := by
  unfold tab
  exact List.map_congr_left fun i hi => h i (List.mem_range.1 hi)
theorem tab_set {i : Nat} {y : α} : (tab n g).set i y = tab n (fun j => if j = i then y else g j) := by
  apply List.ext_getElem (by simp)
  intro j h1 h2
  rw [List.getElem_set, tab_get (by simpa using h2), tab_get h2]
  by_cases hij : i = j
  · rw [if_pos hij, if_pos hij.symm]
  · rw [if_neg hij, if_neg fun e => hij e.symm]
theorem tab_rep {z : α} : List.replicate n z = tab n (fun _ => z) := by
  apply List.ext_getElem?
  intro j
  by_cases hj : j < n <;> simp [tab, hj]
theorem getI_tab {i : Nat} (h : i < n) : getI (tab n g) (i : Int) = some (g i) := by rw [getI_nat (by simpa using h), tab_get]
theorem tab_succ : tab (n + 1) g = tab n g ++ [g n] := by simp [tab, List.range_succ]
theorem tab_zero : tab 0 g = [] := rfl
theorem tab_all (z : α) (xs : List α) : xs = tab xs.length (fun j => xs.getD j z) := by
  apply List.ext_getElem?
  intro j
  by_cases hj : j < xs.length
  · rw [tab_get? hj, List.getElem?_eq_getElem hj]; simp [List.getD_eq_getElem?_getD, hj]
  · rw [List.getElem?_eq_none (by omega), List.getElem?_eq_none (by simp; omega)]
theorem tab_getD {i : Nat} {z : α} : (tab n g).getD i z = if i < n then g i else z := by
  by_cases h : i < n
  · simp [tab, h, List.getD_eq_getElem?_getD]
  · rw [if_neg h, List.getD_eq_getElem?_getD, List.getElem?_eq_none (by simp; omega)]; rfl
theorem mem_tab {x : α} : x ∈ tab n g ↔ ∃ i, i < n ∧ g i = x := by simp [tab]
theorem getI_getD {xs : List α} (z : α) {i : Nat} (h : i < xs.length) : getI xs (i : Int) = some (xs.getD i z) := by
  rw [getI_nat h]; simp [List.getD_eq_getElem?_getD, h]
theorem set_getD {xs : List α} {z : α} {i j : Nat} {y : α} (h : i < xs.length) : (xs.set i y).getD j z = if j = i then y else xs.getD j z := by
  simp only [List.getD_eq_getElem?_getD, List.getElem?_set]
  by_cases e : i = j
  · subst e; simp [h]
  · rw [if_neg e, if_neg fun h : j = i => e h.symm]
theorem list_ext_getD (z : α) {xs ys : List α} (hl : xs.length = ys.length) (h : ∀ i, i < xs.length → xs.getD i z = ys.getD i z) : xs = ys := by
  rw [tab_all z xs, tab_all z ys, ← hl]
  exact tab_congr h
end
end Go.AX
/- Texts cut at a sign, and their parts. -/
namespace Go.AX
def okN (x : Nat) : Bool := (decide (97 ≤ x) && decide (x ≤ 122)) || (decide (48 ≤ x) && decide (x ≤ 57)) || x == 46 || x == 45 || x == 95
def badB (w : List UInt8) : Bool := w == [] || w == [46] || w == [46, 46] || w.any fun x => !okN x.toNat
def splA (w : List UInt8) : List UInt8 → List (List UInt8)
  | [] => [w]
  | x :: l => if x = 47 then w :: splA [] l else splA (w ++ [x]) l
def spl (l : List UInt8) : List (List UInt8) := splA [] l
def rightB (l : List UInt8) : Bool := decide (l.length ≤ 24) && !(spl l).any badB

theorem splA_no : ∀ {l w : List UInt8}, (47 : UInt8) ∉ l → splA w l = [w ++ l]
  | [], w, _ => by simp [splA]
  | x :: l, w, h => by
    have h1 : x ≠ 47 := fun e => h (by simp [e])
    rw [splA, if_neg h1, splA_no (fun h2 => h (List.mem_cons_of_mem _ h2))]
    simp
theorem splA_cut : ∀ {a l w : List UInt8}, (47 : UInt8) ∉ a → splA w (a ++ 47 :: l) = (w ++ a) :: splA [] l
  | [], l, w, _ => by simp [splA]
  | x :: a, l, w, h => by
    have h1 : x ≠ 47 := fun e => h (by simp [e])
    show splA w (x :: (a ++ 47 :: l)) = _
    rw [splA, if_neg h1, splA_cut (fun h2 => h (List.mem_cons_of_mem _ h2))]
    simp
theorem spl_no {l : List UInt8} (h : (47 : UInt8) ∉ l) : spl l = [l] := by rw [spl, splA_no h]; rfl
theorem spl_cut {a l : List UInt8} (h : (47 : UInt8) ∉ a) : spl (a ++ 47 :: l) = a :: spl l := by rw [spl, splA_cut h]; rfl
theorem splA_len : ∀ (l w : List UInt8), (splA w l).length = l.count 47 + 1
  | [], w => rfl
  | x :: l, w => by
    unfold splA
    split
    · next h => subst h; simp [splA_len l]
    · next h => rw [splA_len l]; simp [h]
theorem spl_len (l : List UInt8) : (spl l).length = l.count 47 + 1 := splA_len l []
theorem spl_pos (l : List UInt8) : 0 < (spl l).length := by rw [spl_len]; omega
theorem splA_mem : ∀ (l w : List UInt8), (47 : UInt8) ∉ w → ∀ p ∈ splA w l, (47 : UInt8) ∉ p
  | [], w, h, p, hp => by simp [splA] at hp; subst hp; exact h
  | x :: l, w, h, p, hp => by
    unfold splA at hp
    split at hp
    · rcases List.mem_cons.1 hp with rfl | hp
      · exact h
      · exact splA_mem l [] (by simp) p hp
    · next hx => exact splA_mem l (w ++ [x]) (by simp [h, Ne.symm hx]) p hp
theorem spl_mem {l p : List UInt8} (h : p ∈ spl l) : (47 : UInt8) ∉ p := splA_mem l [] (by simp) p h
/-- The length of all parts. -/
theorem splA_le : ∀ (l w : List UInt8), ∀ p ∈ splA w l, p.length ≤ w.length + l.length
  | [], w, p, hp => by simp [splA] at hp; subst hp; simp
  | x :: l, w, p, hp => by
    unfold splA at hp
    split at hp
    · rcases List.mem_cons.1 hp with rfl | hp
      · simp
      · have := splA_le l [] p hp; simp at this ⊢; omega
    · have := splA_le l (w ++ [x]) p hp; simp at this ⊢; omega

/-- Parts with a sign between. -/
def joi : List (List UInt8) → List UInt8
  | [] => []
  | [w] => w
  | w :: v :: l => w ++ 47 :: joi (v :: l)
theorem joi_spl : ∀ (l w : List UInt8), joi (splA w l) = w ++ l
  | [], w => by simp [splA, joi]
  | x :: l, w => by
    unfold splA
    split
    · next h =>
      have e := joi_spl l []
      obtain ⟨v, r, hr⟩ : ∃ v r, splA [] l = v :: r := by
        cases h2 : splA [] l with
        | nil => have := splA_len l []; rw [h2] at this; simp at this
        | cons v r => exact ⟨v, r, rfl⟩
      rw [hr] at e ⊢
      show w ++ 47 :: joi (v :: r) = _
      rw [e, h]; simp
    · next h => rw [joi_spl l]; simp
theorem joi_of_spl (l : List UInt8) : joi (spl l) = l := by rw [spl, joi_spl]; rfl
theorem spl_joi : ∀ {ps : List (List UInt8)}, ps ≠ [] → (∀ p ∈ ps, (47 : UInt8) ∉ p) → spl (joi ps) = ps
  | [], h, _ => absurd rfl h
  | [w], _, h => by rw [joi, spl_no (h w (by simp))]
  | w :: v :: l, _, h => by
    rw [joi, spl_cut (h w (by simp)), spl_joi (by simp) (fun p hp => h p (List.mem_cons_of_mem _ hp))]
theorem joi_app : ∀ {a b : List (List UInt8)}, a ≠ [] → b ≠ [] → joi (a ++ b) = joi a ++ 47 :: joi b
  | [], _, h, _ => absurd rfl h
  | [w], b, _, hb => by
    cases b with
    | nil => exact absurd rfl hb
    | cons v l => rfl
  | w :: v :: l, b, _, hb => by
    have := joi_app (a := v :: l) (b := b) (by simp) hb
    show w ++ 47 :: joi ((v :: l) ++ b) = (w ++ 47 :: joi (v :: l)) ++ 47 :: joi b
    rw [this]; simp
end Go.AX
/- Which texts are paths, and their parts. -/
namespace Go.AX
open Go.AM
set_option linter.unusedSimpArgs false
theorem bd_s {α β : Type} (a : α) (f : α → Option β) : (some a).bind f = f a := rfl
theorem other_is (x : Nat) : X.path_other (I32.mk (x : Int)) = some (!okN x) := by
  unfold X.path_other okN
  simp only
  congr 1
  rw [Bool.eq_iff_iff]
  simp
  omega
theorem ba_get (s : Str) (i : Nat) (h : i < s.ba.size) : s.ba[i]'h = s.l[i]'(by rw [ba_size] at h; exact h) := rfl
theorem okN_high {x : Nat} (h : 128 ≤ x) : okN x = false := by
  unfold okN
  simp
  omega
theorem idx_from (s : Str) : ∀ (f pos : Nat), s.l.length ≤ pos + f → (0 ≤ Lib.idxFuncFrom (fun x => !okN x) true s.ba f pos ↔ ∃ i, ∃ h : i < s.l.length, pos ≤ i ∧ okN (s.l[i]).toNat = false)
  | 0, pos, h => by
    unfold Lib.idxFuncFrom
    constructor
    · intro h; omega
    · rintro ⟨i, h1, h2, _⟩; omega
  | f + 1, pos, h => by
    unfold Lib.idxFuncFrom
    by_cases hp : pos < s.ba.size
    · rw [if_pos hp]
      have hp' : pos < s.l.length := by rwa [ba_size] at hp
      by_cases ha : (s.l[pos]).toNat < 128
      · have hd := Go.decode_ascii s.ba pos hp (by rw [ba_get]; exact ha)
        have hd1 : (Utf8.decode s.ba pos).1 = (s.l[pos]).toNat := by rw [hd]; rfl
        have hd2 : (Utf8.decode s.ba pos).2 = 1 := by rw [hd]
        by_cases hk : okN (s.l[pos]).toNat = true
        · rw [if_neg (by show ¬ ((!okN (Utf8.decode s.ba pos).1) = true); rw [hd1]; simp [hk]), hd2, idx_from s f (pos + 1) (by omega)]
          constructor
          · rintro ⟨i, h1, h2, h3⟩; exact ⟨i, h1, by omega, h3⟩
          · rintro ⟨i, h1, h2, h3⟩
            refine ⟨i, h1, ?_, h3⟩
            rcases Nat.lt_or_ge pos i with h4 | h4
            · exact h4
            · obtain rfl : i = pos := by omega
              rw [hk] at h3; cases h3
        · have hk : okN (s.l[pos]).toNat = false := by simpa using hk
          rw [if_pos (by show (!okN (Utf8.decode s.ba pos).1) = true; rw [hd1]; simp [hk])]
          exact ⟨fun _ => ⟨pos, hp', Nat.le_refl _, hk⟩, fun _ => by omega⟩
      · obtain ⟨h1, h2⟩ := Go.decode_high s.ba pos hp (by rw [ba_get]; omega)
        rw [if_pos (by show (!okN (Utf8.decode s.ba pos).1) = true; simp [okN_high h1])]
        exact ⟨fun _ => ⟨pos, hp', Nat.le_refl _, okN_high (by omega)⟩, fun _ => by omega⟩
    · rw [if_neg hp]
      rw [ba_size] at hp
      constructor
      · intro h; omega
      · rintro ⟨i, h1, h2, _⟩; omega
theorem cont_is (s : Str) : X.strings_ContainsFunc s (fun a1 => X.path_other a1) = some (s.l.any fun x => !okN x.toNat) := by
  unfold X.strings_ContainsFunc X.strings_IndexFunc X.strings_indexFunc
  rw [if_pos (by intro x _; show (X.path_other _).isSome = true; rw [other_is]; rfl), bd_s, bd_s]
  have e : (fun x : Nat => (X.path_other (I32.mk (x : Int))).getD false) = fun x => !okN x := by
    funext x; rw [other_is]; rfl
  rw [e]
  congr 1
  rw [Bool.eq_iff_iff, decide_eq_true_eq]
  have := idx_from s s.ba.size 0 (by rw [ba_size]; omega)
  unfold Lib.idxFunc
  rw [ge_iff_le, this, List.any_eq_true]
  constructor
  · rintro ⟨i, h1, _, h2⟩; exact ⟨s.l[i], List.getElem_mem h1, by simp [h2]⟩
  · rintro ⟨x, h1, h2⟩
    obtain ⟨i, h3, rfl⟩ := List.mem_iff_getElem.1 h1
    exact ⟨i, h3, Nat.zero_le _, by simpa using h2⟩
theorem wrong_is (s : Str) : X.path_wrong s = some (badB s.l) := by
  unfold X.path_wrong badB
  rw [cont_is]
  simp only [optG]
  cases h1 : s.l == [] <;> cases h2 : s.l == [46] <;> cases h3 : s.l == [46, 46] <;> simp [bd_s, h1, h2, h3]

/-! ### cut at the sign -/
theorem ixb_no : ∀ {l : List UInt8}, (47 : UInt8) ∉ l → Lib.indexByte l 47 = -1
  | [], _ => rfl
  | x :: l, h => by
    have h1 : x ≠ 47 := fun e => h (by simp [e])
    rw [Lib.indexByte, ixb_no (fun h2 => h (List.mem_cons_of_mem _ h2))]
    simp [h1]
theorem ixb_cut : ∀ {a l : List UInt8}, (47 : UInt8) ∉ a → Lib.indexByte (a ++ 47 :: l) 47 = (a.length : Int)
  | [], l, _ => by simp [Lib.indexByte]
  | x :: a, l, h => by
    have h1 : x ≠ 47 := fun e => h (by simp [e])
    show Lib.indexByte (x :: (a ++ 47 :: l)) 47 = _
    rw [Lib.indexByte, ixb_cut (fun h2 => h (List.mem_cons_of_mem _ h2))]
    simp [h1]
theorem cut_at : ∀ {l : List UInt8}, (47 : UInt8) ∈ l → ∃ a r, l = a ++ 47 :: r ∧ (47 : UInt8) ∉ a
  | [], h => by cases h
  | x :: l, h => by
    by_cases h1 : x = 47
    · exact ⟨[], l, by rw [h1]; rfl, by simp⟩
    · obtain ⟨a, r, e, h2⟩ := cut_at (l := l) (by rcases List.mem_cons.1 h with e | e; exact absurd e.symm h1; exact e)
      exact ⟨x :: a, r, by rw [e]; rfl, by simp [h2, Ne.symm h1]⟩
theorem index_is (s : Str) : X.strings_Index_k47 s = some (Lib.indexByte s.l 47) := by
  unfold X.strings_Index_k47 X.stringslite_Index_k47 X.stringslite_IndexByte
  have e : getI (Str.mk [47]).l (0 : Int) = some 47 := rfl
  by_cases h : (Str.mk [47]).l == s.l
  · rw [if_pos h]
    have : s.l = [47] := (eq_of_beq h).symm
    rw [this]; rfl
  · rw [if_neg h, e]; rfl
theorem slc_nn {α : Type} (xs : List α) (a b : Nat) : slc xs (a : Int) (b : Int) = (xs.drop a).take (b - a) := by
  unfold slc
  simp
theorem slc_0n {α : Type} (xs : List α) (b : Nat) : slc xs (0 : Int) (b : Int) = xs.take b := by
  have := slc_nn xs 0 b
  simpa using this
theorem split_is (s : Str) (hl : s.l.length ≤ 1000) : X.strings_Split_k47 s = some ((spl s.l).map Str.mk) := by
  have hc : s.l.count 47 ≤ s.l.length := List.count_le_length
  unfold X.strings_Split_k47 X.strings_genSplit_k47_0_1 X.strings_Count_k47
  have e : getI (Str.mk [47]).l (0 : Int) = some 47 := rfl
  rw [e, bd_s, bd_s]
  generalize hn : s.l.count 47 = c at *
  have e1 : wr ((c : Int) + (1 : Int)) = ((c + 1 : Nat) : Int) := wr_succ (by omega)
  have e2 : wr ((s.l.length : Int) + (1 : Int)) = ((s.l.length + 1 : Nat) : Int) := wr_succ (by omega)
  have e3 : min (((c + 1 : Nat) : Int)) (((s.l.length + 1 : Nat) : Int)) = ((c + 1 : Nat) : Int) := by omega
  rw [e1, e2, e3, need_is (by omega), bd_s]
  have e4 : wr (((c + 1 : Nat) : Int) - (1 : Int)) = (c : Int) := by rw [wr_eq (by omega) (by omega)]; omega
  have key : ∃ o, run (X.strings_genSplit_k47_0_1_s17 (c : Int) s) (s, List.replicate (((c + 1 : Nat) : Int)).toNat (Str.mk []), (0 : Int)) = some o ∧
      ∃ (rest : Str) (arr : List Str), o = (rest, arr, (c : Int)) ∧ arr.length = c + 1 ∧ (spl rest.l).length = 1 ∧ arr.take c ++ (spl rest.l).map Str.mk = (spl s.l).map Str.mk := by
    refine run_inv (fun p => ∃ (i : Nat) (rest : Str) (arr : List Str), p = (rest, arr, (i : Int)) ∧ arr.length = c + 1 ∧ i + (spl rest.l).length = c + 1 ∧ rest.l.length ≤ 1000 ∧ arr.take i ++ (spl rest.l).map Str.mk = (spl s.l).map Str.mk) _ (fun p => c - p.2.2.toNat)
      ⟨0, s, _, rfl, by simp, by rw [spl_len, hn]; omega, hl, by simp⟩ (by simp only; omega) ?_
    rintro _ ⟨i, rest, arr, rfl, h1, h2, h3, h4⟩
    unfold X.strings_genSplit_k47_0_1_s17
    simp only [e1, e2, e3, e4]
    rcases Nat.lt_or_ge i c with hi | hi
    · left
      rw [if_pos (by simp; omega), index_is, bd_s]
      have hm : (47 : UInt8) ∈ rest.l := by
        refine Decidable.by_contra fun hno => ?_
        rw [spl_no hno] at h2
        simp at h2
        omega
      obtain ⟨a, r, er, ha⟩ := cut_at hm
      have hlen : rest.l.length = a.length + 1 + r.length := by rw [er]; simp; omega
      rw [er, ixb_cut ha, if_neg (by simp), ← er]
      have w0 : wr ((a.length : Int) + (0 : Int)) = (a.length : Int) := by rw [wr_eq (by omega) (by omega)]; omega
      have w1 : wr ((a.length : Int) + (1 : Int)) = ((a.length + 1 : Nat) : Int) := wr_succ (by omega)
      rw [w0, w1, need_is (by omega), bd_s, getI_nat (by omega), bd_s, need_is (by omega), bd_s, slc_0n, slc_nn, wr_succ (by omega)]
      refine ⟨_, rfl, ⟨i + 1, _, _, rfl, by simp [h1], ?_, ?_, ?_⟩, by simp only; omega⟩
      · simp only
        have e5 : (rest.l.drop (a.length + 1)).take (rest.l.length - (a.length + 1)) = r := by
          rw [er]
          rw [List.take_of_length_le (by simp; omega)]
          rw [show a ++ 47 :: r = (a ++ [47]) ++ r by simp, List.drop_left' (by simp)]
        rw [e5]
        rw [er, spl_cut ha] at h2
        simp at h2
        omega
      · simp; omega
      · simp only
        have e5 : (rest.l.drop (a.length + 1)).take (rest.l.length - (a.length + 1)) = r := by
          rw [er]
          rw [List.take_of_length_le (by simp; omega)]
          rw [show a ++ 47 :: r = (a ++ [47]) ++ r by simp, List.drop_left' (by simp)]
        have e6 : rest.l.take a.length = a := by rw [er]; simp
        rw [e5, e6]
        rw [er, spl_cut ha] at h4
        rw [← h4, Int.toNat_natCast]
        have h6 : i < arr.length := by omega
        rw [List.take_succ_eq_append_getElem (by simpa using h6)]
        simp
        rw [List.take_set_of_le (Nat.le_refl _)]
    · right
      rw [if_neg (by simp; omega)]
      have hic : i = c := by have := spl_pos rest.l; omega
      subst hic
      exact ⟨_, rfl, _, _, rfl, h1, by omega, h4⟩
  obtain ⟨o, h1, rest, arr, rfl, h2, h3, h4⟩ := key
  rw [h1, bd_s]
  simp only
  unfold X.strings_genSplit_k47_0_1_e17
  have h47 : (47 : UInt8) ∉ rest.l := by
    intro hm
    rw [spl_len] at h3
    have := List.count_pos_iff.2 hm
    omega
  rw [getI_nat (by omega), bd_s, e1, need_is (by simp; omega), bd_s, slc_0n, Int.toNat_natCast]
  rw [← h4, spl_no h47, List.take_of_length_le (by simp; omega), bd_s]
  congr 1
  apply List.ext_getElem (by simp; omega)
  intro j q1 q2
  simp only [List.length_set] at q1
  rw [List.getElem_set]
  by_cases hj : c = j
  · subst hj
    rw [if_pos rfl, List.getElem_append_right (by simp; omega)]
    simp
  · rw [if_neg hj, List.getElem_append_left (by simp; omega)]
    simp
theorem contL_is (l : List Str) (hl : l.length ≤ 100000) : X.slices_ContainsFunc_Lstring_string l (fun a1 => X.path_wrong a1) = some (l.any fun s => badB s.l) := by
  unfold X.slices_ContainsFunc_Lstring_string X.slices_IndexFunc_Lstring_string
  obtain ⟨o, h1, h2⟩ := run_se (f := X.slices_IndexFunc_Lstring_string_s6 l (fun a1 => X.path_wrong a1)) (a := 0) (n := l.length)
    (fun o => (match o with | .inl _ => l.any (fun s => badB s.l) = false | .inr k => 0 ≤ k ∧ l.any (fun s => badB s.l) = true)) (fun i => (l.take i).any (fun s => badB s.l) = false) (Nat.zero_le _) (by omega) (by simp)
    (fun i _ hi hI => by
      unfold X.slices_IndexFunc_Lstring_string_s6
      simp only
      rw [if_pos (by simpa using hi), getI_nat hi, bd_s, wrong_is, bd_s]
      cases hb : badB l[i].l
      · left
        rw [if_neg (by simp), wr_succ (by omega)]
        exact ⟨rfl, by rw [List.take_succ_eq_append_getElem hi, List.any_append, hI]; simp [hb]⟩
      · right
        rw [if_pos rfl]
        exact ⟨_, rfl, by omega, List.any_eq_true.2 ⟨l[i], List.getElem_mem hi, hb⟩⟩)
    (fun hI => by
      unfold X.slices_IndexFunc_Lstring_string_s6
      simp only
      rw [if_neg (by simp)]
      exact ⟨_, rfl, by simpa using hI⟩)
  have h1' : run (X.slices_IndexFunc_Lstring_string_s6 l (fun a1 => X.path_wrong a1)) (0 : Int) = some o := h1
  rw [h1', bd_s]
  cases o with
  | inl u => simp only at h2; rw [h2]; rfl
  | inr k => simp only at h2; obtain ⟨h2, h3⟩ := h2; rw [h3, bd_s]; simp [h2]
theorem any_mk (L : List (List UInt8)) : (L.map Str.mk).any (fun s => badB s.l) = L.any badB := by
  rw [List.any_map]; rfl
theorem right_is (s : Str) : X.path_Right s = some (rightB s.l) := by
  unfold X.path_Right rightB
  by_cases h : s.l.length ≤ 24
  · have hd : decide ((s.l.length : Int) ≤ (24 : Int)) = true := by simp; omega
    have hd2 : decide (s.l.length ≤ 24) = true := by simpa using h
    rw [hd, hd2, optG_true, split_is s (by omega), bd_s, optG_true, contL_is _ (by simp [spl_len]; have := List.count_le_length (a := (47 : UInt8)) (l := s.l); omega), bd_s, any_mk]
  · have hd : decide ((s.l.length : Int) ≤ (24 : Int)) = false := by simp; omega
    have hd2 : decide (s.l.length ≤ 24) = false := by simpa using h
    rw [hd, hd2, optG_false, bd_s, optG_false, bd_s]; rfl
theorem right_len {l : List UInt8} (h : rightB l = true) : l.length ≤ 24 := by unfold rightB at h; simp at h; exact h.1
theorem parts_is (s : Str) : X.path_Parts s = some (if rightB s.l = true then (spl s.l).map Str.mk else []) := by
  unfold X.path_Parts
  rw [right_is, bd_s]
  cases h : rightB s.l
  · rfl
  · rw [if_neg (by simp), split_is s (by have := right_len h; omega)]; rfl
end Go.AX
/- Which path lies within which. -/
namespace Go.AX
open Go.AM
set_option linter.unusedSimpArgs false
def withinB (s d : List UInt8) : Bool := (rightB s && rightB d) && ((s == d) || (decide (d.length < s.length) && (s.take (d.length + 1) == d ++ [47])))
theorem within_is (s d : Str) : X.path_Within s d = some (withinB s.l d.l) := by
  unfold X.path_Within withinB
  rw [right_is, bd_s, right_is]
  cases h1 : rightB s.l
  · simp only [optG_false, Bool.false_and, bd_s]
  cases h2 : rightB d.l
  · simp only [optG_true, optG_false, Bool.false_and, Bool.and_false, bd_s]
  have l1 := right_len h1
  have l2 := right_len h2
  cases h3 : s.l == d.l
  · rw [need_is (by simp only [List.length_singleton]; omega)]
    simp only [optG_true, bd_s, Bool.true_and, Bool.and_true, Bool.not_false, Bool.false_or]
    unfold X.strings_HasPrefix X.stringslite_HasPrefix
    simp only [List.length_append, List.length_singleton]
    by_cases hlt : d.l.length < s.l.length
    · have e1 : decide ((s.l.length : Int) ≥ ((d.l.length + 1 : Nat) : Int)) = true := by simp; omega
      rw [e1, decide_eq_true hlt, optG_true, need_is (by omega), bd_s, bd_s, slc_0n, bd_s]
    · have e1 : decide ((s.l.length : Int) ≥ ((d.l.length + 1 : Nat) : Int)) = false := by simp; omega
      rw [e1, decide_eq_false hlt, optG_false, bd_s, bd_s, bd_s]; rfl
  · simp only [optG_true, optG_false, Bool.not_true, Bool.and_false, Bool.true_or, Bool.and_self, bd_s]
theorem path_alive : X.cartridgelaw5_alive = some true := by
  unfold X.cartridgelaw5_alive
  have r1 : rightB [97, 47, 98] = true := by decide +kernel
  have r2 : rightB [97, 47, 47, 98] = false := by decide +kernel
  have r3 : withinB [97, 47, 98] [97] = true := by decide +kernel
  simp only [right_is, r1, r2, r3, bd_s, optG_true, within_is, parts_is, Bool.not_false, Bool.and_self, if_true, Bool.true_and]
  decide +kernel
end Go.AX
/- Which texts are none, and what is near them. -/
namespace Go.AX
open Go.AM
def names24 : List (List UInt8) := [[], [97], [47], [47, 97], [97, 47], [97, 47, 98], [97, 47, 47, 98], [46], [46, 46], [46, 46, 46], [97, 47, 46], [97, 47, 46, 46], [97, 47, 46, 46, 46], [46, 97], [45], [95], [65], [97, 32, 98], [195, 169], [97, 47, 98, 47, 99, 47, 100], [97, 98, 99, 100, 101, 102, 103, 104, 105, 106, 107, 108, 109, 110, 111, 112, 113, 114, 115, 116, 117, 118, 119, 120], [97, 98, 99, 100, 101, 102, 103, 104, 105, 106, 107, 108, 109, 110, 111, 112, 113, 114, 115, 116, 117, 118, 119, 120, 121], [97, 0], [57]]
def right24 : List Bool := [false, true, false, false, false, true, false, false, false, true, false, false, true, true, true, true, false, false, false, true, true, false, false, true]
theorem names_right : names24.map rightB = right24 := by decide +kernel
theorem path_wrong_law (which : Int) : X.cartridgelaw5_PathWrong which = some true := by
  unfold X.cartridgelaw5_PathWrong
  rw [path_alive, bd_s]
  show (if _ then _ else (getI (names24.map Str.mk) which).bind fun e11 => (X.path_Right e11).bind fun r12 => (getI right24 which).bind fun e13 => some (r12 == e13)) = _
  split
  · rfl
  · rename_i h
    simp at h
    have hn : names24.length = 24 := rfl
    have hr : right24.length = 24 := rfl
    obtain ⟨i, rfl⟩ : ∃ i : Nat, which = (i : Int) := ⟨which.toNat, by omega⟩
    have hi : i < 24 := by omega
    rw [getI_nat (by simp [hn]; omega), bd_s, right_is, bd_s, getI_nat (by omega), bd_s]
    have : right24[i]'(by omega) = rightB (names24[i]'(by omega)) := by
      simp only [← names_right, List.getElem_map]
    rw [this]
    simp
end Go.AX
