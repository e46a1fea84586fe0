import Derived.Test.YtpipaggkbiapjaaDoorXFn
import Derived.Test.YtpipaggkbiapjaaDoorLibC
import Derived.Laws.RangeAny
import Derived.Laws.RangeString
/- Plain laws of counting loops and of lists that are filled place by place. -/
namespace Go.AX

theorem iter_more {σ ρ : Type} {f : σ → Option (σ ⊕ ρ)} : ∀ {n : Nat} {s : σ} {r : ρ} (k : Nat), iter f n s = some r → iter f (n + k) s = some r
  | 0, _, _, _, h => by simp [iter] at h
  | n + 1, s, r, k, h => by
    rw [Nat.add_right_comm]
    simp only [iter] at h ⊢
    cases hs : f s with
    | none => rw [hs] at h; cases h
    | some q =>
      rw [hs] at h
      cases q with
      | inl s' => exact iter_more k h
      | inr r' => exact h
theorem run_few {σ ρ : Type} {f : σ → Option (σ ⊕ ρ)} {s : σ} {r : ρ} (n : Nat) (hn : n ≤ 1000000) (h : iter f n s = some r) : run f s = some r := by
  unfold run
  rw [FUEL_eq, show (4611686018427387904 : Nat) = n + (4611686018427387904 - n) from by omega]
  exact iter_more _ h

/-- A loop over numbers. -/
theorem run_ix {σ ρ : Type} {f : σ × Int → Option ((σ × Int) ⊕ ρ)} {s0 : σ} {a n : Nat} (I : Nat → σ → Prop) (R : ρ → Prop) (han : a ≤ n) (hn : n ≤ 4000000000000000000) (h0 : I a s0)
    (step : ∀ i s, a ≤ i → i < n → I i s → (∃ s', f (s, (i : Int)) = some (.inl (s', ((i + 1 : Nat) : Int))) ∧ I (i + 1) s') ∨ ∃ r, f (s, (i : Int)) = some (.inr r) ∧ R r)
    (fin : ∀ s, I n s → ∃ r, f (s, (n : Int)) = some (.inr r) ∧ R r) : ∃ r, run f (s0, (a : Int)) = some r ∧ R r := by
  refine run_inv (fun p => ∃ i : Nat, p.2 = (i : Int) ∧ a ≤ i ∧ i ≤ n ∧ I i p.1) R (fun p => n - p.2.toNat) ⟨a, rfl, Nat.le_refl _, han, h0⟩ (by simp only; omega) ?_
  rintro ⟨s, x⟩ ⟨i, rfl, hai, hin, hI⟩
  rcases Nat.lt_or_ge i n with hlt | hge
  · rcases step i s hai hlt hI with ⟨s', h1, h2⟩ | h
    · exact .inl ⟨_, h1, ⟨i + 1, rfl, by omega, by omega, h2⟩, by simp only; omega⟩
    · exact .inr h
  · have : i = n := by omega
    subst this
    exact .inr (fin s hI)
/-- A loop over numbers, told as a function of them. -/
theorem run_G {σ ρ : Type} {f : σ × Int → Option ((σ × Int) ⊕ ρ)} (G : Nat → σ) {s0 : σ} {a n : Nat} {r : ρ} (han : a ≤ n) (hn : n ≤ 4000000000000000000) (h0 : s0 = G a)
    (step : ∀ i, a ≤ i → i < n → f (G i, (i : Int)) = some (.inl (G (i + 1), ((i + 1 : Nat) : Int)))) (fin : f (G n, (n : Int)) = some (.inr r)) : run f (s0, (a : Int)) = some r := by
  obtain ⟨r', h1, h2⟩ := run_ix (f := f) (s0 := s0) (a := a) (n := n) (fun i s => s = G i) (fun x => x = r) han hn h0 (fun i s hi hlt e => .inl ⟨_, by rw [e]; exact step i hi hlt, rfl⟩) (fun s e => ⟨r, by rw [e]; exact fin, rfl⟩)
  rw [h1, h2]
theorem run_G0 {σ ρ : Type} {f : σ × Int → Option ((σ × Int) ⊕ ρ)} (G : Nat → σ) {s0 : σ} {n : Nat} {r : ρ} (hn : n ≤ 4000000000000000000) (h0 : s0 = G 0)
    (step : ∀ i, i < n → f (G i, (i : Int)) = some (.inl (G (i + 1), ((i + 1 : Nat) : Int)))) (fin : f (G n, (n : Int)) = some (.inr r)) : run f (s0, (0 : Int)) = some r :=
  run_G (a := 0) G (Nat.zero_le _) hn h0 (fun i _ h => step i h) fin
theorem run_ix0 {σ ρ : Type} {f : σ × Int → Option ((σ × Int) ⊕ ρ)} {s0 : σ} {n : Nat} (I : Nat → σ → Prop) (R : ρ → Prop) (hn : n ≤ 4000000000000000000) (h0 : I 0 s0)
    (step : ∀ i s, i < n → I i s → (∃ s', f (s, (i : Int)) = some (.inl (s', ((i + 1 : Nat) : Int))) ∧ I (i + 1) s') ∨ ∃ r, f (s, (i : Int)) = some (.inr r) ∧ R r)
    (fin : ∀ s, I n s → ∃ r, f (s, (n : Int)) = some (.inr r) ∧ R r) : ∃ r, run f (s0, (0 : Int)) = some r ∧ R r :=
  run_ix (a := 0) I R (Nat.zero_le _) hn h0 (fun i s _ h k => step i s h k) fin
/-- A search over numbers, without other state. -/
theorem run_se {ρ : Type} {f : Int → Option (Int ⊕ ρ)} {a n : Nat} (R : ρ → Prop) (I : Nat → Prop) (han : a ≤ n) (hn : n ≤ 4000000000000000000) (h0 : I a)
    (step : ∀ i, a ≤ i → i < n → I i → (f (i : Int) = some (.inl ((i + 1 : Nat) : Int)) ∧ I (i + 1)) ∨ ∃ r, f (i : Int) = some (.inr r) ∧ R r)
    (fin : I n → ∃ r, f (n : Int) = some (.inr r) ∧ R r) : ∃ r, run f (a : Int) = some r ∧ R r := by
  refine run_inv (fun x => ∃ i : Nat, x = (i : Int) ∧ a ≤ i ∧ i ≤ n ∧ I i) R (fun x => n - x.toNat) ⟨a, rfl, Nat.le_refl _, han, h0⟩ (by omega) ?_
  rintro x ⟨i, rfl, hai, hin, hI⟩
  rcases Nat.lt_or_ge i n with hlt | hge
  · rcases step i hai hlt hI with ⟨h1, h2⟩ | h
    · exact .inl ⟨_, h1, ⟨i + 1, rfl, by omega, by omega, h2⟩, by omega⟩
    · exact .inr h
  · have : i = n := by omega
    subst this
    exact .inr (fin hI)

theorem run_seE {ρ : Type} {f : Int → Option (Int ⊕ ρ)} {a n : Nat} {r : ρ} (I : Nat → Prop) (han : a ≤ n) (hn : n ≤ 4000000000000000000) (h0 : I a)
    (step : ∀ i, a ≤ i → i < n → I i → (f (i : Int) = some (.inl ((i + 1 : Nat) : Int)) ∧ I (i + 1)) ∨ f (i : Int) = some (.inr r))
    (fin : I n → f (n : Int) = some (.inr r)) : run f (a : Int) = some r := by
  obtain ⟨r', h1, h2⟩ := run_se (f := f) (fun x => x = r) I han hn h0 (fun i h1 h2 h3 => (step i h1 h2 h3).imp id fun h => ⟨r, h, rfl⟩) (fun h => ⟨r, fin h, rfl⟩)
  rw [h1, h2]
theorem run_ixE {σ ρ : Type} {f : σ × Int → Option ((σ × Int) ⊕ ρ)} {s0 : σ} {n : Nat} {r : ρ} (I : Nat → σ → Prop) (hn : n ≤ 4000000000000000000) (h0 : I 0 s0)
    (step : ∀ i s, i < n → I i s → (∃ s', f (s, (i : Int)) = some (.inl (s', ((i + 1 : Nat) : Int))) ∧ I (i + 1) s') ∨ f (s, (i : Int)) = some (.inr r))
    (fin : ∀ s, I n s → f (s, (n : Int)) = some (.inr r)) : run f (s0, (0 : Int)) = some r := by
  obtain ⟨r', h1, h2⟩ := run_ix0 (f := f) (s0 := s0) I (fun x => x = r) hn h0 (fun i s h1 h2 => (step i s h1 h2).imp id fun h => ⟨r, h, rfl⟩) (fun s h => ⟨r, fin s h, rfl⟩)
  rw [h1, h2]

/-- A list told place by place. -/
def tab {α : Type} (n : Nat) (g : Nat → α) : List α := (List.range n).map g
section
variable {α : Type} {n : Nat} {g g' : Nat → α}
@[simp] theorem tab_len : (tab n g).length = n := by simp [tab]
theorem tab_get {i : Nat} (h : i < (tab n g).length) : (tab n g)[i] = g i := by simp [tab]
theorem tab_get? {i : Nat} (h : i < n) : (tab n g)[i]? = some (g i) := by simp [tab, h]
theorem tab_congr (h : ∀ i, i < n → g i = g' i) : tab n g = tab n g' := by
  unfold tab
  exact List.map_congr_left fun i hi => h i (List.mem_range.1 hi)
theorem tab_set {i : Nat} {y : α} : (tab n g).set i y = tab n (fun j => if j = i then y else g j) := by
  apply List.ext_getElem (by simp)
  intro j h1 h2
  rw [List.getElem_set, tab_get (by simpa using h2), tab_get h2]
  by_cases hij : i = j
  · rw [if_pos hij, if_pos hij.symm]
  · rw [if_neg hij, if_neg fun e => hij e.symm]
theorem tab_rep {z : α} : List.replicate n z = tab n (fun _ => z) := by
  apply List.ext_getElem?
  intro j
  by_cases hj : j < n <;> simp [tab, hj]
theorem getI_tab {i : Nat} (h : i < n) : getI (tab n g) (i : Int) = some (g i) := by rw [getI_nat (by simpa using h), tab_get]
theorem tab_succ : tab (n + 1) g = tab n g ++ [g n] := by simp [tab, List.range_succ]
theorem tab_zero : tab 0 g = [] := rfl
theorem tab_all (z : α) (xs : List α) : xs = tab xs.length (fun j => xs.getD j z) := by
  apply List.ext_getElem?
  intro j
  by_cases hj : j < xs.length
  · rw [tab_get? hj, List.getElem?_eq_getElem hj]; simp [List.getD_eq_getElem?_getD, hj]
  · rw [List.getElem?_eq_none (by omega), List.getElem?_eq_none (by simp; omega)]
theorem tab_getD {i : Nat} {z : α} : (tab n g).getD i z = if i < n then g i else z := by
  by_cases h : i < n
  · simp [tab, h, List.getD_eq_getElem?_getD]
  · rw [if_neg h, List.getD_eq_getElem?_getD, List.getElem?_eq_none (by simp; omega)]; rfl
theorem mem_tab {x : α} : x ∈ tab n g ↔ ∃ i, i < n ∧ g i = x := by simp [tab]
theorem getI_getD {xs : List α} (z : α) {i : Nat} (h : i < xs.length) : getI xs (i : Int) = some (xs.getD i z) := by
  rw [getI_nat h]; simp [List.getD_eq_getElem?_getD, h]
theorem set_getD {xs : List α} {z : α} {i j : Nat} {y : α} (h : i < xs.length) : (xs.set i y).getD j z = if j = i then y else xs.getD j z := by
  simp only [List.getD_eq_getElem?_getD, List.getElem?_set]
  by_cases e : i = j
  · subst e; simp [h]
  · rw [if_neg e, if_neg fun h : j = i => e h.symm]
theorem list_ext_getD (z : α) {xs ys : List α} (hl : xs.length = ys.length) (h : ∀ i, i < xs.length → xs.getD i z = ys.getD i z) : xs = ys := by
  rw [tab_all z xs, tab_all z ys, ← hl]
  exact tab_congr h
end
end Go.AX
/- Texts cut at a sign, and their parts. -/
namespace Go.AX
def okN (x : Nat) : Bool := (decide (97 ≤ x) && decide (x ≤ 122)) || (decide (48 ≤ x) && decide (x ≤ 57)) || x == 46 || x == 45 || x == 95
def badB (w : List UInt8) : Bool := w == [] || w == [46] || w == [46, 46] || w.any fun x => !okN x.toNat
def splA (w : List UInt8) : List UInt8 → List (List UInt8)
  | [] => [w]
  | x :: l => if x = 47 then w :: splA [] l else splA (w ++ [x]) l
def spl (l : List UInt8) : List (List UInt8) := splA [] l
def rightB (l : List UInt8) : Bool := decide (l.length ≤ 24) && !(spl l).any badB

theorem splA_no : ∀ {l w : List UInt8}, (47 : UInt8) ∉ l → splA w l = [w ++ l]
  | [], w, _ => by simp [splA]
  | x :: l, w, h => by
    have h1 : x ≠ 47 := fun e => h (by simp [e])
    rw [splA, if_neg h1, splA_no (fun h2 => h (List.mem_cons_of_mem _ h2))]
    simp
theorem splA_cut : ∀ {a l w : List UInt8}, (47 : UInt8) ∉ a → splA w (a ++ 47 :: l) = (w ++ a) :: splA [] l
  | [], l, w, _ => by simp [splA]
  | x :: a, l, w, h => by
    have h1 : x ≠ 47 := fun e => h (by simp [e])
    show splA w (x :: (a ++ 47 :: l)) = _
    rw [splA, if_neg h1, splA_cut (fun h2 => h (List.mem_cons_of_mem _ h2))]
    simp
theorem spl_no {l : List UInt8} (h : (47 : UInt8) ∉ l) : spl l = [l] := by rw [spl, splA_no h]; rfl
theorem spl_cut {a l : List UInt8} (h : (47 : UInt8) ∉ a) : spl (a ++ 47 :: l) = a :: spl l := by rw [spl, splA_cut h]; rfl
theorem splA_len : ∀ (l w : List UInt8), (splA w l).length = l.count 47 + 1
  | [], w => rfl
  | x :: l, w => by
    unfold splA
    split
    · next h => subst h; simp [splA_len l]
    · next h => rw [splA_len l]; simp [h]
theorem spl_len (l : List UInt8) : (spl l).length = l.count 47 + 1 := splA_len l []
theorem spl_pos (l : List UInt8) : 0 < (spl l).length := by rw [spl_len]; omega
theorem splA_mem : ∀ (l w : List UInt8), (47 : UInt8) ∉ w → ∀ p ∈ splA w l, (47 : UInt8) ∉ p
  | [], w, h, p, hp => by simp [splA] at hp; subst hp; exact h
  | x :: l, w, h, p, hp => by
    unfold splA at hp
    split at hp
    · rcases List.mem_cons.1 hp with rfl | hp
      · exact h
      · exact splA_mem l [] (by simp) p hp
    · next hx => exact splA_mem l (w ++ [x]) (by simp [h, Ne.symm hx]) p hp
theorem spl_mem {l p : List UInt8} (h : p ∈ spl l) : (47 : UInt8) ∉ p := splA_mem l [] (by simp) p h
/-- The length of all parts. -/
theorem splA_le : ∀ (l w : List UInt8), ∀ p ∈ splA w l, p.length ≤ w.length + l.length
  | [], w, p, hp => by simp [splA] at hp; subst hp; simp
  | x :: l, w, p, hp => by
    unfold splA at hp
    split at hp
    · rcases List.mem_cons.1 hp with rfl | hp
      · simp
      · have := splA_le l [] p hp; simp at this ⊢; omega
    · have := splA_le l (w ++ [x]) p hp; simp at this ⊢; omega

/-- Parts with a sign between. -/
def joi : List (List UInt8) → List UInt8
  | [] => []
  | [w] => w
  | w :: v :: l => w ++ 47 :: joi (v :: l)
theorem joi_spl : ∀ (l w : List UInt8), joi (splA w l) = w ++ l
  | [], w => by simp [splA, joi]
  | x :: l, w => by
    unfold splA
    split
    · next h =>
      have e := joi_spl l []
      obtain ⟨v, r, hr⟩ : ∃ v r, splA [] l = v :: r := by
        cases h2 : splA [] l with
        | nil => have := splA_len l []; rw [h2] at this; simp at this
        | cons v r => exact ⟨v, r, rfl⟩
      rw [hr] at e ⊢
      show w ++ 47 :: joi (v :: r) = _
      rw [e, h]; simp
    · next h => rw [joi_spl l]; simp
theorem joi_of_spl (l : List UInt8) : joi (spl l) = l := by rw [spl, joi_spl]; rfl
theorem spl_joi : ∀ {ps : List (List UInt8)}, ps ≠ [] → (∀ p ∈ ps, (47 : UInt8) ∉ p) → spl (joi ps) = ps
  | [], h, _ => absurd rfl h
  | [w], _, h => by rw [joi, spl_no (h w (by simp))]
  | w :: v :: l, _, h => by
    rw [joi, spl_cut (h w (by simp)), spl_joi (by simp) (fun p hp => h p (List.mem_cons_of_mem _ hp))]
theorem joi_app : ∀ {a b : List (List UInt8)}, a ≠ [] → b ≠ [] → joi (a ++ b) = joi a ++ 47 :: joi b
  | [], _, h, _ => absurd rfl h
  | [w], b, _, hb => by
    cases b with
    | nil => exact absurd rfl hb
    | cons v l => rfl
  | w :: v :: l, b, _, hb => by
    have := joi_app (a := v :: l) (b := b) (by simp) hb
    show w ++ 47 :: joi ((v :: l) ++ b) = (w ++ 47 :: joi (v :: l)) ++ 47 :: joi b
    rw [this]; simp
end Go.AX
/- Which texts are paths, and their parts. -/
namespace Go.AX
open Go.AM
set_option linter.unusedSimpArgs false
theorem bd_s {α β : Type} (a : α) (f : α → Option β) : (some a).bind f = f a := rfl
theorem other_is (x : Nat) : X.path_other (I32.mk (x : Int)) = some (!okN x) := by
  unfold X.path_other okN
  simp only
  congr 1
  rw [Bool.eq_iff_iff]
  simp
  omega
theorem ba_get (s : Str) (i : Nat) (h : i < s.ba.size) : s.ba[i]'h = s.l[i]'(by rw [ba_size] at h; exact h) := rfl
theorem okN_high {x : Nat} (h : 128 ≤ x) : okN x = false := by
  unfold okN
  simp
  omega
theorem idx_from (s : Str) : ∀ (f pos : Nat), s.l.length ≤ pos + f → (0 ≤ Lib.idxFuncFrom (fun x => !okN x) true s.ba f pos ↔ ∃ i, ∃ h : i < s.l.length, pos ≤ i ∧ okN (s.l[i]).toNat = false)
  | 0, pos, h => by
    unfold Lib.idxFuncFrom
    constructor
    · intro h; omega
    · rintro ⟨i, h1, h2, _⟩; omega
  | f + 1, pos, h => by
    unfold Lib.idxFuncFrom
    by_cases hp : pos < s.ba.size
    · rw [if_pos hp]
      have hp' : pos < s.l.length := by rwa [ba_size] at hp
      by_cases ha : (s.l[pos]).toNat < 128
      · have hd := Go.decode_ascii s.ba pos hp (by rw [ba_get]; exact ha)
        have hd1 : (Utf8.decode s.ba pos).1 = (s.l[pos]).toNat := by rw [hd]; rfl
        have hd2 : (Utf8.decode s.ba pos).2 = 1 := by rw [hd]
        by_cases hk : okN (s.l[pos]).toNat = true
        · rw [if_neg (by show ¬ ((!okN (Utf8.decode s.ba pos).1) = true); rw [hd1]; simp [hk]), hd2, idx_from s f (pos + 1) (by omega)]
          constructor
          · rintro ⟨i, h1, h2, h3⟩; exact ⟨i, h1, by omega, h3⟩
          · rintro ⟨i, h1, h2, h3⟩
            refine ⟨i, h1, ?_, h3⟩
            rcases Nat.lt_or_ge pos i with h4 | h4
            · exact h4
            · obtain rfl : i = pos := by omega
              rw [hk] at h3; cases h3
        · have hk : okN (s.l[pos]).toNat = false := by simpa using hk
          rw [if_pos (by show (!okN (Utf8.decode s.ba pos).1) = true; rw [hd1]; simp [hk])]
          exact ⟨fun _ => ⟨pos, hp', Nat.le_refl _, hk⟩, fun _ => by omega⟩
      · obtain ⟨h1, h2⟩ := Go.decode_high s.ba pos hp (by rw [ba_get]; omega)
        rw [if_pos (by show (!okN (Utf8.decode s.ba pos).1) = true; simp [okN_high h1])]
        exact ⟨fun _ => ⟨pos, hp', Nat.le_refl _, okN_high (by omega)⟩, fun _ => by omega⟩
    · rw [if_neg hp]
      rw [ba_size] at hp
      constructor
      · intro h; omega
      · rintro ⟨i, h1, h2, _⟩; omega
theorem cont_is (s : Str) : X.strings_ContainsFunc s (fun a1 => X.path_other a1) = some (s.l.any fun x => !okN x.toNat) := by
  unfold X.strings_ContainsFunc X.strings_IndexFunc X.strings_indexFunc
  rw [if_pos (by intro x _; show (X.path_other _).isSome = true; rw [other_is]; rfl), bd_s, bd_s]
  have e : (fun x : Nat => (X.path_other (I32.mk (x : Int))).getD false) = fun x => !okN x := by
    funext x; rw [other_is]; rfl
  rw [e]
  congr 1
  rw [Bool.eq_iff_iff, decide_eq_true_eq]
  have := idx_from s s.ba.size 0 (by rw [ba_size]; omega)
  unfold Lib.idxFunc
  rw [ge_iff_le, this, List.any_eq_true]
  constructor
  · rintro ⟨i, h1, _, h2⟩; exact ⟨s.l[i], List.getElem_mem h1, by simp [h2]⟩
  · rintro ⟨x, h1, h2⟩
    obtain ⟨i, h3, rfl⟩ := List.mem_iff_getElem.1 h1
    exact ⟨i, h3, Nat.zero_le _, by simpa using h2⟩
theorem wrong_is (s : Str) : X.path_wrong s = some (badB s.l) := by
  unfold X.path_wrong badB
  rw [cont_is]
  simp only [optG]
  cases h1 : s.l == [] <;> cases h2 : s.l == [46] <;> cases h3 : s.l == [46, 46] <;> simp [bd_s, h1, h2, h3]

/-! ### cut at the sign -/
theorem ixb_no : ∀ {l : List UInt8}, (47 : UInt8) ∉ l → Lib.indexByte l 47 = -1
  | [], _ => rfl
  | x :: l, h => by
    have h1 : x ≠ 47 := fun e => h (by simp [e])
    rw [Lib.indexByte, ixb_no (fun h2 => h (List.mem_cons_of_mem _ h2))]
    simp [h1]
theorem ixb_cut : ∀ {a l : List UInt8}, (47 : UInt8) ∉ a → Lib.indexByte (a ++ 47 :: l) 47 = (a.length : Int)
  | [], l, _ => by simp [Lib.indexByte]
  | x :: a, l, h => by
    have h1 : x ≠ 47 := fun e => h (by simp [e])
    show Lib.indexByte (x :: (a ++ 47 :: l)) 47 = _
    rw [Lib.indexByte, ixb_cut (fun h2 => h (List.mem_cons_of_mem _ h2))]
    simp [h1]
theorem cut_at : ∀ {l : List UInt8}, (47 : UInt8) ∈ l → ∃ a r, l = a ++ 47 :: r ∧ (47 : UInt8) ∉ a
  | [], h => by cases h
  | x :: l, h => by
    by_cases h1 : x = 47
    · exact ⟨[], l, by rw [h1]; rfl, by simp⟩
    · obtain ⟨a, r, e, h2⟩ := cut_at (l := l) (by rcases List.mem_cons.1 h with e | e; exact absurd e.symm h1; exact e)
      exact ⟨x :: a, r, by rw [e]; rfl, by simp [h2, Ne.symm h1]⟩
theorem index_is (s : Str) : X.strings_Index_k47 s = some (Lib.indexByte s.l 47) := by
  unfold X.strings_Index_k47 X.stringslite_Index_k47 X.stringslite_IndexByte
  have e : getI (Str.mk [47]).l (0 : Int) = some 47 := rfl
  by_cases h : (Str.mk [47]).l == s.l
  · rw [if_pos h]
    have : s.l = [47] := (eq_of_beq h).symm
    rw [this]; rfl
  · rw [if_neg h, e]; rfl
theorem slc_nn {α : Type} (xs : List α) (a b : Nat) : slc xs (a : Int) (b : Int) = (xs.drop a).take (b - a) := by
  unfold slc
  simp
theorem slc_0n {α : Type} (xs : List α) (b : Nat) : slc xs (0 : Int) (b : Int) = xs.take b := by
  have := slc_nn xs 0 b
  simpa using this
theorem split_is (s : Str) (hl : s.l.length ≤ 1000) : X.strings_Split_k47 s = some ((spl s.l).map Str.mk) := by
  have hc : s.l.count 47 ≤ s.l.length := List.count_le_length
  unfold X.strings_Split_k47 X.strings_genSplit_k47_0_1 X.strings_Count_k47
  have e : getI (Str.mk [47]).l (0 : Int) = some 47 := rfl
  rw [e, bd_s, bd_s]
  generalize hn : s.l.count 47 = c at *
  have e1 : wr ((c : Int) + (1 : Int)) = ((c + 1 : Nat) : Int) := wr_succ (by omega)
  have e2 : wr ((s.l.length : Int) + (1 : Int)) = ((s.l.length + 1 : Nat) : Int) := wr_succ (by omega)
  have e3 : min (((c + 1 : Nat) : Int)) (((s.l.length + 1 : Nat) : Int)) = ((c + 1 : Nat) : Int) := by omega
  rw [e1, e2, e3, need_is (by omega), bd_s]
  have e4 : wr (((c + 1 : Nat) : Int) - (1 : Int)) = (c : Int) := by rw [wr_eq (by omega) (by omega)]; omega
  have key : ∃ o, run (X.strings_genSplit_k47_0_1_s17 (c : Int) s) (s, List.replicate (((c + 1 : Nat) : Int)).toNat (Str.mk []), (0 : Int)) = some o ∧
      ∃ (rest : Str) (arr : List Str), o = (rest, arr, (c : Int)) ∧ arr.length = c + 1 ∧ (spl rest.l).length = 1 ∧ arr.take c ++ (spl rest.l).map Str.mk = (spl s.l).map Str.mk := by
    refine run_inv (fun p => ∃ (i : Nat) (rest : Str) (arr : List Str), p = (rest, arr, (i : Int)) ∧ arr.length = c + 1 ∧ i + (spl rest.l).length = c + 1 ∧ rest.l.length ≤ 1000 ∧ arr.take i ++ (spl rest.l).map Str.mk = (spl s.l).map Str.mk) _ (fun p => c - p.2.2.toNat)
      ⟨0, s, _, rfl, by simp, by rw [spl_len, hn]; omega, hl, by simp⟩ (by simp only; omega) ?_
    rintro _ ⟨i, rest, arr, rfl, h1, h2, h3, h4⟩
    unfold X.strings_genSplit_k47_0_1_s17
    simp only [e1, e2, e3, e4]
    rcases Nat.lt_or_ge i c with hi | hi
    · left
      rw [if_pos (by simp; omega), index_is, bd_s]
      have hm : (47 : UInt8) ∈ rest.l := by
        refine Decidable.by_contra fun hno => ?_
        rw [spl_no hno] at h2
        simp at h2
        omega
      obtain ⟨a, r, er, ha⟩ := cut_at hm
      have hlen : rest.l.length = a.length + 1 + r.length := by rw [er]; simp; omega
      rw [er, ixb_cut ha, if_neg (by simp), ← er]
      have w0 : wr ((a.length : Int) + (0 : Int)) = (a.length : Int) := by rw [wr_eq (by omega) (by omega)]; omega
      have w1 : wr ((a.length : Int) + (1 : Int)) = ((a.length + 1 : Nat) : Int) := wr_succ (by omega)
      rw [w0, w1, need_is (by omega), bd_s, getI_nat (by omega), bd_s, need_is (by omega), bd_s, slc_0n, slc_nn, wr_succ (by omega)]
      refine ⟨_, rfl, ⟨i + 1, _, _, rfl, by simp [h1], ?_, ?_, ?_⟩, by simp only; omega⟩
      · simp only
        have e5 : (rest.l.drop (a.length + 1)).take (rest.l.length - (a.length + 1)) = r := by
          rw [er]
          rw [List.take_of_length_le (by simp; omega)]
          rw [show a ++ 47 :: r = (a ++ [47]) ++ r by simp, List.drop_left' (by simp)]
        rw [e5]
        rw [er, spl_cut ha] at h2
        simp at h2
        omega
      · simp; omega
      · simp only
        have e5 : (rest.l.drop (a.length + 1)).take (rest.l.length - (a.length + 1)) = r := by
          rw [er]
          rw [List.take_of_length_le (by simp; omega)]
          rw [show a ++ 47 :: r = (a ++ [47]) ++ r by simp, List.drop_left' (by simp)]
        have e6 : rest.l.take a.length = a := by rw [er]; simp
        rw [e5, e6]
        rw [er, spl_cut ha] at h4
        rw [← h4, Int.toNat_natCast]
        have h6 : i < arr.length := by omega
        rw [List.take_succ_eq_append_getElem (by simpa using h6)]
        simp
        rw [List.take_set_of_le (Nat.le_refl _)]
    · right
      rw [if_neg (by simp; omega)]
      have hic : i = c := by have := spl_pos rest.l; omega
      subst hic
      exact ⟨_, rfl, _, _, rfl, h1, by omega, h4⟩
  obtain ⟨o, h1, rest, arr, rfl, h2, h3, h4⟩ := key
  rw [h1, bd_s]
  simp only
  unfold X.strings_genSplit_k47_0_1_e17
  have h47 : (47 : UInt8) ∉ rest.l := by
    intro hm
    rw [spl_len] at h3
    have := List.count_pos_iff.2 hm
    omega
  rw [getI_nat (by omega), bd_s, e1, need_is (by simp; omega), bd_s, slc_0n, Int.toNat_natCast]
  rw [← h4, spl_no h47, List.take_of_length_le (by simp; omega), bd_s]
  congr 1
  apply List.ext_getElem (by simp; omega)
  intro j q1 q2
  simp only [List.length_set] at q1
  rw [List.getElem_set]
  by_cases hj : c = j
  · subst hj
    rw [if_pos rfl, List.getElem_append_right (by simp; omega)]
    simp
  · rw [if_neg hj, List.getElem_append_left (by simp; omega)]
    simp
theorem contL_is (l : List Str) (hl : l.length ≤ 100000) : X.slices_ContainsFunc_Lstring_string l (fun a1 => X.path_wrong a1) = some (l.any fun s => badB s.l) := by
  unfold X.slices_ContainsFunc_Lstring_string X.slices_IndexFunc_Lstring_string
  obtain ⟨o, h1, h2⟩ := run_se (f := X.slices_IndexFunc_Lstring_string_s6 l (fun a1 => X.path_wrong a1)) (a := 0) (n := l.length)
    (fun o => (match o with | .inl _ => l.any (fun s => badB s.l) = false | .inr k => 0 ≤ k ∧ l.any (fun s => badB s.l) = true)) (fun i => (l.take i).any (fun s => badB s.l) = false) (Nat.zero_le _) (by omega) (by simp)
    (fun i _ hi hI => by
      unfold X.slices_IndexFunc_Lstring_string_s6
      simp only
      rw [if_pos (by simpa using hi), getI_nat hi, bd_s, wrong_is, bd_s]
      cases hb : badB l[i].l
      · left
        rw [if_neg (by simp), wr_succ (by omega)]
        exact ⟨rfl, by rw [List.take_succ_eq_append_getElem hi, List.any_append, hI]; simp [hb]⟩
      · right
        rw [if_pos rfl]
        exact ⟨_, rfl, by omega, List.any_eq_true.2 ⟨l[i], List.getElem_mem hi, hb⟩⟩)
    (fun hI => by
      unfold X.slices_IndexFunc_Lstring_string_s6
      simp only
      rw [if_neg (by simp)]
      exact ⟨_, rfl, by simpa using hI⟩)
  have h1' : run (X.slices_IndexFunc_Lstring_string_s6 l (fun a1 => X.path_wrong a1)) (0 : Int) = some o := h1
  rw [h1', bd_s]
  cases o with
  | inl u => simp only at h2; rw [h2]; rfl
  | inr k => simp only at h2; obtain ⟨h2, h3⟩ := h2; rw [h3, bd_s]; simp [h2]
theorem any_mk (L : List (List UInt8)) : (L.map Str.mk).any (fun s => badB s.l) = L.any badB := by
  rw [List.any_map]; rfl
theorem right_is (s : Str) : X.path_Right s = some (rightB s.l) := by
  unfold X.path_Right rightB
  by_cases h : s.l.length ≤ 24
  · have hd : decide ((s.l.length : Int) ≤ (24 : Int)) = true := by simp; omega
    have hd2 : decide (s.l.length ≤ 24) = true := by simpa using h
    rw [hd, hd2, optG_true, split_is s (by omega), bd_s, optG_true, contL_is _ (by simp [spl_len]; have := List.count_le_length (a := (47 : UInt8)) (l := s.l); omega), bd_s, any_mk]
  · have hd : decide ((s.l.length : Int) ≤ (24 : Int)) = false := by simp; omega
    have hd2 : decide (s.l.length ≤ 24) = false := by simpa using h
    rw [hd, hd2, optG_false, bd_s, optG_false, bd_s]; rfl
theorem right_len {l : List UInt8} (h : rightB l = true) : l.length ≤ 24 := by unfold rightB at h; simp at h; exact h.1
end Go.AX
/- Numbers as four bytes, the highest first. -/
namespace Go.AX
open Go.AM
set_option linter.unusedSimpArgs false
def w4 (n : Nat) : List UInt8 := [UInt8.ofNat (n / 16777216), UInt8.ofNat (n / 65536), UInt8.ofNat (n / 256), UInt8.ofNat n]
def beN (l : List UInt8) : Nat := l.foldl (fun n c => n * 256 + c.toNat) 0
@[simp] theorem w4_len (n : Nat) : (w4 n).length = 4 := rfl
theorem be_w4 {n : Nat} (h : n < 4294967296) : beN (w4 n) = n := by
  simp only [w4, beN, List.foldl_cons, List.foldl_nil, UInt8.toNat_ofNat']
  omega
theorem four {l : List UInt8} (h : l.length = 4) : ∃ a b c d, l = [a, b, c, d] := by
  match l, h with
  | [a, b, c, d], _ => exact ⟨a, b, c, d, rfl⟩
theorem w4_be {l : List UInt8} (h : l.length = 4) : w4 (beN l) = l := by
  obtain ⟨a, b, c, d, rfl⟩ := four h
  have ha := a.toNat_lt
  have hb := b.toNat_lt
  have hc := c.toNat_lt
  have hd := d.toNat_lt
  have e : beN [a, b, c, d] = ((a.toNat * 256 + b.toNat) * 256 + c.toNat) * 256 + d.toNat := by simp [beN]
  have o : ∀ (x : UInt8) (m : Nat), m % 256 = x.toNat → UInt8.ofNat m = x := fun x m hm => by
    apply UInt8.toNat_inj.1
    rw [UInt8.toNat_ofNat', ← hm]
  rw [e]
  unfold w4
  rw [o a _ (by omega), o b _ (by omega), o c _ (by omega), o d _ (by omega)]
theorem be_lt {l : List UInt8} (h : l.length = 4) : beN l < 4294967296 := by
  obtain ⟨a, b, c, d, rfl⟩ := four h
  have ha := a.toNat_lt
  have hb := b.toNat_lt
  have hc := c.toNat_lt
  have hd := d.toNat_lt
  have e : beN [a, b, c, d] = ((a.toNat * 256 + b.toNat) * 256 + c.toNat) * 256 + d.toNat := by simp [beN]
  omega
theorem be_succ {l : List UInt8} {i : Nat} (h : i < l.length) : beN (l.take (i + 1)) = beN (l.take i) * 256 + (l[i]).toNat := by
  rw [List.take_succ_eq_append_getElem h]
  unfold beN
  rw [List.foldl_append]; rfl
theorem be_pow : ∀ (i : Nat) (l : List UInt8), i ≤ l.length → beN (l.take i) < 256 ^ i
  | 0, l, _ => by simp [beN]
  | i + 1, l, h => by
    rw [be_succ (by omega), Nat.pow_succ]
    have h1 := be_pow i l (by omega)
    have h2 := (l[i]'(by omega)).toNat_lt
    have h3 : (beN (l.take i) + 1) * 256 ≤ 256 ^ i * 256 := Nat.mul_le_mul_right _ h1
    omega
theorem or_add {n c : Nat} (h : c < 256) : n * 256 ||| c = n * 256 + c := by
  have := Nat.shiftLeft_add_eq_or_of_lt (i := 8) (b := c) (by omega) n
  rw [Nat.shiftLeft_eq] at this
  exact this.symm

/-! ### a reader: what is left, or none if bytes were missing -/
def tkA (n : Nat) : Option (List UInt8) → List UInt8 × Option (List UInt8)
  | none => ([], none)
  | some b => if n ≤ b.length then (b.take n, some (b.drop n)) else ([], none)
theorem tkA_none (n : Nat) : tkA n none = ([], none) := rfl
theorem tkA_some (n : Nat) (b : List UInt8) : tkA n (some b) = if n ≤ b.length then (b.take n, some (b.drop n)) else ([], none) := rfl
def byA (s : Option (List UInt8)) : UInt8 × Option (List UInt8) := ((tkA 1 s).1.headD 0, (tkA 1 s).2)
def inA (s : Option (List UInt8)) : Int × Option (List UInt8) := (((beN (tkA 4 s).1 : Nat) : Int), (tkA 4 s).2)
def teA (s : Option (List UInt8)) : List UInt8 × Option (List UInt8) := tkA (byA s).1.toNat (byA s).2
theorem tk_len (n : Nat) (s : Option (List UInt8)) : (tkA n s).1.length = 0 ∨ (tkA n s).1.length = n := by
  cases s with
  | none => exact .inl rfl
  | some b =>
    rw [tkA_some]
    by_cases h : n ≤ b.length
    · rw [if_pos h]; right; simp; omega
    · rw [if_neg h]; exact .inl rfl
theorem tk_app {a X : List UInt8} : tkA a.length (some (a ++ X)) = (a, some X) := by
  rw [tkA_some, if_pos (by simp)]
  simp
theorem by_app {c : UInt8} {X : List UInt8} : byA (some (c :: X)) = (c, some X) := by
  have : tkA 1 (some (c :: X)) = ([c], some X) := tk_app (a := [c]) (X := X)
  unfold byA
  rw [this]; rfl
theorem in_app {n : Nat} {X : List UInt8} (h : n < 4294967296) : inA (some (w4 n ++ X)) = ((n : Int), some X) := by
  have : tkA 4 (some (w4 n ++ X)) = (w4 n, some X) := tk_app (a := w4 n) (X := X)
  unfold inA
  rw [this, be_w4 h]
theorem te_app {a X : List UInt8} (h : a.length < 256) : teA (some (UInt8.ofNat a.length :: (a ++ X))) = (a, some X) := by
  unfold teA
  rw [by_app]
  simp only [UInt8.toNat_ofNat']
  rw [Nat.mod_eq_of_lt (by omega)]
  exact tk_app
theorem in_nn (s : Option (List UInt8)) : 0 ≤ (inA s).1 ∧ (inA s).1 < 4294967296 := by
  unfold inA
  simp only
  rcases tk_len 4 s with h | h
  · rw [List.length_eq_zero_iff.1 h]; decide
  · have := be_lt h; omega
end Go.AX
/- The program's reader. -/
namespace Go.AX
open Go.AM
set_option linter.unusedSimpArgs false
def conC : Option (List UInt8) → List UInt8 × Bool
  | none => ([], true)
  | some b => (b, false)
theorem c_take (n : Nat) (s : Option (List UInt8)) : X.code_Reader_take (n : Int) (conC s).1 (conC s).2 = some ((tkA n s).1, conC (tkA n s).2) := by
  cases s with
  | none => rfl
  | some b =>
    show X.code_Reader_take (n : Int) b false = _
    unfold X.code_Reader_take
    rw [if_neg (by simp)]
    by_cases h : n ≤ b.length
    · rw [if_neg (by simp; omega), need_is (by omega), bd_s, need_is (by omega), bd_s, tkA_some, if_pos h]
      have h1 : slc b (0 : Int) (n : Int) = b.take n := by simp [slc]
      have h2 : slc b (n : Int) (b.length : Int) = b.drop n := by
        unfold slc
        rw [Int.toNat_natCast, List.take_of_length_le (by simp)]
      rw [h1, h2]
      rfl
    · rw [if_pos (by simp; omega), tkA_some, if_neg h]
      rfl
theorem c_byte (s : Option (List UInt8)) : X.code_Reader_Byte (conC s).1 (conC s).2 = some ((byA s).1, conC (byA s).2) := by
  unfold X.code_Reader_Byte
  have := c_take 1 s
  rw [show (1 : Int) = ((1 : Nat) : Int) from rfl, this, bd_s]
  unfold byA
  cases h : (tkA 1 s).1 with
  | nil => rfl
  | cons c l =>
    rw [if_neg (by simp; omega)]
    rfl
theorem c_text (s : Option (List UInt8)) : X.code_Reader_Text (conC s).1 (conC s).2 = some (Str.mk (teA s).1, conC (teA s).2) := by
  unfold X.code_Reader_Text
  rw [c_byte, bd_s]
  simp only
  rw [c_take, bd_s]
  rfl
theorem c_int (s : Option (List UInt8)) : X.code_Reader_Int (conC s).1 (conC s).2 = some ((inA s).1, conC (inA s).2) := by
  unfold X.code_Reader_Int
  have := c_take 4 s
  rw [show (4 : Int) = ((4 : Nat) : Int) from rfl, this, bd_s]
  have hl : (tkA 4 s).1.length ≤ 4 := by rcases tk_len 4 s with h | h <;> omega
  generalize hx : (tkA 4 s).1 = x at hl
  obtain ⟨n, h1, h2⟩ := run_ix0 (f := X.code_Reader_Int_s10 (x, conC (tkA 4 s).2)) (s0 := (0 : UInt32)) (n := x.length) (fun i n => n.toNat = beN (x.take i)) (fun n => n.toNat = beN x) (by omega) rfl
    (fun i n hi hI => by
      left
      unfold X.code_Reader_Int_s10
      simp only
      rw [if_pos (by simpa using hi), getI_nat hi, bd_s, wr_succ (by omega)]
      refine ⟨_, rfl, ?_⟩
      have hp := be_pow i x (by omega)
      have hi3 : i ≤ 3 := by omega
      have hq : 256 ^ i ≤ 256 ^ 3 := Nat.pow_le_pow_right (by omega) hi3
      have hc := (x[i]).toNat_lt
      rw [be_succ hi, UInt32.toNat_or]
      have e1 : (shl32 n 8).toNat = beN (x.take i) * 256 := by
        unfold shl32
        rw [UInt32.toNat_ofNat', hI]
        omega
      have e2 : (u32 ((x[i]).toNat : Int)).toNat = (x[i]).toNat := by
        unfold u32
        rw [UInt32.toNat_ofNat']
        omega
      rw [e1, e2, or_add hc])
    (fun n hI => by
      unfold X.code_Reader_Int_s10
      simp only
      rw [if_neg (by simp)]
      exact ⟨_, rfl, by simpa using hI⟩)
  rw [h1, bd_s]
  unfold X.code_Reader_Int_e10 inA
  rw [hx]
  simp only [h2]
theorem c_new (b : List UInt8) (h : b.length ≤ 100000) : X.code_NewReader b = some (conC (some b)) := by
  unfold X.code_NewReader X.slices_Clone_Lbyte_byte
  rw [nilU_same (r := b) (fun e => by subst e; rfl) (by simp only [Bool.false_eq_true, if_false]; rw [need_is (by omega), bd_s]), bd_s]
  rfl
end Go.AX
/- Which heads may be, their bytes, and what is read of bytes. -/
namespace Go.AX
open Go.AM
set_option linter.unusedSimpArgs false
theorem optG_b (g a : Bool) : optG g (some a) = some (g && a) := by cases g <;> rfl
def RH (h : Head_api) : Prop := rightB h.Path.l = true ∧ (1 ≤ h.Version ∧ h.Version ≤ 1073741824) ∧ (1 ≤ h.Serial ∧ h.Serial ≤ 1073741824) ∧ (0 ≤ h.Size ∧ h.Size ≤ 4000) ∧ (0 ≤ h.Sum ∧ h.Sum ≤ 4294967295) ∧
  (0 ≤ h.From ∧ h.From ≤ h.Size) ∧ (0 ≤ h.Len ∧ h.Len ≤ h.Size - h.From) ∧ ¬ (h.Len = 0 ∧ 0 < h.Size) ∧ (h.Gone = false ∨ (h.Size = 0 ∧ h.Sum = 0))
instance (h : Head_api) : Decidable (RH h) := by unfold RH; infer_instance
theorem x_right (h : Head_api) : X.record_RightHead h = some (decide (RH h)) := by
  unfold X.record_RightHead X.record_within
  rw [right_is, bd_s]
  simp only [optG_b, bd_s]
  cases hp : rightB h.Path.l
  · have : ¬ RH h := fun hR => by have := hR.1; rw [hp] at this; cases this
    simp [this]
  by_cases h1 : (1 ≤ h.Version ∧ h.Version ≤ 1073741824) ∧ (1 ≤ h.Serial ∧ h.Serial ≤ 1073741824) ∧ (0 ≤ h.Size ∧ h.Size ≤ 4000) ∧ (0 ≤ h.Sum ∧ h.Sum ≤ 4294967295)
  · obtain ⟨⟨a1, a2⟩, ⟨a3, a4⟩, ⟨a5, a6⟩, a7, a8⟩ := h1
    rw [if_neg (by simp [a1, a2, a3, a4, a5, a6, a7, a8])]
    by_cases h2 : (0 ≤ h.From ∧ h.From ≤ h.Size) ∧ (0 ≤ h.Len ∧ h.Len ≤ h.Size - h.From) ∧ ¬ (h.Len = 0 ∧ 0 < h.Size)
    · obtain ⟨⟨b1, b2⟩, ⟨b3, b4⟩, b5⟩ := h2
      rw [wr_eq (by omega) (by omega), if_neg (by simp [b1, b2, b3, b4]; omega)]
      congr 1
      rw [Bool.eq_iff_iff, decide_eq_true_eq]
      unfold RH
      simp only [hp, a1, a2, a3, a4, a5, a6, a7, a8, b1, b2, b3, b4, b5, not_false_eq_true, true_and, and_self]
      simp
    · have hn : ¬ RH h := fun hR => h2 ⟨hR.2.2.2.2.2.1, hR.2.2.2.2.2.2.1, hR.2.2.2.2.2.2.2.1⟩
      rw [decide_eq_false hn, if_pos ?_]
      by_cases b : 0 ≤ h.From ∧ h.From ≤ h.Size
      · rw [wr_eq (by omega) (by omega)]
        simp [b.1, b.2]
        omega
      · simp
        omega
  · have hn : ¬ RH h := fun hR => h1 ⟨hR.2.1, hR.2.2.1, hR.2.2.2.1, hR.2.2.2.2.1⟩
    rw [decide_eq_false hn, if_pos ?_]
    simp
    omega

theorem u8_m (m : Nat) : u8 (m : Int) = UInt8.ofNat m := by
  apply UInt8.toNat_inj.1
  unfold u8
  rw [UInt8.toNat_ofNat', UInt8.toNat_ofNat']
  omega
theorem c_wint {n : Int} {b : List UInt8} (h0 : 0 ≤ n) (h1 : n < 4294967296) (hb : b.length ≤ 100000) : X.code_Writer_Int n b = some (b ++ w4 n.toNat) := by
  unfold X.code_Writer_Int
  rw [need_is (by simp only [List.length_cons, List.length_nil]; omega), bd_s]
  have e : (u32 n).toNat = n.toNat := by
    unfold u32
    rw [UInt32.toNat_ofNat']
    omega
  have s : ∀ k, (shr32 (u32 n) k).toNat = n.toNat / 2 ^ k := fun k => by
    unfold shr32
    rw [UInt32.toNat_ofNat', e]
    exact Nat.mod_eq_of_lt (Nat.lt_of_le_of_lt (Nat.div_le_self _ _) (by omega))
  rw [s, s, s, e]
  simp only [u8_m]
  rfl
theorem c_wbyte {c : UInt8} {b : List UInt8} (hb : b.length ≤ 100000) : X.code_Writer_Byte c b = some (b ++ [c]) := by
  unfold X.code_Writer_Byte
  rw [need_is (by simp only [List.length_cons, List.length_nil]; omega), bd_s]
theorem c_bytes {b : List UInt8} (hb : b.length ≤ 100000) : X.code_Writer_Bytes b = some b := by
  unfold X.code_Writer_Bytes X.slices_Clone_Lbyte_byte_own
  rw [nilU_same (r := b) (fun e => by subst e; rfl) (by simp only [Bool.false_eq_true, if_false]; rw [need_is (by omega), bd_s]), bd_s]
theorem c_wtext {s : Str} (h : s.l.length ≤ 255) : X.code_Writer_Text s [] = some (UInt8.ofNat s.l.length :: s.l) := by
  unfold X.code_Writer_Text
  have e : min (s.l.length : Int) (255 : Int) = (s.l.length : Int) := by omega
  rw [e, slc_all, need_is (by omega), bd_s]
  simp only [u8_m]
  rw [need_is (by simp), bd_s, need_is (by simp; omega), bd_s]
  rfl
def encH (h : Head_api) : List UInt8 := UInt8.ofNat h.Path.l.length :: (h.Path.l ++ (w4 h.Version.toNat ++ (w4 h.Size.toNat ++ (w4 h.From.toNat ++ (w4 h.Len.toNat ++ (w4 h.Serial.toNat ++ (w4 h.Sum.toNat ++ [if h.Gone then 1 else 0])))))))
theorem encH_len (h : Head_api) : (encH h).length = h.Path.l.length + 26 := by simp [encH]
theorem x_bytes (h : Head_api) : X.record_HeadBytes h = some (if RH h then encH h else []) := by
  unfold X.record_HeadBytes
  rw [x_right, bd_s]
  by_cases hR : RH h
  · rw [decide_eq_true hR, if_neg (by simp), if_pos hR]
    obtain ⟨p1, ⟨a1, a2⟩, ⟨a3, a4⟩, ⟨a5, a6⟩, ⟨a7, a8⟩, ⟨b1, b2⟩, ⟨b3, b4⟩, _, _⟩ := hR
    have pl := right_len p1
    rw [c_wtext (by omega), bd_s]
    have hall : ∀ n ∈ ([h.Version, h.Size, h.From, h.Len, h.Serial, h.Sum] : List Int), 0 ≤ n ∧ n < 4294967296 := by
      intro n hn
      simp only [List.mem_cons, List.not_mem_nil, or_false] at hn
      rcases hn with rfl | rfl | rfl | rfl | rfl | rfl <;> omega
    have key : run (X.record_HeadBytes_s16 h) (UInt8.ofNat h.Path.l.length :: h.Path.l, (0 : Int)) = some ((UInt8.ofNat h.Path.l.length :: h.Path.l) ++ ([h.Version, h.Size, h.From, h.Len, h.Serial, h.Sum] : List Int).flatMap fun n => w4 n.toNat) := by
      generalize hL : ([h.Version, h.Size, h.From, h.Len, h.Serial, h.Sum] : List Int) = L at hall
      have hlen : L.length = 6 := by rw [← hL]; rfl
      refine run_G0 (n := L.length) (fun i => (UInt8.ofNat h.Path.l.length :: h.Path.l) ++ (L.take i).flatMap fun n => w4 n.toNat) (by omega) (by simp) ?_ ?_
      · intro i hi
        unfold X.record_HeadBytes_s16
        simp only [hL]
        obtain ⟨q1, q2⟩ := hall _ (List.getElem_mem hi)
        have hfl : ((L.take i).flatMap fun n => w4 n.toNat).length = 4 * i := by
          rw [List.length_flatMap]
          simp only [w4_len]
          rw [List.map_const', List.sum_replicate_nat, List.length_take]
          omega
        rw [if_pos (by simpa using hi), getI_nat hi, bd_s, c_wint q1 q2 (by simp only [List.length_append, List.length_cons, hfl]; omega), bd_s, wr_succ (by omega)]
        rw [List.take_succ_eq_append_getElem hi, List.flatMap_append]
        simp
      · unfold X.record_HeadBytes_s16
        simp only [hL]
        rw [if_neg (by simp), List.take_length]
    rw [key, bd_s]
    simp only
    unfold X.record_HeadBytes_e16 X.record_HeadBytes_j25
    have e : ∀ c : UInt8, (UInt8.ofNat h.Path.l.length :: h.Path.l) ++ (([h.Version, h.Size, h.From, h.Len, h.Serial, h.Sum] : List Int).flatMap fun n => w4 n.toNat) ++ [c] =
        UInt8.ofNat h.Path.l.length :: (h.Path.l ++ (w4 h.Version.toNat ++ (w4 h.Size.toNat ++ (w4 h.From.toNat ++ (w4 h.Len.toNat ++ (w4 h.Serial.toNat ++ (w4 h.Sum.toNat ++ [c]))))))) := by
      intro c; simp
    unfold encH
    cases hg : h.Gone
    · rw [if_neg (by simp), c_wbyte (by simp; omega), bd_s, e, c_bytes (by simp; omega), bd_s]; rfl
    · rw [if_pos rfl, c_wbyte (by simp; omega), bd_s, e, c_bytes (by simp; omega), bd_s]; rfl
  · rw [decide_eq_false hR, if_pos (by simp), if_neg hR]
theorem x_equal {a b : List UInt8} (ha : a.length ≤ 1000000) : X.slices_Equal_Lbyte_byte a b = some (a == b) := by
  unfold X.slices_Equal_Lbyte_byte
  by_cases hl : a.length = b.length
  · rw [if_neg (by simp [hl])]
    obtain ⟨o, h1, h2⟩ := run_se (f := X.slices_Equal_Lbyte_byte_s9 a b) (a := 0) (n := a.length) (fun o => (o = .inl () ∧ a = b) ∨ (o = .inr false ∧ a ≠ b)) (fun i => a.take i = b.take i) (Nat.zero_le _) (by omega) (by simp)
      (fun i _ hi hI => by
        unfold X.slices_Equal_Lbyte_byte_s9
        simp only
        rw [if_pos (by simpa using hi), getI_nat hi, bd_s, getI_nat (by omega), bd_s]
        by_cases e : a[i] = b[i]'(by omega)
        · left
          rw [if_neg (by simp [e]), wr_succ (by omega)]
          exact ⟨rfl, by rw [List.take_succ_eq_append_getElem hi, List.take_succ_eq_append_getElem (by omega), hI, e]⟩
        · right
          rw [if_pos (by simp [e])]
          exact ⟨_, rfl, .inr ⟨rfl, fun h => e (by subst h; rfl)⟩⟩)
      (fun hI => by
        unfold X.slices_Equal_Lbyte_byte_s9
        simp only
        rw [if_neg (by simp)]
        refine ⟨_, rfl, .inl ⟨rfl, ?_⟩⟩
        rw [List.take_length, hl, List.take_length] at hI
        exact hI)
    have h1' : run (X.slices_Equal_Lbyte_byte_s9 a b) (0 : Int) = some o := h1
    rw [h1', bd_s]
    rcases h2 with ⟨rfl, rfl⟩ | ⟨rfl, h3⟩
    · simp only [beq_self_eq_true]; rfl
    · simp only [beq_eq_false_iff_ne.2 h3]
  · rw [if_pos (by simp; omega), beq_eq_false_iff_ne.2 (fun e => hl (by rw [e]))]

/-- What is read of bytes. -/
def pH (b : List UInt8) : Head_api × Option (List UInt8) :=
  let p := teA (some b); let v := inA p.2; let z := inA v.2; let f := inA z.2; let l := inA f.2; let e := inA l.2; let m := inA e.2; let g := byA m.2
  (⟨⟨p.1⟩, v.1, z.1, f.1, l.1, e.1, m.1, g.1 == 1⟩, g.2)
def zeroH : Head_api := ⟨⟨[]⟩, 0, 0, 0, 0, 0, 0, false⟩
def readH (b : List UInt8) : Head_api × Int := if RH (pH b).1 ∧ encH (pH b).1 = b then ((pH b).1, 0) else (zeroH, 2)
theorem pH_enc {h : Head_api} (hR : RH h) (X : List UInt8) : pH (encH h ++ X) = (h, some X) := by
  obtain ⟨p1, ⟨a1, a2⟩, ⟨a3, a4⟩, ⟨a5, a6⟩, ⟨a7, a8⟩, ⟨b1, b2⟩, ⟨b3, b4⟩, _, _⟩ := hR
  have pl := right_len p1
  have e : encH h ++ X = UInt8.ofNat h.Path.l.length :: (h.Path.l ++ (w4 h.Version.toNat ++ (w4 h.Size.toNat ++ (w4 h.From.toNat ++ (w4 h.Len.toNat ++ (w4 h.Serial.toNat ++ (w4 h.Sum.toNat ++ ((if h.Gone then 1 else 0) :: X)))))))) := by simp [encH]
  unfold pH
  rw [e, te_app (by omega)]
  simp only [in_app (n := h.Version.toNat) (by omega), in_app (n := h.Size.toNat) (by omega), in_app (n := h.From.toNat) (by omega), in_app (n := h.Len.toNat) (by omega), in_app (n := h.Serial.toNat) (by omega), in_app (n := h.Sum.toNat) (by omega), by_app]
  obtain ⟨⟨path⟩, v, z, f, l, s, m, g⟩ := h
  simp only at a1 a3 a5 a7 b1 b3 ⊢
  rw [Int.toNat_of_nonneg (by omega), Int.toNat_of_nonneg a5, Int.toNat_of_nonneg b1, Int.toNat_of_nonneg b3, Int.toNat_of_nonneg (by omega), Int.toNat_of_nonneg a7]
  cases g <;> rfl
theorem readH_enc {h : Head_api} (hR : RH h) : readH (encH h) = (h, 0) := by
  have := pH_enc hR []
  rw [List.append_nil] at this
  unfold readH
  rw [this]
  simp [hR]
theorem x_read (b : List UInt8) (hb : b.length ≤ 100000) : X.record_ReadHead b = some (readH b) := by
  unfold X.record_ReadHead X.code_Reader_Bad
  rw [c_new b hb, bd_s, c_text, bd_s]
  simp only [c_int, c_byte, bd_s]
  generalize hs : byA (inA (inA (inA (inA (inA (inA (teA (some b)).2).2).2).2).2).2).2 = g
  have hpH : pH b = (⟨⟨(teA (some b)).1⟩, (inA (teA (some b)).2).1, (inA (inA (teA (some b)).2).2).1, (inA (inA (inA (teA (some b)).2).2).2).1, (inA (inA (inA (inA (teA (some b)).2).2).2).2).1, (inA (inA (inA (inA (inA (teA (some b)).2).2).2).2).2).1, (inA (inA (inA (inA (inA (inA (teA (some b)).2).2).2).2).2).2).1, g.1 == 1⟩, g.2) := by
    rw [← hs]; rfl
  generalize hh : (⟨⟨(teA (some b)).1⟩, (inA (teA (some b)).2).1, (inA (inA (teA (some b)).2).2).1, (inA (inA (inA (teA (some b)).2).2).2).1, (inA (inA (inA (inA (teA (some b)).2).2).2).2).1, (inA (inA (inA (inA (inA (teA (some b)).2).2).2).2).2).1, (inA (inA (inA (inA (inA (inA (teA (some b)).2).2).2).2).2).2).1, g.1 == 1⟩ : Head_api) = h at hpH
  unfold readH
  rw [hpH]
  simp only [x_right, x_bytes]
  by_cases hR : RH h
  · rw [decide_eq_true hR, if_pos hR]
    by_cases hE : encH h = b
    · have hg : g.2 = some [] := by
        have := pH_enc hR []
        rw [List.append_nil, hE, hpH] at this
        exact (Prod.mk.inj this).2
      rw [hg, if_pos ⟨hR, hE⟩]
      simp only [conC, Bool.not_false, optG_true, bd_s, Bool.not_true, Bool.or_self, Bool.false_or]
      rw [x_equal (by omega), bd_s, hE]
      simp
    · rw [if_neg (fun h => hE h.2)]
      cases hc : (conC g.2).2
      · simp only [Bool.not_false, optG_true, bd_s, Bool.not_true, Bool.or_self, Bool.false_or]
        rw [x_equal (by omega), bd_s, beq_eq_false_iff_ne.2 (fun e => hE e.symm)]
        rfl
      · rfl
  · have e2 : (if RH h ∧ encH h = b then (h, (0 : Int)) else (zeroH, 2)) = (zeroH, 2) := if_neg fun h => hR h.1
    rw [decide_eq_false hR, if_neg hR, e2]
    cases hc : (conC g.2).2 <;> rfl
theorem alive10 : X.cartridgelaw10_alive = some true := by
  unfold X.cartridgelaw10_alive X.cartridgelaw10_num
  rw [x_read [] (by simp), bd_s, x_bytes, bd_s]
  have hR : RH ⟨⟨[97]⟩, 1, 0, 0, 0, 1, 0, false⟩ := by decide +kernel
  rw [if_pos hR, x_read _ (by rw [encH_len]; simp), bd_s, readH_enc hR]
  have h0 : (readH []).2 = 2 := by decide +kernel
  rw [h0]
  simp only [bd_s, x_right, decide_eq_true hR, optG_b]
  rfl
end Go.AX
/- Which seals may be, their bytes, and what is read of bytes. -/
namespace Go.AX
open Go.AM
set_option linter.unusedSimpArgs false
def goodL (L : List Int) : Prop := (∀ x ∈ L, 1 ≤ x ∧ x ≤ 2147483647) ∧ L.Nodup
instance (L : List Int) : Decidable (goodL L) := by unfold goodL; infer_instance
def RSl (s : Seal_api) : Prop := (1 ≤ s.Number ∧ s.Number ≤ 1073741824) ∧ (1 ≤ s.Data ∧ s.Data ≤ 14) ∧ (1 ≤ s.Parity ∧ s.Parity ≤ 14 - s.Data) ∧ (0 ≤ s.Index ∧ s.Index ≤ s.Data + s.Parity - 1) ∧ (s.Labels.length : Int) = s.Data + s.Parity ∧ goodL s.Labels
instance (s : Seal_api) : Decidable (RSl s) := by unfold RSl; infer_instance
theorem good_succ {L : List Int} {i : Nat} (hi : i < L.length) (h : goodL (L.take i)) (h1 : 1 ≤ L[i] ∧ L[i] ≤ 2147483647) (h2 : L[i] ∉ L.take i) : goodL (L.take (i + 1)) := by
  rw [List.take_succ_eq_append_getElem hi]
  refine ⟨fun x hx => ?_, ?_⟩
  · rcases List.mem_append.1 hx with hx | hx
    · exact h.1 x hx
    · simp at hx; subst hx; exact h1
  · rw [List.nodup_append]
    refine ⟨h.2, by simp, fun a ha b hb e => ?_⟩
    simp at hb
    subst hb; subst e
    exact h2 ha
theorem bad_elem {L : List Int} {i : Nat} (hi : i < L.length) (h : ¬ (1 ≤ L[i] ∧ L[i] ≤ 2147483647)) : ¬ goodL L := fun hg => h (hg.1 _ (List.getElem_mem hi))
theorem bad_twice {L : List Int} {i : Nat} (hi : i < L.length) (h : L[i] ∈ L.take i) : ¬ goodL L := fun hg => by
  have h1 : (L.take (i + 1)).Nodup := List.Nodup.sublist (List.take_sublist _ _) hg.2
  rw [List.take_succ_eq_append_getElem hi, List.nodup_append] at h1
  exact h1.2.2 _ h _ (by simp) rfl
theorem contains_is {L : List Int} {v : Int} (hL : L.length ≤ 100000) : X.slices_Contains_Lint_int L v = some (decide (v ∈ L)) := by
  unfold X.slices_Contains_Lint_int X.slices_Index_Lint_int
  obtain ⟨o, h1, h2⟩ := run_se (f := X.slices_Index_Lint_int_s6 L v) (a := 0) (n := L.length) (fun o => (o = .inl () ∧ v ∉ L) ∨ (∃ k : Nat, o = .inr (k : Int) ∧ v ∈ L)) (fun i => v ∉ L.take i) (Nat.zero_le _) (by omega) (by simp)
    (fun i _ hi hI => by
      unfold X.slices_Index_Lint_int_s6
      simp only
      rw [if_pos (by simpa using hi), getI_nat hi, bd_s]
      by_cases e : v = L[i]
      · right
        rw [if_pos (by simp [e])]
        exact ⟨_, rfl, .inr ⟨i, rfl, by rw [e]; exact List.getElem_mem hi⟩⟩
      · left
        rw [if_neg (by simp [e]), wr_succ (by omega)]
        refine ⟨rfl, ?_⟩
        rw [List.take_succ_eq_append_getElem hi, List.mem_append]
        rintro (h | h)
        · exact hI h
        · simp at h; exact e h)
    (fun hI => by
      unfold X.slices_Index_Lint_int_s6
      simp only
      rw [if_neg (by simp)]
      exact ⟨_, rfl, .inl ⟨rfl, by simpa using hI⟩⟩)
  have h1' : run (X.slices_Index_Lint_int_s6 L v) (0 : Int) = some o := h1
  rw [h1', bd_s]
  rcases h2 with ⟨rfl, h3⟩ | ⟨k, rfl, h3⟩
  · rw [decide_eq_false h3]; rfl
  · rw [decide_eq_true h3]
    show some (decide ((k : Int) ≥ 0)) = _
    rw [decide_eq_true (by omega)]
theorem x_sright (s : Seal_api) : X.record_RightSeal s = some (decide (RSl s)) := by
  unfold X.record_RightSeal
  simp only [X.record_within, optG_b, bd_s]
  by_cases h1 : (1 ≤ s.Number ∧ s.Number ≤ 1073741824) ∧ (1 ≤ s.Data ∧ s.Data ≤ 14) ∧ (1 ≤ s.Parity ∧ s.Parity ≤ 14 - s.Data)
  · obtain ⟨⟨a1, a2⟩, ⟨a3, a4⟩, a5, a6⟩ := h1
    have w1 : wr ((14 : Int) - s.Data) = 14 - s.Data := wr_eq (by omega) (by omega)
    have w2 : wr (s.Data + s.Parity) = s.Data + s.Parity := wr_eq (by omega) (by omega)
    have w3 : wr (s.Data + s.Parity - (1 : Int)) = s.Data + s.Parity - 1 := wr_eq (by omega) (by omega)
    rw [w1, w2, w3, if_neg (by simp [a1, a2, a3, a4, a5, a6])]
    by_cases h2 : (0 ≤ s.Index ∧ s.Index ≤ s.Data + s.Parity - 1) ∧ (s.Labels.length : Int) = s.Data + s.Parity
    · obtain ⟨⟨b1, b2⟩, b3⟩ := h2
      rw [if_neg (by simp [b1, b2, b3])]
      have hlen : s.Labels.length ≤ 14 := by omega
      obtain ⟨o, h1, h2⟩ := run_se (f := X.record_RightSeal_s16 s) (a := 0) (n := s.Labels.length) (fun o => (o = .inl () ∧ goodL s.Labels) ∨ (o = .inr false ∧ ¬ goodL s.Labels)) (fun i => goodL (s.Labels.take i)) (Nat.zero_le _) (by omega) (by simp [goodL])
        (fun i _ hi hI => by
          unfold X.record_RightSeal_s16 X.record_within
          simp only
          rw [if_pos (by simpa using hi), getI_nat hi, bd_s, bd_s]
          by_cases hr : 1 ≤ s.Labels[i] ∧ s.Labels[i] ≤ 2147483647
          · have hd : (decide (s.Labels[i] ≥ (1 : Int)) && decide (s.Labels[i] ≤ (2147483647 : Int))) = true := by simp [hr.1, hr.2]
            rw [hd, Bool.not_true, Bool.not_false, optG_true, need_is (by omega), bd_s, optG_true]
            have hs : slc s.Labels (0 : Int) (i : Int) = s.Labels.take i := by simp [slc]
            rw [hs, contains_is (by simp; omega), bd_s]
            by_cases hm : s.Labels[i] ∈ s.Labels.take i
            · right
              rw [decide_eq_true hm, if_pos (by simp)]
              exact ⟨_, rfl, .inr ⟨rfl, bad_twice hi hm⟩⟩
            · left
              rw [decide_eq_false hm, if_neg (by simp), wr_succ (by omega)]
              exact ⟨rfl, good_succ hi hI hr hm⟩
          · right
            have hd : (decide (s.Labels[i] ≥ (1 : Int)) && decide (s.Labels[i] ≤ (2147483647 : Int))) = false := by simp; omega
            rw [hd, Bool.not_false, Bool.not_true, optG_false, bd_s, optG_false, bd_s, if_pos (by simp)]
            exact ⟨_, rfl, .inr ⟨rfl, bad_elem hi hr⟩⟩)
        (fun hI => by
          unfold X.record_RightSeal_s16
          simp only
          rw [if_neg (by simp)]
          exact ⟨_, rfl, .inl ⟨rfl, by simpa using hI⟩⟩)
      have h1' : run (X.record_RightSeal_s16 s) (0 : Int) = some o := h1
      rw [h1', bd_s]
      rcases h2 with ⟨rfl, h3⟩ | ⟨rfl, h3⟩
      · rw [decide_eq_true (show RSl s from ⟨⟨a1, a2⟩, ⟨a3, a4⟩, ⟨a5, a6⟩, ⟨b1, b2⟩, b3, h3⟩)]; rfl
      · rw [decide_eq_false (show ¬ RSl s from fun hR => h3 hR.2.2.2.2.2)]
    · rw [decide_eq_false (show ¬ RSl s from fun hR => h2 ⟨hR.2.2.2.1, hR.2.2.2.2.1⟩), if_pos ?_]
      simp
      omega
  · rw [decide_eq_false (show ¬ RSl s from fun hR => h1 ⟨hR.1, hR.2.1, hR.2.2.1⟩), if_pos ?_]
    by_cases hD : 1 ≤ s.Data ∧ s.Data ≤ 14
    · rw [wr_eq (by omega) (by omega)]
      simp
      omega
    · simp
      omega
def flatL (L : List Int) : List UInt8 := L.flatMap fun n => w4 n.toNat
theorem flatL_len (L : List Int) : (flatL L).length = 4 * L.length := by
  unfold flatL
  rw [List.length_flatMap]
  simp only [w4_len]
  rw [List.map_const', List.sum_replicate_nat]
  omega
def encS (s : Seal_api) : List UInt8 := w4 s.Number.toNat ++ (UInt8.ofNat s.Index.toNat :: UInt8.ofNat s.Data.toNat :: UInt8.ofNat s.Parity.toNat :: flatL s.Labels)
theorem encS_len (s : Seal_api) : (encS s).length = 7 + 4 * s.Labels.length := by
  unfold encS
  simp [flatL_len]
  omega
theorem u8_i {n : Int} (h : 0 ≤ n) : u8 n = UInt8.ofNat n.toNat := by
  have := u8_m n.toNat
  rwa [Int.toNat_of_nonneg h] at this
theorem x_sbytes (s : Seal_api) : X.record_SealBytes s = some (if RSl s then encS s else []) := by
  unfold X.record_SealBytes
  rw [x_sright, bd_s]
  by_cases hR : RSl s
  · rw [decide_eq_true hR, if_neg (by simp), if_pos hR]
    obtain ⟨⟨a1, a2⟩, ⟨a3, a4⟩, ⟨a5, a6⟩, ⟨b1, b2⟩, b3, hg⟩ := hR
    have hlen : s.Labels.length ≤ 14 := by omega
    rw [c_wint (by omega) (by omega) (by simp), bd_s, List.nil_append]
    have key : run (X.record_SealBytes_s16 s) (w4 s.Number.toNat, (0 : Int)) = some (w4 s.Number.toNat ++ [UInt8.ofNat s.Index.toNat, UInt8.ofNat s.Data.toNat, UInt8.ofNat s.Parity.toNat]) := by
      have hall : ∀ n ∈ ([s.Index, s.Data, s.Parity] : List Int), 0 ≤ n := by
        intro n hn
        simp only [List.mem_cons, List.not_mem_nil, or_false] at hn
        rcases hn with rfl | rfl | rfl <;> omega
      have hm : [UInt8.ofNat s.Index.toNat, UInt8.ofNat s.Data.toNat, UInt8.ofNat s.Parity.toNat] = ([s.Index, s.Data, s.Parity] : List Int).map fun n => UInt8.ofNat n.toNat := rfl
      rw [hm]
      generalize hL : ([s.Index, s.Data, s.Parity] : List Int) = L at hall
      have hl3 : L.length = 3 := by rw [← hL]; rfl
      refine run_G0 (n := L.length) (fun i => w4 s.Number.toNat ++ (L.take i).map fun n => UInt8.ofNat n.toNat) (by omega) (by simp) ?_ ?_
      · intro i hi
        unfold X.record_SealBytes_s16
        simp only [hL]
        rw [if_pos (by simpa using hi), getI_nat hi, bd_s, u8_i (hall _ (List.getElem_mem hi)), c_wbyte (by simp; omega), bd_s, wr_succ (by omega), List.take_succ_eq_append_getElem hi]
        simp only [List.map_append, List.map_cons, List.map_nil, List.append_assoc]
      · unfold X.record_SealBytes_s16
        simp only [hL]
        rw [if_neg (by simp), List.take_length]
    rw [key, bd_s]
    simp only
    unfold X.record_SealBytes_e16
    have key2 : run (X.record_SealBytes_s26 s) (w4 s.Number.toNat ++ [UInt8.ofNat s.Index.toNat, UInt8.ofNat s.Data.toNat, UInt8.ofNat s.Parity.toNat], (0 : Int)) = some (encS s) := by
      refine run_G0 (n := s.Labels.length) (fun i => w4 s.Number.toNat ++ [UInt8.ofNat s.Index.toNat, UInt8.ofNat s.Data.toNat, UInt8.ofNat s.Parity.toNat] ++ flatL (s.Labels.take i)) (by omega) (by simp [flatL]) ?_ ?_
      · intro i hi
        unfold X.record_SealBytes_s26
        simp only
        obtain ⟨q1, q2⟩ := hg.1 _ (List.getElem_mem hi)
        rw [if_pos (by simpa using hi), getI_nat hi, bd_s, c_wint (by omega) (by omega) (by simp [flatL_len]; omega), bd_s, wr_succ (by omega), List.take_succ_eq_append_getElem hi]
        simp only [flatL, List.flatMap_append, List.flatMap_cons, List.flatMap_nil, List.append_nil, List.append_assoc]
      · unfold X.record_SealBytes_s26
        simp only
        rw [if_neg (by simp), List.take_length]
        simp [encS]
    rw [key2, bd_s]
    simp only
    unfold X.record_SealBytes_e26
    rw [c_bytes (by rw [encS_len]; omega), bd_s]
  · rw [decide_eq_false hR, if_pos (by simp), if_neg hR]

/-! ### what is read -/
def labs : List UInt8 → Option (List Int)
  | [] => some []
  | a :: b :: c :: d :: r => (labs r).map (((beN [a, b, c, d] : Nat) : Int) :: ·)
  | _ => none
theorem labs_flat : ∀ {L : List Int}, (∀ x ∈ L, 0 ≤ x ∧ x < 4294967296) → labs (flatL L) = some L
  | [], _ => rfl
  | x :: L, h => by
    obtain ⟨h1, h2⟩ := h x (by simp)
    have e : flatL (x :: L) = w4 x.toNat ++ flatL L := rfl
    have e2 : labs (w4 x.toNat ++ flatL L) = (labs (flatL L)).map (((beN (w4 x.toNat) : Nat) : Int) :: ·) := rfl
    rw [e, e2, labs_flat (fun y hy => h y (List.mem_cons_of_mem _ hy)), be_w4 (by omega), Int.toNat_of_nonneg h1]; rfl
theorem flat_labs : ∀ {t : List UInt8} {L : List Int}, labs t = some L → flatL L = t
  | [], L, h => by simp [labs] at h; subst h; rfl
  | [_], L, h => by simp [labs] at h
  | [_, _], L, h => by simp [labs] at h
  | [_, _, _], L, h => by simp [labs] at h
  | a :: b :: c :: d :: r, L, h => by
    rw [labs, Option.map_eq_some_iff] at h
    obtain ⟨M, h1, rfl⟩ := h
    have e : flatL (((beN [a, b, c, d] : Nat) : Int) :: M) = w4 (beN [a, b, c, d]) ++ flatL M := rfl
    rw [e, w4_be rfl, flat_labs h1]; rfl
theorem in_inv {b X : List UInt8} (h : (inA (some b)).2 = some X) : b = w4 (inA (some b)).1.toNat ++ X := by
  unfold inA at h ⊢
  rw [tkA_some] at h ⊢
  by_cases hl : 4 ≤ b.length
  · rw [if_pos hl] at h ⊢
    simp only [Option.some.injEq] at h
    subst h
    simp only [Int.toNat_natCast]
    rw [w4_be (by simp; omega), List.take_append_drop]
  · rw [if_neg hl] at h; cases h
theorem by_inv {b X : List UInt8} (h : (byA (some b)).2 = some X) : b = (byA (some b)).1 :: X := by
  unfold byA at h ⊢
  rw [tkA_some] at h ⊢
  by_cases hl : 1 ≤ b.length
  · rw [if_pos hl] at h ⊢
    simp only [Option.some.injEq] at h
    subst h
    cases b with
    | nil => simp at hl
    | cons c l => rfl
  · rw [if_neg hl] at h; cases h
theorem in_some {s : Option (List UInt8)} {X : List UInt8} (h : (inA s).2 = some X) : ∃ b, s = some b := by
  cases s with
  | none => cases h
  | some b => exact ⟨b, rfl⟩
theorem by_some {s : Option (List UInt8)} {X : List UInt8} (h : (byA s).2 = some X) : ∃ b, s = some b := by
  cases s with
  | none => cases h
  | some b => exact ⟨b, rfl⟩
/-- What is read ahead of the labels. -/
def p7 (b : List UInt8) : Int × UInt8 × UInt8 × UInt8 × Option (List UInt8) :=
  let n := inA (some b); let i := byA n.2; let d := byA i.2; let p := byA d.2
  (n.1, i.1, d.1, p.1, p.2)
theorem p7_app {n : Nat} {i d p : UInt8} {X : List UInt8} (h : n < 4294967296) : p7 (w4 n ++ (i :: d :: p :: X)) = ((n : Int), i, d, p, some X) := by
  unfold p7
  simp only [in_app h, by_app]
theorem p7_inv {b X : List UInt8} (h : (p7 b).2.2.2.2 = some X) : b = w4 (p7 b).1.toNat ++ ((p7 b).2.1 :: (p7 b).2.2.1 :: (p7 b).2.2.2.1 :: X) := by
  unfold p7 at h ⊢
  simp only at h ⊢
  obtain ⟨b3, e3⟩ := by_some h
  obtain ⟨b2, e2⟩ := by_some e3
  obtain ⟨b1, e1⟩ := by_some e2
  rw [e3] at h ⊢
  rw [e2] at e3 ⊢
  rw [e1] at e2 ⊢
  have q1 := in_inv e1
  have q2 := by_inv e2
  have q3 := by_inv e3
  have q4 := by_inv h
  rw [← q4, ← q3, ← q2, ← q1]
def okS (b : List UInt8) (s : Seal_api) : Prop := RSl s ∧ encS s = b
def zeroS : Seal_api := ⟨0, 0, 0, 0, []⟩
def Rd (b : List UInt8) (r : Seal_api × Int) : Prop := (∃ s, okS b s ∧ r = (s, 0)) ∨ ((¬ ∃ s, okS b s) ∧ r = (zeroS, 2))
theorem ofNat_toNat (x : UInt8) : UInt8.ofNat x.toNat = x := by
  apply UInt8.toNat_inj.1
  rw [UInt8.toNat_ofNat']
  have := x.toNat_lt
  omega
theorem p7_enc {s : Seal_api} (h : RSl s) (X : List UInt8) : p7 (encS s ++ X) = (s.Number, UInt8.ofNat s.Index.toNat, UInt8.ofNat s.Data.toNat, UInt8.ofNat s.Parity.toNat, some (flatL s.Labels ++ X)) := by
  obtain ⟨⟨a1, a2⟩, _⟩ := h
  have e : encS s ++ X = w4 s.Number.toNat ++ (UInt8.ofNat s.Index.toNat :: UInt8.ofNat s.Data.toNat :: UInt8.ofNat s.Parity.toNat :: (flatL s.Labels ++ X)) := by simp [encS]
  rw [e, p7_app (by omega), Int.toNat_of_nonneg (by omega)]
theorem small {n : Int} (h0 : 0 ≤ n) (h1 : n < 256) : ((UInt8.ofNat n.toNat).toNat : Int) = n := by
  rw [UInt8.toNat_ofNat']
  omega
/-- A seal's own bytes tell it. -/
theorem p7_seal {b : List UInt8} {s : Seal_api} (h : okS b s) : p7 b = (s.Number, UInt8.ofNat s.Index.toNat, UInt8.ofNat s.Data.toNat, UInt8.ofNat s.Parity.toNat, some (flatL s.Labels)) ∧ labs (flatL s.Labels) = some s.Labels ∧
    s = ⟨(p7 b).1, ((p7 b).2.1.toNat : Int), ((p7 b).2.2.1.toNat : Int), ((p7 b).2.2.2.1.toNat : Int), s.Labels⟩ := by
  obtain ⟨hR, rfl⟩ := h
  have h7 := p7_enc hR []
  rw [List.append_nil, List.append_nil] at h7
  obtain ⟨⟨a1, a2⟩, ⟨a3, a4⟩, ⟨a5, a6⟩, ⟨b1, b2⟩, b3, hg⟩ := hR
  refine ⟨h7, labs_flat fun x hx => by have := hg.1 x hx; omega, ?_⟩
  rw [h7]
  obtain ⟨n, i, d, p, L⟩ := s
  simp only at a3 a5 b1 b2 a4 a6 ⊢
  rw [small b1 (by omega), small (by omega) (by omega), small (by omega) (by omega)]
theorem okS_inj {b : List UInt8} {s s' : Seal_api} (h : okS b s) (h' : okS b s') : s = s' := by
  obtain ⟨h1, h2, h3⟩ := p7_seal h
  obtain ⟨k1, k2, k3⟩ := p7_seal h'
  rw [h1] at k1
  have hf : flatL s.Labels = flatL s'.Labels := by simpa using (Prod.mk.inj (Prod.mk.inj (Prod.mk.inj (Prod.mk.inj k1).2).2).2).2
  rw [hf, k2] at h2
  injection h2 with h2
  rw [h3, k3, h2]
theorem Rd_uniq {b : List UInt8} {r r' : Seal_api × Int} (h : Rd b r) (h' : Rd b r') : r = r' := by
  rcases h with ⟨s, h1, rfl⟩ | ⟨h1, rfl⟩ <;> rcases h' with ⟨s', h2, rfl⟩ | ⟨h2, rfl⟩
  · rw [okS_inj h1 h2]
  · exact absurd ⟨s, h1⟩ h2
  · exact absurd ⟨s', h2⟩ h1
  · rfl
theorem Rd_enc {s : Seal_api} (h : RSl s) {r : Seal_api × Int} (hr : Rd (encS s) r) : r = (s, 0) := Rd_uniq hr (.inl ⟨s, ⟨h, rfl⟩, rfl⟩)
theorem Rd_none {b : List UInt8} (h : ¬ ∃ s, okS b s) {r : Seal_api × Int} (hr : Rd b r) : r.2 = 2 := by
  rcases hr with ⟨s, h1, rfl⟩ | ⟨_, rfl⟩
  · exact absurd ⟨s, h1⟩ h
  · rfl
theorem x_labels (n i d p : Int) (st : Option (List UInt8)) (hb : ∀ t, st = some t → t.length ≤ 100000) : ∃ (q : Option (List UInt8)) (L : List Int), run X.record_ReadSeal_s37 ((conC st).1, (conC st).2, n, i, d, p, ([] : List Int)) = some ((conC q).1, (conC q).2, n, i, d, p, L) ∧
    ((∃ t, st = some t ∧ labs t = some L ∧ q = some []) ∨ ((st = none ∨ ∃ t, st = some t ∧ labs t = none) ∧ q = none)) := by
  obtain ⟨o, h1, q, L, rfl, h2⟩ := run_inv (f := X.record_ReadSeal_s37) (s := ((conC st).1, (conC st).2, n, i, d, p, ([] : List Int)))
    (fun x => ∃ (st' : Option (List UInt8)) (l : List Int), x = ((conC st').1, (conC st').2, n, i, d, p, l) ∧ l.length ≤ 100000 ∧ (∀ t', st' = some t' → l.length + t'.length ≤ 100000) ∧
      ((∃ t t', st = some t ∧ st' = some t' ∧ labs t = (labs t').map (l ++ ·)) ∨ ((st = none ∨ ∃ t, st = some t ∧ labs t = none) ∧ st' = none)))
    (fun o => ∃ (q : Option (List UInt8)) (L : List Int), o = ((conC q).1, (conC q).2, n, i, d, p, L) ∧ ((∃ t, st = some t ∧ labs t = some L ∧ q = some []) ∨ ((st = none ∨ ∃ t, st = some t ∧ labs t = none) ∧ q = none)))
    (fun x => x.1.length) ⟨st, [], rfl, by simp, fun t' h => by have := hb t' h; simpa using this, by
      cases st with
      | none => exact .inr ⟨.inl rfl, rfl⟩
      | some t => exact .inl ⟨t, t, rfl, rfl, by simp⟩⟩ (by
      cases st with
      | none => simp [conC]
      | some t => have := hb t rfl; simp only [conC]; omega) (by
      rintro _ ⟨st', l, rfl, hl, hl2, hI⟩
      have stop : ∀ q, conC q = ([], (conC q).2) → ((∃ t, st = some t ∧ labs t = some l ∧ q = some []) ∨ ((st = none ∨ ∃ t, st = some t ∧ labs t = none) ∧ q = none)) →
          ∃ r, X.record_ReadSeal_s37 ((conC q).1, (conC q).2, n, i, d, p, l) = some (.inr r) ∧ ∃ (q : Option (List UInt8)) (L : List Int), r = ((conC q).1, (conC q).2, n, i, d, p, L) ∧ ((∃ t, st = some t ∧ labs t = some L ∧ q = some []) ∨ ((st = none ∨ ∃ t, st = some t ∧ labs t = none) ∧ q = none)) := by
        intro q hq hR
        refine ⟨_, ?_, q, l, rfl, hR⟩
        unfold X.record_ReadSeal_s37 X.code_Reader_Left
        simp only
        rw [bd_s, if_neg (by rw [hq]; simp)]
      rcases hI with ⟨t, t', e1, rfl, e3⟩ | ⟨e1, rfl⟩
      · cases t' with
        | nil =>
          right
          exact stop (some []) rfl (.inl ⟨t, e1, by rw [e3]; simp [labs], rfl⟩)
        | cons c t2 =>
          left
          unfold X.record_ReadSeal_s37 X.code_Reader_Left
          simp only
          rw [bd_s, if_pos (by simp [conC]), c_int, bd_s, need_is (by simp; omega), bd_s]
          have hll := hl2 _ rfl
          refine ⟨_, rfl, ⟨(inA (some (c :: t2))).2, l ++ [(inA (some (c :: t2))).1], rfl, (by simp at hll ⊢ <;> omega), fun t'' h => ?_, ?_⟩, ?_⟩
          · have := in_inv h
            have h4 := congrArg List.length this
            simp at h4 hll ⊢
            omega
          · by_cases h4 : 4 ≤ (c :: t2).length
            · left
              match t2, h4 with
              | x :: y :: z :: r, _ =>
                refine ⟨t, r, e1, ?_, ?_⟩
                · unfold inA; rw [tkA_some, if_pos (by simp)]; rfl
                · have ev : (inA (some (c :: x :: y :: z :: r))).1 = ((beN [c, x, y, z] : Nat) : Int) := by unfold inA; rw [tkA_some, if_pos (by simp)]; rfl
                  rw [e3, labs, ev]
                  cases labs r <;> simp
            · right
              refine ⟨.inr ⟨t, e1, ?_⟩, ?_⟩
              · rw [e3]
                match t2, h4 with
                | [], _ => rfl
                | [x], _ => rfl
                | [x, y], _ => rfl
                | x :: y :: z :: r, h4 => simp at h4
              · unfold inA; rw [tkA_some, if_neg h4]
          · simp only
            by_cases h4 : 4 ≤ (c :: t2).length
            · have e : (inA (some (c :: t2))).2 = some ((c :: t2).drop 4) := by unfold inA; rw [tkA_some, if_pos h4]
              rw [e]
              simp only [conC, List.length_drop]
              omega
            · have e : (inA (some (c :: t2))).2 = none := by unfold inA; rw [tkA_some, if_neg h4]
              rw [e]
              simp [conC]
      · right
        exact stop none rfl (.inr ⟨e1, rfl⟩))
  exact ⟨q, L, h1, h2⟩
theorem x_sread (b : List UInt8) (hb : b.length ≤ 100000) : ∃ r, X.record_ReadSeal b = some r ∧ Rd b r := by
  unfold X.record_ReadSeal
  rw [c_new b hb, bd_s, c_int, bd_s]
  simp only [c_byte, bd_s]
  have hp : p7 b = ((inA (some b)).1, (byA (inA (some b)).2).1, (byA (byA (inA (some b)).2).2).1, (byA (byA (byA (inA (some b)).2).2).2).1, (byA (byA (byA (inA (some b)).2).2).2).2) := rfl
  obtain ⟨q, L, h1, h2⟩ := x_labels (inA (some b)).1 ((byA (inA (some b)).2).1.toNat : Int) ((byA (byA (inA (some b)).2).2).1.toNat : Int) ((byA (byA (byA (inA (some b)).2).2).2).1.toNat : Int) (byA (byA (byA (inA (some b)).2).2).2).2 (fun t ht => by
    have h5 : (p7 b).2.2.2.2 = some t := by rw [hp]; exact ht
    have h6 := congrArg List.length (p7_inv h5)
    simp at h6
    omega)
  rw [h1, bd_s]
  simp only
  unfold X.record_ReadSeal_e37 X.code_Reader_Bad
  rw [bd_s, x_sright]
  rcases h2 with ⟨t, e1, e2, rfl⟩ | ⟨e1, rfl⟩
  · have e5 : (p7 b).2.2.2.2 = some t := by rw [hp]; exact e1
    have hb7 := p7_inv e5
    have hq : (⟨(inA (some b)).1, ((byA (inA (some b)).2).1.toNat : Int), ((byA (byA (inA (some b)).2).2).1.toNat : Int), ((byA (byA (byA (inA (some b)).2).2).2).1.toNat : Int), L⟩ : Seal_api) = ⟨(p7 b).1, ((p7 b).2.1.toNat : Int), ((p7 b).2.2.1.toNat : Int), ((p7 b).2.2.2.1.toNat : Int), L⟩ := by rw [hp]
    rw [hq]
    have henc : encS ⟨(p7 b).1, ((p7 b).2.1.toNat : Int), ((p7 b).2.2.1.toNat : Int), ((p7 b).2.2.2.1.toNat : Int), L⟩ = b := by
      unfold encS
      simp only [Int.toNat_natCast, ofNat_toNat]
      rw [flat_labs e2]
      exact hb7.symm
    by_cases hR : RSl ⟨(p7 b).1, ((p7 b).2.1.toNat : Int), ((p7 b).2.2.1.toNat : Int), ((p7 b).2.2.2.1.toNat : Int), L⟩
    · rw [decide_eq_true hR]
      exact ⟨_, rfl, .inl ⟨_, ⟨hR, henc⟩, rfl⟩⟩
    · rw [decide_eq_false hR]
      refine ⟨_, rfl, .inr ⟨?_, rfl⟩⟩
      rintro ⟨s, hs⟩
      obtain ⟨k1, k2, k3⟩ := p7_seal hs
      have : some (flatL s.Labels) = some t := by rw [← e5, k1]
      injection this with this
      rw [this, e2] at k2
      injection k2 with k2
      rw [k2, ← k3] at hR
      exact hR hs.1
  · refine ⟨(zeroS, 2), rfl, .inr ⟨?_, rfl⟩⟩
    rintro ⟨s, hs⟩
    obtain ⟨k1, k2, _⟩ := p7_seal hs
    have e5 : (byA (byA (byA (inA (some b)).2).2).2).2 = some (flatL s.Labels) := by
      have : (p7 b).2.2.2.2 = some (flatL s.Labels) := by rw [k1]
      rw [hp] at this; exact this
    rcases e1 with e1 | ⟨t, e1, e2⟩
    · rw [e1] at e5; cases e5
    · rw [e1] at e5
      injection e5 with e5
      rw [e5, k2] at e2
      cases e2
end Go.AX
/- Which seals may be: the document's answer. -/
namespace Go.AX
open Go.AM
set_option linter.unusedSimpArgs false
theorem y_sright (s : Seal_api) : X.cartridgeref10_RightSeal s = some (decide (RSl s)) := by
  unfold X.cartridgeref10_RightSeal
  by_cases h1 : (1 ≤ s.Number ∧ s.Number ≤ 1073741824) ∧ (1 ≤ s.Data ∧ s.Data ≤ 14) ∧ (1 ≤ s.Parity ∧ s.Parity ≤ 14 - s.Data) ∧ (0 ≤ s.Index ∧ s.Index ≤ s.Data + s.Parity - 1) ∧ (s.Labels.length : Int) = s.Data + s.Parity
  · obtain ⟨⟨a1, a2⟩, ⟨a3, a4⟩, ⟨a5, a6⟩, ⟨b1, b2⟩, b3⟩ := h1
    have w2 : wr (s.Data + s.Parity) = s.Data + s.Parity := wr_eq (by omega) (by omega)
    rw [w2, if_neg (by simp; omega)]
    have hlen : s.Labels.length ≤ 14 := by omega
    obtain ⟨o, h1, h2⟩ := run_se (f := X.cartridgeref10_RightSeal_s8 s) (a := 0) (n := s.Labels.length) (fun o => (o = .inl () ∧ goodL s.Labels) ∨ (o = .inr false ∧ ¬ goodL s.Labels)) (fun i => goodL (s.Labels.take i)) (Nat.zero_le _) (by omega) (by simp [goodL])
      (fun i _ hi hI => by
        unfold X.cartridgeref10_RightSeal_s8
        simp only
        rw [if_pos (by simpa using hi), getI_nat hi, bd_s]
        by_cases hr : 1 ≤ s.Labels[i] ∧ s.Labels[i] ≤ 2147483647
        · have hd : decide (s.Labels[i] < (1 : Int)) = false := by simp; omega
          rw [hd, Bool.not_false, optG_true, bd_s, if_neg (by simp; omega)]
          obtain ⟨o2, g1, g2⟩ := run_se (f := X.cartridgeref10_RightSeal_s20 (i : Int) s) (a := 0) (n := i) (fun o => (o = .inl () ∧ s.Labels[i] ∉ s.Labels.take i) ∨ (o = .inr false ∧ s.Labels[i] ∈ s.Labels.take i)) (fun k => s.Labels[i] ∉ s.Labels.take k) (Nat.zero_le _) (by omega) (by simp)
            (fun k _ hk hK => by
              unfold X.cartridgeref10_RightSeal_s20
              simp only
              rw [if_pos (by simpa using hk), getI_nat (by omega), bd_s, getI_nat hi, bd_s]
              by_cases e : s.Labels[k]'(by omega) = s.Labels[i]
              · right
                rw [if_pos (by simp [e])]
                refine ⟨_, rfl, .inr ⟨rfl, ?_⟩⟩
                rw [← e, List.mem_take_iff_getElem]
                exact ⟨k, by omega, rfl⟩
              · left
                rw [if_neg (by simp [e]), wr_succ (by omega)]
                refine ⟨rfl, ?_⟩
                rw [List.take_succ_eq_append_getElem (by omega), List.mem_append]
                rintro (h | h)
                · exact hK h
                · simp at h; exact e h.symm)
            (fun hK => by
              unfold X.cartridgeref10_RightSeal_s20
              simp only
              rw [if_neg (by simp)]
              exact ⟨_, rfl, .inl ⟨rfl, hK⟩⟩)
          have g1' : run (X.cartridgeref10_RightSeal_s20 (i : Int) s) (0 : Int) = some o2 := g1
          rw [g1', bd_s]
          rcases g2 with ⟨rfl, hm⟩ | ⟨rfl, hm⟩
          · left
            simp only
            unfold X.cartridgeref10_RightSeal_e20
            rw [wr_succ (by omega)]
            exact ⟨rfl, good_succ hi hI hr hm⟩
          · right
            exact ⟨_, rfl, .inr ⟨rfl, bad_twice hi hm⟩⟩
        · right
          by_cases hlt : s.Labels[i] < 1
          · have hd : decide (s.Labels[i] < (1 : Int)) = true := by simpa using hlt
            rw [hd, Bool.not_true, optG_false, bd_s, if_pos (by simp)]
            exact ⟨_, rfl, .inr ⟨rfl, bad_elem hi hr⟩⟩
          · have hd : decide (s.Labels[i] < (1 : Int)) = false := by simpa using hlt
            rw [hd, Bool.not_false, optG_true, bd_s, if_pos (by simp; omega)]
            exact ⟨_, rfl, .inr ⟨rfl, bad_elem hi hr⟩⟩)
      (fun hI => by
        unfold X.cartridgeref10_RightSeal_s8
        simp only
        rw [if_neg (by simp)]
        exact ⟨_, rfl, .inl ⟨rfl, by simpa using hI⟩⟩)
    have h1' : run (X.cartridgeref10_RightSeal_s8 s) (0 : Int) = some o := h1
    rw [h1', bd_s]
    rcases h2 with ⟨rfl, h3⟩ | ⟨rfl, h3⟩
    · rw [decide_eq_true (show RSl s from ⟨⟨a1, a2⟩, ⟨a3, a4⟩, ⟨a5, a6⟩, ⟨b1, b2⟩, b3, h3⟩)]; rfl
    · rw [decide_eq_false (show ¬ RSl s from fun hR => h3 hR.2.2.2.2.2)]
  · rw [decide_eq_false (show ¬ RSl s from fun hR => h1 ⟨hR.1, hR.2.1, hR.2.2.1, hR.2.2.2.1, hR.2.2.2.2.1⟩), if_pos ?_]
    by_cases hD : (1 ≤ s.Data ∧ s.Data ≤ 14) ∧ (1 ≤ s.Parity ∧ s.Parity ≤ 14)
    · rw [wr_eq (by omega) (by omega)]
      simp
      omega
    · simp
      omega
end Go.AX
/- The document's reader. -/
namespace Go.AX
open Go.AM
set_option linter.unusedSimpArgs false
def ab (b : List UInt8) (bad : Bool) : Option (List UInt8) := if bad = true then none else some b
theorem r_take (n : Nat) (b : List UInt8) (bad : Bool) : ∃ q : List UInt8 × Bool, X.cartridgeref1_Reader_take (n : Int) b bad = some ((tkA n (ab b bad)).1, q) ∧ ab q.1 q.2 = (tkA n (ab b bad)).2 := by
  unfold X.cartridgeref1_Reader_take
  cases bad
  · show ∃ q : List UInt8 × Bool, _ = some ((tkA n (some b)).1, q) ∧ ab q.1 q.2 = (tkA n (some b)).2
    by_cases h : n ≤ b.length
    · rw [if_neg (by simp; omega), need_is (by omega), bd_s, need_is (by omega), bd_s, tkA_some, if_pos h]
      have h1 : slc b (0 : Int) (n : Int) = b.take n := by simp [slc]
      have h2 : slc b (n : Int) (b.length : Int) = b.drop n := by
        unfold slc
        rw [Int.toNat_natCast, List.take_of_length_le (by simp)]
      rw [h1, h2]
      exact ⟨_, rfl, rfl⟩
    · rw [if_pos (by simp; omega), tkA_some, if_neg h]
      exact ⟨_, rfl, rfl⟩
  · exact ⟨_, rfl, rfl⟩
theorem r_byte (b : List UInt8) (bad : Bool) : ∃ q : List UInt8 × Bool, X.cartridgeref1_Reader_Byte b bad = some ((byA (ab b bad)).1, q) ∧ ab q.1 q.2 = (byA (ab b bad)).2 := by
  unfold X.cartridgeref1_Reader_Byte
  obtain ⟨q, h1, h2⟩ := r_take 1 b bad
  rw [show (1 : Int) = ((1 : Nat) : Int) from rfl, h1, bd_s]
  refine ⟨q, ?_, h2⟩
  unfold byA
  cases h : (tkA 1 (ab b bad)).1 with
  | nil => rfl
  | cons c l =>
    rw [if_neg (by simp; omega)]
    rfl
theorem or64_nat {a c : Nat} (ha : a < 16777216) (hc : c < 256) : or64 (shl64 (a : Int) (((8 : UInt64).toNat : Nat) : Int)) (c : Int) = ((a * 256 + c : Nat) : Int) := by
  have e : shl64 (a : Int) (((8 : UInt64).toNat : Nat) : Int) = ((a * 256 : Nat) : Int) := by
    unfold shl64
    have : min (((8 : UInt64).toNat : Nat) : Int).toNat 64 = 8 := by decide
    rw [this]
    have h := wr_eq (x := (a : Int) * 2 ^ 8) (by omega) (by omega)
    unfold wr at h
    rw [h]
    omega
  rw [e]
  unfold or64 bitsI
  have hb : ∀ n : Nat, n < 18446744073709551616 → (BitVec.ofInt IntKind.i64.bits (n : Int)).toNat = n := by
    intro n hn
    show (BitVec.ofInt 64 (n : Int)).toNat = n
    simp
    omega
  simp only
  rw [BitVec.toNat_or, hb _ (by omega), hb _ (by omega), or_add hc]
  exact wr_eq (by omega) (by omega)
theorem r_int (b : List UInt8) (bad : Bool) : ∃ q : List UInt8 × Bool, X.cartridgeref1_Reader_Int b bad = some ((inA (ab b bad)).1, q) ∧ ab q.1 q.2 = (inA (ab b bad)).2 := by
  unfold X.cartridgeref1_Reader_Int
  obtain ⟨q, h1, h2⟩ := r_take 4 b bad
  rw [show (4 : Int) = ((4 : Nat) : Int) from rfl, h1, bd_s]
  have hl : (tkA 4 (ab b bad)).1.length ≤ 4 := by rcases tk_len 4 (ab b bad) with h | h <;> omega
  refine ⟨q, ?_, h2⟩
  unfold inA
  generalize hx : (tkA 4 (ab b bad)).1 = x at hl
  have key : run (X.cartridgeref1_Reader_Int_s11 (x, q)) ((0 : Int), (0 : Int)) = some ((beN x : Nat) : Int) := by
    refine run_G0 (n := x.length) (fun i => ((beN (x.take i) : Nat) : Int)) (by omega) rfl ?_ ?_
    · intro i hi
      unfold X.cartridgeref1_Reader_Int_s11
      simp only
      rw [if_pos (by simpa using hi), getI_nat hi, bd_s, wr_succ (by omega)]
      have hp := be_pow i x (by omega)
      have hq : 256 ^ i ≤ 256 ^ 3 := Nat.pow_le_pow_right (by omega) (by omega)
      rw [or64_nat (by omega) (x[i]).toNat_lt, be_succ hi]
    · unfold X.cartridgeref1_Reader_Int_s11
      simp only
      rw [if_neg (by simp), List.take_length]
  rw [key, bd_s]
  rfl

end Go.AX
/- The document's writer. -/
namespace Go.AX
open Go.AM
set_option linter.unusedSimpArgs false
theorem y_wint {n : Int} {b : List UInt8} (h0 : 0 ≤ n) (h1 : n < 4294967296) (hb : b.length ≤ 100000) : X.cartridgeref1_Writer_Int n b = some (b ++ w4 n.toNat) := by
  unfold X.cartridgeref1_Writer_Int
  rw [need_is (by simp only [List.length_cons, List.length_nil]; omega), bd_s]
  have e : (u64 n).toNat = n.toNat := by
    unfold u64
    rw [UInt64.toNat_ofNat']
    omega
  have s : ∀ k, (shru64 (u64 n) k).toNat = n.toNat / 2 ^ k := fun k => by
    unfold shru64
    rw [UInt64.toNat_ofNat', e]
    exact Nat.mod_eq_of_lt (Nat.lt_of_le_of_lt (Nat.div_le_self _ _) (by omega))
  have m : ∀ x : UInt64, u8 (((x &&& 255).toNat : Nat) : Int) = UInt8.ofNat x.toNat := fun x => by
    rw [u8_m, UInt64.toNat_and]
    apply UInt8.toNat_inj.1
    rw [UInt8.toNat_ofNat', UInt8.toNat_ofNat']
    have : x.toNat &&& (255 : UInt64).toNat = x.toNat % 256 := Nat.and_two_pow_sub_one_eq_mod x.toNat 8
    rw [this]
    omega
  rw [m, m, m, m, s, s, s, e]
  rfl
theorem y_wbyte {c : UInt8} {b : List UInt8} (hb : b.length ≤ 100000) : X.cartridgeref1_Writer_Byte c b = some (b ++ [c]) := by
  unfold X.cartridgeref1_Writer_Byte
  rw [need_is (by simp only [List.length_cons, List.length_nil]; omega), bd_s]
end Go.AX
/- The document's seals are the same. -/
namespace Go.AX
open Go.AM
set_option linter.unusedSimpArgs false
theorem y_sbytes (s : Seal_api) : X.cartridgeref10_SealBytes s = some (if RSl s then encS s else []) := by
  unfold X.cartridgeref10_SealBytes
  rw [y_sright, bd_s]
  by_cases hR : RSl s
  · rw [decide_eq_true hR, if_neg (by simp), if_pos hR]
    obtain ⟨⟨a1, a2⟩, ⟨a3, a4⟩, ⟨a5, a6⟩, ⟨b1, b2⟩, b3, hg⟩ := hR
    have hlen : s.Labels.length ≤ 14 := by omega
    rw [y_wint (by omega) (by omega) (by simp), bd_s, List.nil_append, u8_i b1, u8_i (by omega), u8_i (by omega), y_wbyte (by simp), bd_s, y_wbyte (by simp), bd_s, y_wbyte (by simp), bd_s]
    have key2 : run (X.cartridgeref10_SealBytes_s28 s) (w4 s.Number.toNat ++ [UInt8.ofNat s.Index.toNat] ++ [UInt8.ofNat s.Data.toNat] ++ [UInt8.ofNat s.Parity.toNat], (0 : Int)) = some (encS s) := by
      refine run_G0 (n := s.Labels.length) (fun i => w4 s.Number.toNat ++ [UInt8.ofNat s.Index.toNat] ++ [UInt8.ofNat s.Data.toNat] ++ [UInt8.ofNat s.Parity.toNat] ++ flatL (s.Labels.take i)) (by omega) (by simp [flatL]) ?_ ?_
      · intro i hi
        unfold X.cartridgeref10_SealBytes_s28
        simp only
        obtain ⟨q1, q2⟩ := hg.1 _ (List.getElem_mem hi)
        rw [if_pos (by simpa using hi), getI_nat hi, bd_s, y_wint (by omega) (by omega) (by simp [flatL_len]; omega), bd_s, wr_succ (by omega), List.take_succ_eq_append_getElem hi]
        simp only [flatL, List.flatMap_append, List.flatMap_cons, List.flatMap_nil, List.append_nil, List.append_assoc]
      · unfold X.cartridgeref10_SealBytes_s28
        simp only
        rw [if_neg (by simp), List.take_length]
        simp [encS]
    rw [key2, bd_s]
    rfl
  · rw [decide_eq_false hR, if_pos (by simp), if_neg hR]
theorem y_labels (n i d p : Int) (b : List UInt8) (bad : Bool) : ∃ L : List Int, run X.cartridgeref10_ReadSeal_s20 (b, bad, n, i, d, p, ([] : List Int)) = some (n, i, d, p, L) ∧
    ∀ M : List Int, ab b bad = some (flatL M) → M.length ≤ 14 → (∀ x ∈ M, 0 ≤ x ∧ x < 4294967296) → L = M := by
  obtain ⟨o, h1, L, rfl, h2⟩ := run_inv (f := X.cartridgeref10_ReadSeal_s20) (s := (b, bad, n, i, d, p, ([] : List Int)))
    (fun x => ∃ (q : List UInt8 × Bool) (l : List Int), x = (q.1, q.2, n, i, d, p, l) ∧ l.length ≤ 14 ∧
      ∀ M : List Int, ab b bad = some (flatL M) → M.length ≤ 14 → (∀ x ∈ M, 0 ≤ x ∧ x < 4294967296) → ∃ M2, l ++ M2 = M ∧ ab q.1 q.2 = some (flatL M2))
    (fun o => ∃ L : List Int, o = (n, i, d, p, L) ∧ ∀ M : List Int, ab b bad = some (flatL M) → M.length ≤ 14 → (∀ x ∈ M, 0 ≤ x ∧ x < 4294967296) → L = M)
    (fun x => 14 - x.2.2.2.2.2.2.length) ⟨(b, bad), [], rfl, by simp, fun M h _ _ => ⟨M, rfl, h⟩⟩ (by simp) (by
      rintro _ ⟨q, l, rfl, hl, hI⟩
      unfold X.cartridgeref10_ReadSeal_s20 X.cartridgeref1_Reader_Left
      simp only
      have hleft : (if q.2 = true then some (0 : Int) else some (q.1.length : Int)) = some (match ab q.1 q.2 with | none => (0 : Int) | some t => (t.length : Int)) := by
        unfold ab
        cases q.2 <;> rfl
      rw [hleft, bd_s]
      by_cases hc : (decide ((match ab q.1 q.2 with | none => (0 : Int) | some t => (t.length : Int)) ≥ (4 : Int)) && decide ((l.length : Int) < (14 : Int))) = true
      · left
        rw [if_pos hc]
        obtain ⟨q', g1, g2⟩ := r_int q.1 q.2
        simp at hc
        rw [g1, bd_s, need_is (by simp; omega), bd_s]
        refine ⟨_, rfl, ⟨q', l ++ [(inA (ab q.1 q.2)).1], rfl, by simp; omega, fun M h4 h5 h6 => ?_⟩, by simp; omega⟩
        obtain ⟨M2, k1, k2⟩ := hI M h4 h5 h6
        cases M2 with
        | nil => rw [k2] at hc; simp [flatL] at hc
        | cons x M3 =>
          have hx := h6 x (by rw [← k1]; simp)
          have e : flatL (x :: M3) = w4 x.toNat ++ flatL M3 := rfl
          have e3 : inA (ab q.1 q.2) = (x, some (flatL M3)) := by rw [k2, e, in_app (by omega), Int.toNat_of_nonneg hx.1]
          refine ⟨M3, ?_, ?_⟩
          · rw [e3, ← k1]; simp
          · rw [g2, e3]
      · right
        rw [if_neg hc]
        refine ⟨_, rfl, l, rfl, fun M h4 h5 h6 => ?_⟩
        obtain ⟨M2, k1, k2⟩ := hI M h4 h5 h6
        rw [k2] at hc
        simp at hc
        cases M2 with
        | nil => rw [← k1]; simp
        | cons x M3 =>
          exfalso
          have h7 := congrArg List.length k1
          simp at h7
          have h8 := flatL_len (x :: M3)
          simp at h8
          omega)
  exact ⟨L, h1, h2⟩
theorem y_sread (b : List UInt8) : ∃ r, X.cartridgeref10_ReadSeal b = some r ∧ Rd b r := by
  unfold X.cartridgeref10_ReadSeal X.cartridgeref1_NewReader
  rw [bd_s]
  simp only
  obtain ⟨q0, h0, e0⟩ := r_int b false
  rw [h0, bd_s]
  obtain ⟨q1, h1, e1⟩ := r_byte q0.1 q0.2
  simp only
  rw [h1, bd_s]
  obtain ⟨q2, h2, e2⟩ := r_byte q1.1 q1.2
  simp only
  rw [h2, bd_s]
  obtain ⟨q3, h3, e3⟩ := r_byte q2.1 q2.2
  simp only
  rw [h3, bd_s]
  simp only
  have hab : ab b false = some b := rfl
  rw [hab] at e0
  rw [e0] at e1
  rw [e1] at e2
  rw [e2] at e3
  rw [e2, e1, e0, hab]
  obtain ⟨L, g1, g2⟩ := y_labels (inA (some b)).1 ((byA (inA (some b)).2).1.toNat : Int) ((byA (byA (inA (some b)).2).2).1.toNat : Int) ((byA (byA (byA (inA (some b)).2).2).2).1.toNat : Int) q3.1 q3.2
  rw [g1, bd_s]
  simp only
  unfold X.cartridgeref10_ReadSeal_e20
  rw [y_sbytes, bd_s]
  have hp : p7 b = ((inA (some b)).1, (byA (inA (some b)).2).1, (byA (byA (inA (some b)).2).2).1, (byA (byA (byA (inA (some b)).2).2).2).1, (byA (byA (byA (inA (some b)).2).2).2).2) := rfl
  have hq : (⟨(inA (some b)).1, ((byA (inA (some b)).2).1.toNat : Int), ((byA (byA (inA (some b)).2).2).1.toNat : Int), ((byA (byA (byA (inA (some b)).2).2).2).1.toNat : Int), L⟩ : Seal_api) = ⟨(p7 b).1, ((p7 b).2.1.toNat : Int), ((p7 b).2.2.1.toNat : Int), ((p7 b).2.2.2.1.toNat : Int), L⟩ := by rw [hp]
  rw [hq]
  have back : ∀ s, okS b s → s = ⟨(p7 b).1, ((p7 b).2.1.toNat : Int), ((p7 b).2.2.1.toNat : Int), ((p7 b).2.2.2.1.toNat : Int), L⟩ := by
    intro s hs
    obtain ⟨k1, k2, k3⟩ := p7_seal hs
    obtain ⟨hR, _⟩ := hs
    obtain ⟨⟨a1, a2⟩, ⟨a3, a4⟩, ⟨a5, a6⟩, ⟨b1, b2⟩, b3, hg⟩ := hR
    have hL : L = s.Labels := g2 s.Labels (by
      have : (p7 b).2.2.2.2 = some (flatL s.Labels) := by rw [k1]
      rw [hp] at this
      rw [e3]; exact this) (by omega) (fun x hx => by have := hg.1 x hx; omega)
    rw [hL]
    exact k3
  generalize (⟨(p7 b).1, ((p7 b).2.1.toNat : Int), ((p7 b).2.2.1.toNat : Int), ((p7 b).2.2.2.1.toNat : Int), L⟩ : Seal_api) = z at back
  by_cases hR : RSl z
  · rw [if_pos hR]
    by_cases hE : encS z = b
    · have hlen := encS_len z
      rw [if_neg (by simp [hE]; rw [← hE]; intro h0; rw [h0] at hlen; simp at hlen; omega)]
      exact ⟨_, rfl, .inl ⟨z, ⟨hR, hE⟩, rfl⟩⟩
    · rw [if_pos (by simp [hE])]
      refine ⟨_, rfl, .inr ⟨?_, rfl⟩⟩
      rintro ⟨s, hs⟩
      have := back s hs
      subst this
      exact hE hs.2
  · rw [if_neg hR]
    refine ⟨(zeroS, 2), rfl, .inr ⟨?_, rfl⟩⟩
    rintro ⟨s, hs⟩
    have := back s hs
    subst this
    exact hR hs.1
theorem same_seal (s : Seal_api) (h : s.Labels.length ≤ 100000) : X.cartridgeref10_SameSeal s s = some true := by
  unfold X.cartridgeref10_SameSeal
  rw [if_neg (by simp)]
  have : run (X.cartridgeref10_SameSeal_s9 s s) (0 : Int) = some (.inl ()) :=
    run_seE (a := 0) (n := s.Labels.length) (fun _ => True) (Nat.zero_le _) (by omega) trivial (fun i _ hi _ => .inl ⟨by
      unfold X.cartridgeref10_SameSeal_s9
      simp only
      rw [if_pos (by simpa using hi), getI_nat hi, bd_s, bd_s, if_neg (by simp), wr_succ (by omega)], trivial⟩) (fun _ => by
      unfold X.cartridgeref10_SameSeal_s9
      simp only
      rw [if_neg (by simp)])
  rw [this, bd_s]; rfl
theorem Rd_len {b : List UInt8} {r : Seal_api × Int} (h : Rd b r) : r.1.Labels.length ≤ 14 := by
  rcases h with ⟨s, ⟨hR, _⟩, rfl⟩ | ⟨_, rfl⟩
  · obtain ⟨_, ⟨a3, a4⟩, ⟨a5, a6⟩, _, b3, _⟩ := hR
    simp only
    omega
  · simp [zeroS]
theorem rec_seals (s : Seal_api) (b : List UInt8) : X.cartridgelaw10_RecordSeals s b = some true := by
  unfold X.cartridgelaw10_RecordSeals X.cartridgelaw10_num
  rw [alive10, bd_s]
  split
  · rfl
  · rename_i hc
    simp at hc
    obtain ⟨r, h1, h2⟩ := x_sread b (by omega)
    obtain ⟨r', h3, h4⟩ := y_sread b
    have hrr := Rd_uniq h4 h2
    subst hrr
    rw [y_sright, bd_s, x_sbytes, bd_s, need_is (by omega), bd_s, h1, bd_s, h3, bd_s, x_sright, bd_s, y_sbytes]
    simp only [bne_self_eq_false, beq_self_eq_true, Bool.not_true, Bool.not_false, Bool.false_or, Bool.or_self, optG_true, bd_s]
    rw [same_seal _ (by have := Rd_len h2; omega), bd_s]
    simp only [bne_self_eq_false, beq_self_eq_true, Bool.not_true, Bool.not_false, Bool.false_or, Bool.or_self, optG_true, bd_s]
    by_cases hR : RSl s
    · have hl := encS_len s
      have hR' := hR
      obtain ⟨_, ⟨a3, a4⟩, ⟨a5, a6⟩, _, b3, _⟩ := hR'
      rw [if_pos hR, if_neg (by simp; omega)]
      obtain ⟨w, g1, g2⟩ := x_sread (encS s) (by omega)
      have hw := Rd_enc hR g2
      subst hw
      rw [g1, bd_s]
      simp only [decide_eq_true hR, Bool.not_true, Bool.false_and, Bool.not_false, Bool.and_self, optG_true, bd_s, beq_self_eq_true, Bool.or_true, Bool.true_and]
      rw [same_seal s (by omega), bd_s]; rfl
    · rw [if_neg hR, if_neg (by simp)]
      obtain ⟨w, g1, g2⟩ := x_sread [] (by simp)
      rw [g1, bd_s]
      simp only [decide_eq_false hR, Bool.not_false, Bool.true_and, Bool.and_false, Bool.false_and, optG_false, bd_s]
      rfl
end Go.AX
