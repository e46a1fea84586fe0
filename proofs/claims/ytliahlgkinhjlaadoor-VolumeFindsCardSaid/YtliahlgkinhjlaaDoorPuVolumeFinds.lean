import Derived.Test.YtliahlgkinhjlaaDoorXFn
import Derived.Test.YtliahlgkinhjlaaDoorLibC
import Derived.Laws.RangeAny
import Derived.Laws.RangeString
/- Plain laws, put together. -/
set_option linter.unusedVariables false
set_option linter.unusedSimpArgs false
/- Plain laws of counting loops and of lists that are filled place by place. -/
namespace Go.AX
/-- A loop over numbers. -/
theorem run_ix {σ ρ : Type} {f : σ × Int → Option ((σ × Int) ⊕ ρ)} {s0 : σ} {a n : Nat} (I : Nat → σ → Prop) (R : ρ → Prop) (han : a ≤ n) (hn : n ≤ 4000000000000000000) (h0 : I a s0)
    (step : ∀ i s, a ≤ i → i < n → I i s → (∃ s', f (s, (i : Int)) = some (.inl (s', ((i + 1 : Nat) : Int))) ∧ I (i + 1) s') ∨ ∃ r, f (s, (i : Int)) = some (.inr r) ∧ R r)
    (fin : ∀ s, I n s → ∃ r, f (s, (n : Int)) = some (.inr r) ∧ R r) : ∃ r, run f (s0, (a : Int)) = some r ∧ R r := by
  refine run_inv (fun p => ∃ i : Nat, p.2 = (i : Int) ∧ a ≤ i ∧ i ≤ n ∧ I i p.1) R (fun p => n - p.2.toNat) ⟨a, rfl, Nat.le_refl _, han, h0⟩ (by simp only; omega) ?_
  rintro ⟨s, x⟩ ⟨i, rfl, hai, hin, hI⟩
  rcases Nat.lt_or_ge i n with hlt | hge
  · rcases step i s hai hlt hI with ⟨s', h1, h2⟩ | h
    · exact .inl ⟨_, h1, ⟨i + 1, rfl, by omega, by omega, h2⟩, by simp only; omega⟩
    · exact .inr h
  · have : i = n := by omega
    subst this
    exact .inr (fin s hI)
/-- A loop over numbers, told as a function of them. -/
theorem run_G {σ ρ : Type} {f : σ × Int → Option ((σ × Int) ⊕ ρ)} (G : Nat → σ) {s0 : σ} {a n : Nat} {r : ρ} (han : a ≤ n) (hn : n ≤ 4000000000000000000) (h0 : s0 = G a)
    (step : ∀ i, a ≤ i → i < n → f (G i, (i : Int)) = some (.inl (G (i + 1), ((i + 1 : Nat) : Int)))) (fin : f (G n, (n : Int)) = some (.inr r)) : run f (s0, (a : Int)) = some r := by
  obtain ⟨r', h1, h2⟩ := run_ix (f := f) (s0 := s0) (a := a) (n := n) (fun i s => s = G i) (fun x => x = r) han hn h0 (fun i s hi hlt e => .inl ⟨_, by rw [e]; exact step i hi hlt, rfl⟩) (fun s e => ⟨r, by rw [e]; exact fin, rfl⟩)
  rw [h1, h2]
theorem run_G0 {σ ρ : Type} {f : σ × Int → Option ((σ × Int) ⊕ ρ)} (G : Nat → σ) {s0 : σ} {n : Nat} {r : ρ} (hn : n ≤ 4000000000000000000) (h0 : s0 = G 0)
    (step : ∀ i, i < n → f (G i, (i : Int)) = some (.inl (G (i + 1), ((i + 1 : Nat) : Int)))) (fin : f (G n, (n : Int)) = some (.inr r)) : run f (s0, (0 : Int)) = some r :=
  run_G (a := 0) G (Nat.zero_le _) hn h0 (fun i _ h => step i h) fin
theorem run_ix0 {σ ρ : Type} {f : σ × Int → Option ((σ × Int) ⊕ ρ)} {s0 : σ} {n : Nat} (I : Nat → σ → Prop) (R : ρ → Prop) (hn : n ≤ 4000000000000000000) (h0 : I 0 s0)
    (step : ∀ i s, i < n → I i s → (∃ s', f (s, (i : Int)) = some (.inl (s', ((i + 1 : Nat) : Int))) ∧ I (i + 1) s') ∨ ∃ r, f (s, (i : Int)) = some (.inr r) ∧ R r)
    (fin : ∀ s, I n s → ∃ r, f (s, (n : Int)) = some (.inr r) ∧ R r) : ∃ r, run f (s0, (0 : Int)) = some r ∧ R r :=
  run_ix (a := 0) I R (Nat.zero_le _) hn h0 (fun i s _ h k => step i s h k) fin
/-- A search over numbers, without other state. -/
theorem run_se {ρ : Type} {f : Int → Option (Int ⊕ ρ)} {a n : Nat} (R : ρ → Prop) (I : Nat → Prop) (han : a ≤ n) (hn : n ≤ 4000000000000000000) (h0 : I a)
    (step : ∀ i, a ≤ i → i < n → I i → (f (i : Int) = some (.inl ((i + 1 : Nat) : Int)) ∧ I (i + 1)) ∨ ∃ r, f (i : Int) = some (.inr r) ∧ R r)
    (fin : I n → ∃ r, f (n : Int) = some (.inr r) ∧ R r) : ∃ r, run f (a : Int) = some r ∧ R r := by
  refine run_inv (fun x => ∃ i : Nat, x = (i : Int) ∧ a ≤ i ∧ i ≤ n ∧ I i) R (fun x => n - x.toNat) ⟨a, rfl, Nat.le_refl _, han, h0⟩ (by omega) ?_
  rintro x ⟨i, rfl, hai, hin, hI⟩
  rcases Nat.lt_or_ge i n with hlt | hge
  · rcases step i hai hlt hI with ⟨h1, h2⟩ | h
    · exact .inl ⟨_, h1, ⟨i + 1, rfl, by omega, by omega, h2⟩, by omega⟩
    · exact .inr h
  · have : i = n := by omega
    subst this
    exact .inr (fin hI)
theorem run_seE {ρ : Type} {f : Int → Option (Int ⊕ ρ)} {a n : Nat} {r : ρ} (I : Nat → Prop) (han : a ≤ n) (hn : n ≤ 4000000000000000000) (h0 : I a)
    (step : ∀ i, a ≤ i → i < n → I i → (f (i : Int) = some (.inl ((i + 1 : Nat) : Int)) ∧ I (i + 1)) ∨ f (i : Int) = some (.inr r))
    (fin : I n → f (n : Int) = some (.inr r)) : run f (a : Int) = some r := by
  obtain ⟨r', h1, h2⟩ := run_se (f := f) (fun x => x = r) I han hn h0 (fun i h1 h2 h3 => (step i h1 h2 h3).imp id fun h => ⟨r, h, rfl⟩) (fun h => ⟨r, fin h, rfl⟩)
  rw [h1, h2]
/-- A list told place by place. -/
def tab {α : Type} (n : Nat) (g : Nat → α) : List α := (List.range n).map g
section
variable {α : Type} {n : Nat} {g g' : Nat → α}
@[simp] theorem tab_len : (tab n g).length = n := by simp [tab]
theorem tab_get {i : Nat} (h : i < (tab n g).length) : (tab n g)[i] = g i := by simp [tab]
theorem tab_get? {i : Nat} (h : i < n) : (tab n g)[i]? = some (g i) := by simp [tab, h]
theorem tab_congr (h : ∀ i, i < n → g i = g' i) : tab n g = tab n g' := by
  unfold tab
  exact List.map_congr_left fun i hi => h i (List.mem_range.1 hi)
theorem tab_succ : tab (n + 1) g = tab n g ++ [g n] := by simp [tab, List.range_succ]
theorem tab_all (z : α) (xs : List α) : xs = tab xs.length (fun j => xs.getD j z) := by
  apply List.ext_getElem?
  intro j
  by_cases hj : j < xs.length
  · rw [tab_get? hj, List.getElem?_eq_getElem hj]; simp [List.getD_eq_getElem?_getD, hj]
  · rw [List.getElem?_eq_none (by omega), List.getElem?_eq_none (by simp; omega)]
theorem tab_getD {i : Nat} {z : α} : (tab n g).getD i z = if i < n then g i else z := by
  by_cases h : i < n
  · simp [tab, h, List.getD_eq_getElem?_getD]
  · rw [if_neg h, List.getD_eq_getElem?_getD, List.getElem?_eq_none (by simp; omega)]; rfl
theorem mem_tab {x : α} : x ∈ tab n g ↔ ∃ i, i < n ∧ g i = x := by simp [tab]
theorem getI_getD {xs : List α} (z : α) {i : Nat} (h : i < xs.length) : getI xs (i : Int) = some (xs.getD i z) := by
  rw [getI_nat h]; simp [List.getD_eq_getElem?_getD, h]
theorem set_getD {xs : List α} {z : α} {i j : Nat} {y : α} (h : i < xs.length) : (xs.set i y).getD j z = if j = i then y else xs.getD j z := by
  simp only [List.getD_eq_getElem?_getD, List.getElem?_set]
  by_cases e : i = j
  · subst e; simp [h]
  · rw [if_neg e, if_neg fun h : j = i => e h.symm]
theorem list_ext_getD (z : α) {xs ys : List α} (hl : xs.length = ys.length) (h : ∀ i, i < xs.length → xs.getD i z = ys.getD i z) : xs = ys := by
  rw [tab_all z xs, tab_all z ys, ← hl]
  exact tab_congr h
end
end Go.AX
/- Texts cut at a sign, and their parts. -/
namespace Go.AX
def okN (x : Nat) : Bool := (decide (97 ≤ x) && decide (x ≤ 122)) || (decide (48 ≤ x) && decide (x ≤ 57)) || x == 46 || x == 45 || x == 95
def badB (w : List UInt8) : Bool := w == [] || w == [46] || w == [46, 46] || w.any fun x => !okN x.toNat
def splA (w : List UInt8) : List UInt8 → List (List UInt8)
  | [] => [w]
  | x :: l => if x = 47 then w :: splA [] l else splA (w ++ [x]) l
def spl (l : List UInt8) : List (List UInt8) := splA [] l
def pathB (l : List UInt8) : Bool := decide (l.length ≤ 24) && !(spl l).any badB
theorem splA_no : ∀ {l w : List UInt8}, (47 : UInt8) ∉ l → splA w l = [w ++ l]
  | [], w, _ => by simp [splA]
  | x :: l, w, h => by
    have h1 : x ≠ 47 := fun e => h (by simp [e])
    rw [splA, if_neg h1, splA_no (fun h2 => h (List.mem_cons_of_mem _ h2))]
    simp
theorem splA_cut : ∀ {a l w : List UInt8}, (47 : UInt8) ∉ a → splA w (a ++ 47 :: l) = (w ++ a) :: splA [] l
  | [], l, w, _ => by simp [splA]
  | x :: a, l, w, h => by
    have h1 : x ≠ 47 := fun e => h (by simp [e])
    show splA w (x :: (a ++ 47 :: l)) = _
    rw [splA, if_neg h1, splA_cut (fun h2 => h (List.mem_cons_of_mem _ h2))]
    simp
theorem spl_no {l : List UInt8} (h : (47 : UInt8) ∉ l) : spl l = [l] := by rw [spl, splA_no h]; rfl
theorem spl_cut {a l : List UInt8} (h : (47 : UInt8) ∉ a) : spl (a ++ 47 :: l) = a :: spl l := by rw [spl, splA_cut h]; rfl
theorem splA_len : ∀ (l w : List UInt8), (splA w l).length = l.count 47 + 1
  | [], w => rfl
  | x :: l, w => by
    unfold splA
    split
    · next h => subst h; simp [splA_len l]
    · next h => rw [splA_len l]; simp [h]
theorem spl_len (l : List UInt8) : (spl l).length = l.count 47 + 1 := splA_len l []
theorem spl_pos (l : List UInt8) : 0 < (spl l).length := by rw [spl_len]; omega
end Go.AX
/- Which texts are paths, and their parts. -/
namespace Go.AX
open Go.AM
set_option linter.unusedSimpArgs false
theorem bd_s {α β : Type} (a : α) (f : α → Option β) : (some a).bind f = f a := rfl
theorem other_is (x : Nat) : X.path_other (I32.mk (x : Int)) = some (!okN x) := by
  unfold X.path_other okN
  simp only
  congr 1
  rw [Bool.eq_iff_iff]
  simp
  omega
theorem ba_get (s : Str) (i : Nat) (h : i < s.ba.size) : s.ba[i]'h = s.l[i]'(by rw [ba_size] at h; exact h) := rfl
theorem okN_high {x : Nat} (h : 128 ≤ x) : okN x = false := by
  unfold okN
  simp
  omega
theorem idx_from (s : Str) : ∀ (f pos : Nat), s.l.length ≤ pos + f → (0 ≤ Lib.idxFuncFrom (fun x => !okN x) true s.ba f pos ↔ ∃ i, ∃ h : i < s.l.length, pos ≤ i ∧ okN (s.l[i]).toNat = false)
  | 0, pos, h => by
    unfold Lib.idxFuncFrom
    constructor
    · intro h; omega
    · rintro ⟨i, h1, h2, _⟩; omega
  | f + 1, pos, h => by
    unfold Lib.idxFuncFrom
    by_cases hp : pos < s.ba.size
    · rw [if_pos hp]
      have hp' : pos < s.l.length := by rwa [ba_size] at hp
      by_cases ha : (s.l[pos]).toNat < 128
      · have hd := Go.decode_ascii s.ba pos hp (by rw [ba_get]; exact ha)
        have hd1 : (Utf8.decode s.ba pos).1 = (s.l[pos]).toNat := by rw [hd]; rfl
        have hd2 : (Utf8.decode s.ba pos).2 = 1 := by rw [hd]
        by_cases hk : okN (s.l[pos]).toNat = true
        · rw [if_neg (by show ¬ ((!okN (Utf8.decode s.ba pos).1) = true); rw [hd1]; simp [hk]), hd2, idx_from s f (pos + 1) (by omega)]
          constructor
          · rintro ⟨i, h1, h2, h3⟩; exact ⟨i, h1, by omega, h3⟩
          · rintro ⟨i, h1, h2, h3⟩
            refine ⟨i, h1, ?_, h3⟩
            rcases Nat.lt_or_ge pos i with h4 | h4
            · exact h4
            · obtain rfl : i = pos := by omega
              rw [hk] at h3; cases h3
        · have hk : okN (s.l[pos]).toNat = false := by simpa using hk
          rw [if_pos (by show (!okN (Utf8.decode s.ba pos).1) = true; rw [hd1]; simp [hk])]
          exact ⟨fun _ => ⟨pos, hp', Nat.le_refl _, hk⟩, fun _ => by omega⟩
      · obtain ⟨h1, h2⟩ := Go.decode_high s.ba pos hp (by rw [ba_get]; omega)
        rw [if_pos (by show (!okN (Utf8.decode s.ba pos).1) = true; simp [okN_high h1])]
        exact ⟨fun _ => ⟨pos, hp', Nat.le_refl _, okN_high (by omega)⟩, fun _ => by omega⟩
    · rw [if_neg hp]
      rw [ba_size] at hp
      constructor
      · intro h; omega
      · rintro ⟨i, h1, h2, _⟩; omega
theorem cont_is (s : Str) : X.strings_ContainsFunc s (fun a1 => X.path_other a1) = some (s.l.any fun x => !okN x.toNat) := by
  unfold X.strings_ContainsFunc X.strings_IndexFunc X.strings_indexFunc
  rw [if_pos (by intro x _; show (X.path_other _).isSome = true; rw [other_is]; rfl), bd_s, bd_s]
  have e : (fun x : Nat => (X.path_other (I32.mk (x : Int))).getD false) = fun x => !okN x := by
    funext x; rw [other_is]; rfl
  rw [e]
  congr 1
  rw [Bool.eq_iff_iff, decide_eq_true_eq]
  have := idx_from s s.ba.size 0 (by rw [ba_size]; omega)
  unfold Lib.idxFunc
  rw [ge_iff_le, this, List.any_eq_true]
  constructor
  · rintro ⟨i, h1, _, h2⟩; exact ⟨s.l[i], List.getElem_mem h1, by simp [h2]⟩
  · rintro ⟨x, h1, h2⟩
    obtain ⟨i, h3, rfl⟩ := List.mem_iff_getElem.1 h1
    exact ⟨i, h3, Nat.zero_le _, by simpa using h2⟩
theorem wrong_is (s : Str) : X.path_wrong s = some (badB s.l) := by
  unfold X.path_wrong badB
  rw [cont_is]
  simp only [optG]
  cases h1 : s.l == [] <;> cases h2 : s.l == [46] <;> cases h3 : s.l == [46, 46] <;> simp [bd_s, h1, h2, h3]
theorem ixb_cut : ∀ {a l : List UInt8}, (47 : UInt8) ∉ a → Lib.indexByte (a ++ 47 :: l) 47 = (a.length : Int)
  | [], l, _ => by simp [Lib.indexByte]
  | x :: a, l, h => by
    have h1 : x ≠ 47 := fun e => h (by simp [e])
    show Lib.indexByte (x :: (a ++ 47 :: l)) 47 = _
    rw [Lib.indexByte, ixb_cut (fun h2 => h (List.mem_cons_of_mem _ h2))]
    simp [h1]
theorem cut_at : ∀ {l : List UInt8}, (47 : UInt8) ∈ l → ∃ a r, l = a ++ 47 :: r ∧ (47 : UInt8) ∉ a
  | [], h => by cases h
  | x :: l, h => by
    by_cases h1 : x = 47
    · exact ⟨[], l, by rw [h1]; rfl, by simp⟩
    · obtain ⟨a, r, e, h2⟩ := cut_at (l := l) (by rcases List.mem_cons.1 h with e | e; exact absurd e.symm h1; exact e)
      exact ⟨x :: a, r, by rw [e]; rfl, by simp [h2, Ne.symm h1]⟩
theorem index_is (s : Str) : X.strings_Index_k47 s = some (Lib.indexByte s.l 47) := by
  unfold X.strings_Index_k47 X.stringslite_Index_k47 X.stringslite_IndexByte
  have e : getI (Str.mk [47]).l (0 : Int) = some 47 := rfl
  by_cases h : (Str.mk [47]).l == s.l
  · rw [if_pos h]
    have : s.l = [47] := (eq_of_beq h).symm
    rw [this]; rfl
  · rw [if_neg h, e]; rfl
theorem slc_nn {α : Type} (xs : List α) (a b : Nat) : slc xs (a : Int) (b : Int) = (xs.drop a).take (b - a) := by
  unfold slc
  simp
theorem slc_0n {α : Type} (xs : List α) (b : Nat) : slc xs (0 : Int) (b : Int) = xs.take b := by
  have := slc_nn xs 0 b
  simpa using this
theorem split_is (s : Str) (hl : s.l.length ≤ 1000) : X.strings_Split_k47 s = some ((spl s.l).map Str.mk) := by
  have hc : s.l.count 47 ≤ s.l.length := List.count_le_length
  unfold X.strings_Split_k47 X.strings_genSplit_k47_0_1 X.strings_Count_k47
  have e : getI (Str.mk [47]).l (0 : Int) = some 47 := rfl
  rw [e, bd_s, bd_s]
  generalize hn : s.l.count 47 = c at *
  have e1 : wr ((c : Int) + (1 : Int)) = ((c + 1 : Nat) : Int) := wr_succ (by omega)
  have e2 : wr ((s.l.length : Int) + (1 : Int)) = ((s.l.length + 1 : Nat) : Int) := wr_succ (by omega)
  have e3 : min (((c + 1 : Nat) : Int)) (((s.l.length + 1 : Nat) : Int)) = ((c + 1 : Nat) : Int) := by omega
  rw [e1, e2, e3, need_is (by omega), bd_s]
  have e4 : wr (((c + 1 : Nat) : Int) - (1 : Int)) = (c : Int) := by rw [wr_eq (by omega) (by omega)]; omega
  have key : ∃ o, run (X.strings_genSplit_k47_0_1_s17 (c : Int) s) (s, List.replicate (((c + 1 : Nat) : Int)).toNat (Str.mk []), (0 : Int)) = some o ∧
      ∃ (rest : Str) (arr : List Str), o = (rest, arr, (c : Int)) ∧ arr.length = c + 1 ∧ (spl rest.l).length = 1 ∧ arr.take c ++ (spl rest.l).map Str.mk = (spl s.l).map Str.mk := by
    refine run_inv (fun p => ∃ (i : Nat) (rest : Str) (arr : List Str), p = (rest, arr, (i : Int)) ∧ arr.length = c + 1 ∧ i + (spl rest.l).length = c + 1 ∧ rest.l.length ≤ 1000 ∧ arr.take i ++ (spl rest.l).map Str.mk = (spl s.l).map Str.mk) _ (fun p => c - p.2.2.toNat)
      ⟨0, s, _, rfl, by simp, by rw [spl_len, hn]; omega, hl, by simp⟩ (by simp only; omega) ?_
    rintro _ ⟨i, rest, arr, rfl, h1, h2, h3, h4⟩
    unfold X.strings_genSplit_k47_0_1_s17
    simp only [e1, e2, e3, e4]
    rcases Nat.lt_or_ge i c with hi | hi
    · left
      rw [if_pos (by simp; omega), index_is, bd_s]
      have hm : (47 : UInt8) ∈ rest.l := by
        refine Decidable.by_contra fun hno => ?_
        rw [spl_no hno] at h2
        simp at h2
        omega
      obtain ⟨a, r, er, ha⟩ := cut_at hm
      have hlen : rest.l.length = a.length + 1 + r.length := by rw [er]; simp; omega
      rw [er, ixb_cut ha, if_neg (by simp), ← er]
      have w0 : wr ((a.length : Int) + (0 : Int)) = (a.length : Int) := by rw [wr_eq (by omega) (by omega)]; omega
      have w1 : wr ((a.length : Int) + (1 : Int)) = ((a.length + 1 : Nat) : Int) := wr_succ (by omega)
      rw [w0, w1, need_is (by omega), bd_s, getI_nat (by omega), bd_s, need_is (by omega), bd_s, slc_0n, slc_nn, wr_succ (by omega)]
      refine ⟨_, rfl, ⟨i + 1, _, _, rfl, by simp [h1], ?_, ?_, ?_⟩, by simp only; omega⟩
      · simp only
        have e5 : (rest.l.drop (a.length + 1)).take (rest.l.length - (a.length + 1)) = r := by
          rw [er]
          rw [List.take_of_length_le (by simp; omega)]
          rw [show a ++ 47 :: r = (a ++ [47]) ++ r by simp, List.drop_left' (by simp)]
        rw [e5]
        rw [er, spl_cut ha] at h2
        simp at h2
        omega
      · simp; omega
      · simp only
        have e5 : (rest.l.drop (a.length + 1)).take (rest.l.length - (a.length + 1)) = r := by
          rw [er]
          rw [List.take_of_length_le (by simp; omega)]
          rw [show a ++ 47 :: r = (a ++ [47]) ++ r by simp, List.drop_left' (by simp)]
        have e6 : rest.l.take a.length = a := by rw [er]; simp
        rw [e5, e6]
        rw [er, spl_cut ha] at h4
        rw [← h4, Int.toNat_natCast]
        have h6 : i < arr.length := by omega
        rw [List.take_succ_eq_append_getElem (by simpa using h6)]
        simp
        rw [List.take_set_of_le (Nat.le_refl _)]
    · right
      rw [if_neg (by simp; omega)]
      have hic : i = c := by have := spl_pos rest.l; omega
      subst hic
      exact ⟨_, rfl, _, _, rfl, h1, by omega, h4⟩
  obtain ⟨o, h1, rest, arr, rfl, h2, h3, h4⟩ := key
  rw [h1, bd_s]
  simp only
  unfold X.strings_genSplit_k47_0_1_e17
  have h47 : (47 : UInt8) ∉ rest.l := by
    intro hm
    rw [spl_len] at h3
    have := List.count_pos_iff.2 hm
    omega
  rw [getI_nat (by omega), bd_s, e1, need_is (by simp; omega), bd_s, slc_0n, Int.toNat_natCast]
  rw [← h4, spl_no h47, List.take_of_length_le (by simp; omega), bd_s]
  congr 1
  apply List.ext_getElem (by simp; omega)
  intro j q1 q2
  simp only [List.length_set] at q1
  rw [List.getElem_set]
  by_cases hj : c = j
  · subst hj
    rw [if_pos rfl, List.getElem_append_right (by simp; omega)]
    simp
  · rw [if_neg hj, List.getElem_append_left (by simp; omega)]
    simp
theorem contL_is (l : List Str) (hl : l.length ≤ 100000) : X.slices_ContainsFunc_Lstring_string l (fun a1 => X.path_wrong a1) = some (l.any fun s => badB s.l) := by
  unfold X.slices_ContainsFunc_Lstring_string X.slices_IndexFunc_Lstring_string
  obtain ⟨o, h1, h2⟩ := run_se (f := X.slices_IndexFunc_Lstring_string_s6 l (fun a1 => X.path_wrong a1)) (a := 0) (n := l.length)
    (fun o => (match o with | .inl _ => l.any (fun s => badB s.l) = false | .inr k => 0 ≤ k ∧ l.any (fun s => badB s.l) = true)) (fun i => (l.take i).any (fun s => badB s.l) = false) (Nat.zero_le _) (by omega) (by simp)
    (fun i _ hi hI => by
      unfold X.slices_IndexFunc_Lstring_string_s6
      simp only
      rw [if_pos (by simpa using hi), getI_nat hi, bd_s, wrong_is, bd_s]
      cases hb : badB l[i].l
      · left
        rw [if_neg (by simp), wr_succ (by omega)]
        exact ⟨rfl, by rw [List.take_succ_eq_append_getElem hi, List.any_append, hI]; simp [hb]⟩
      · right
        rw [if_pos rfl]
        exact ⟨_, rfl, by omega, List.any_eq_true.2 ⟨l[i], List.getElem_mem hi, hb⟩⟩)
    (fun hI => by
      unfold X.slices_IndexFunc_Lstring_string_s6
      simp only
      rw [if_neg (by simp)]
      exact ⟨_, rfl, by simpa using hI⟩)
  have h1' : run (X.slices_IndexFunc_Lstring_string_s6 l (fun a1 => X.path_wrong a1)) (0 : Int) = some o := h1
  rw [h1', bd_s]
  cases o with
  | inl u => simp only at h2; rw [h2]; rfl
  | inr k => simp only at h2; obtain ⟨h2, h3⟩ := h2; rw [h3, bd_s]; simp [h2]
theorem any_mk (L : List (List UInt8)) : (L.map Str.mk).any (fun s => badB s.l) = L.any badB := by
  rw [List.any_map]; rfl
theorem right_is (s : Str) : X.path_Right s = some (pathB s.l) := by
  unfold X.path_Right pathB
  by_cases h : s.l.length ≤ 24
  · have hd : decide ((s.l.length : Int) ≤ (24 : Int)) = true := by simp; omega
    have hd2 : decide (s.l.length ≤ 24) = true := by simpa using h
    rw [hd, hd2, optG_true, split_is s (by omega), bd_s, optG_true, contL_is _ (by simp [spl_len]; have := List.count_le_length (a := (47 : UInt8)) (l := s.l); omega), bd_s, any_mk]
  · have hd : decide ((s.l.length : Int) ≤ (24 : Int)) = false := by simp; omega
    have hd2 : decide (s.l.length ≤ 24) = false := by simpa using h
    rw [hd, hd2, optG_false, bd_s, optG_false, bd_s]; rfl
theorem right_len {l : List UInt8} (h : pathB l = true) : l.length ≤ 24 := by unfold pathB at h; simp at h; exact h.1
end Go.AX
/- The document's own parts of a path are the same. -/
namespace Go.AX
open Go.AM
set_option linter.unusedSimpArgs false
theorem bad_acc : ∀ (l w : List UInt8), (w.any fun x => !okN x.toNat) = true → (splA w l).any badB = true
  | [], w, h => by simp [splA, badB, h]
  | x :: l, w, h => by
    unfold splA
    split
    · simp [badB, h]
    · exact bad_acc l (w ++ [x]) (by rw [List.any_append, h]; rfl)
theorem ok8 (x : UInt8) : ((((((decide (x ≥ (97 : UInt8))) && (decide (x ≤ (122 : UInt8)))) || ((decide (x ≥ (48 : UInt8))) && (decide (x ≤ (57 : UInt8))))) || (x == (46 : UInt8))) || (x == (45 : UInt8))) || (x == (95 : UInt8))) = okN x.toNat := by
  unfold okN
  rw [Bool.eq_iff_iff]
  simp [UInt8.le_iff_toNat_le, ← UInt8.toNat_inj]
theorem bad_w {w : List UInt8} (h : (w.any fun x => !okN x.toNat) = false) : badB w = (((w == []) || (w == [46])) || (w == [46, 46])) := by
  unfold badB
  rw [h, Bool.or_false]
theorem slc_one (L : List UInt8) (i : Nat) (h : i < L.length) : slc L (i : Int) ((i + 1 : Nat) : Int) = [L[i]] := by
  rw [slc_nn, show i + 1 - i = 1 by omega, List.drop_eq_getElem_cons h]; rfl
theorem pp_is (s : Str) : X.cartridgeref1_PathParts s = some (if pathB s.l = true then (spl s.l).map Str.mk else []) := by
  obtain ⟨L⟩ := s
  unfold X.cartridgeref1_PathParts
  by_cases h0 : L.length < 1 ∨ L.length > 24
  · rw [if_pos (by simp; omega)]
    have : pathB L = false := by
      rcases h0 with h | h
      · have : L = [] := List.length_eq_zero_iff.1 (by omega)
        subst this; rfl
      · unfold pathB
        rw [decide_eq_false (by omega)]; rfl
    simp [this]
  rw [if_neg (by simp; omega)]
  have hn1 : 1 ≤ L.length := by omega
  have hn2 : L.length ≤ 24 := by omega
  have key : ∃ o, run (X.cartridgeref1_PathParts_s11 (Str.mk L)) (([] : List Str), (Str.mk []), (0 : Int)) = some o ∧ ((pathB L = true ∧ o = .inl ((spl L).map Str.mk)) ∨ (pathB L = false ∧ o = .inr [])) := by
    refine run_inv (fun p => ∃ (i : Nat) (P : List (List UInt8)) (w : List UInt8), p = (P.map Str.mk, Str.mk w, (i : Int)) ∧ P.length ≤ i ∧ w.length ≤ i ∧ P.any badB = false ∧ (w.any fun x => !okN x.toNat) = false ∧
      ((i ≤ L.length ∧ P ++ splA w (L.drop i) = spl L) ∨ (i = L.length + 1 ∧ P = spl L))) _ (fun p => L.length + 1 - p.2.2.toNat) ⟨0, [], [], rfl, by simp, by simp, rfl, rfl, .inl ⟨by omega, rfl⟩⟩ (by simp only; omega) ?_
    rintro _ ⟨i, P, w, rfl, h1, h2, h3, h4, h5⟩
    unfold X.cartridgeref1_PathParts_s11
    simp only
    rcases h5 with ⟨hi, h5⟩ | ⟨hi, h5⟩
    · rw [if_pos (by simpa using hi)]
      have hi' : i ≤ 24 := by omega
      -- what is done at a sign, or at the end
      have atEnd : ∀ r, L.drop i = [] ∨ L.drop i = 47 :: r → (L.drop i = [] → i = L.length) →
        (∃ s', (if (((w == []) || (w == [46])) || (w == [46, 46])) = true then some (.inr (.inr ([] : (List Str)))) else
          (need (((P.map Str.mk).length + ([Str.mk w] : List Str).length) * 16 ≤ 140737488355328)).bind fun u32 => X.cartridgeref1_PathParts_j21 (i : Int) (P.map Str.mk ++ ([Str.mk w] : List Str)) (Str.mk [])) = some (Sum.inl s') ∧
          (∃ (i : Nat) (P : List (List UInt8)) (w : List UInt8), s' = (P.map Str.mk, Str.mk w, (i : Int)) ∧ P.length ≤ i ∧ w.length ≤ i ∧ P.any badB = false ∧ (w.any fun x => !okN x.toNat) = false ∧
            ((i ≤ L.length ∧ P ++ splA w (L.drop i) = spl L) ∨ (i = L.length + 1 ∧ P = spl L))) ∧ L.length + 1 - s'.2.2.toNat < L.length + 1 - (i : Int).toNat) ∨
        (∃ r, (if (((w == []) || (w == [46])) || (w == [46, 46])) = true then some (.inr (.inr ([] : (List Str)))) else
          (need (((P.map Str.mk).length + ([Str.mk w] : List Str).length) * 16 ≤ 140737488355328)).bind fun u32 => X.cartridgeref1_PathParts_j21 (i : Int) (P.map Str.mk ++ ([Str.mk w] : List Str)) (Str.mk [])) = some (Sum.inr r) ∧
          ((pathB L = true ∧ r = .inl ((spl L).map Str.mk)) ∨ (pathB L = false ∧ r = .inr []))) := by
        intro r hr hend
        have hcut : ∃ T, splA w (L.drop i) = w :: T ∧ (L.drop i = 47 :: r → T = splA [] (L.drop (i + 1))) ∧ (L.drop i = [] → T = []) := by
          rcases hr with hr | hr
          · rw [hr]; exact ⟨[], rfl, fun h => by simp at h, fun _ => rfl⟩
          · refine ⟨splA [] r, by rw [hr]; simp [splA], fun _ => ?_, fun h => by rw [hr] at h; cases h⟩
            rw [← List.drop_drop, hr]; rfl
        obtain ⟨T, hT, hT1, hT2⟩ := hcut
        rw [hT] at h5
        by_cases hb : (((w == []) || (w == [46])) || (w == [46, 46])) = true
        · right
          rw [if_pos hb]
          refine ⟨_, rfl, .inr ⟨?_, rfl⟩⟩
          have hbad : badB w = true := by rw [bad_w h4]; exact hb
          unfold pathB
          rw [← h5, List.any_append, List.any_cons, hbad]
          simp
        · left
          rw [if_neg hb, need_is (by simp; omega), bd_s]
          unfold X.cartridgeref1_PathParts_j21
          rw [wr_succ (by omega)]
          have hbad : badB w = false := by rw [bad_w h4]; simpa using hb
          refine ⟨_, rfl, ⟨i + 1, P ++ [w], [], by simp, by simp; omega, by simp, by rw [List.any_append, h3]; simp [hbad], rfl, ?_⟩, by simp only; omega⟩
          rcases hr with hr | hr
          · right
            have := hend hr
            refine ⟨by omega, ?_⟩
            rw [← h5, hT2 hr]
          · left
            have hlt : i < L.length := by
              rcases Nat.lt_or_ge i L.length with h | h
              · exact h
              · rw [List.drop_of_length_le h] at hr; cases hr
            refine ⟨by omega, ?_⟩
            rw [← h5, ← hT1 hr]; simp
      rcases Nat.lt_or_ge i L.length with hlt | hge
      · have hne : ((i : Int) == (L.length : Int)) = false := by simp; omega
        rw [hne]
        simp only [Bool.not_false, optG_true, Bool.false_or]
        rw [getI_nat hlt, bd_s]
        have hd : L.drop i = L[i] :: L.drop (i + 1) := List.drop_eq_getElem_cons hlt
        by_cases h47 : L[i] = 47
        · rw [if_pos (by simp [h47])]
          exact atEnd (L.drop (i + 1)) (.inr (by rw [hd, h47])) (fun h => by rw [hd] at h; cases h)
        · rw [if_neg (by simp [h47]), bd_s, ok8]
          have hs : splA w (L.drop i) = splA (w ++ [L[i]]) (L.drop (i + 1)) := by rw [hd, splA, if_neg h47]
          cases hk : okN (L[i]).toNat
          · right
            rw [if_pos (by simp)]
            refine ⟨_, rfl, .inr ⟨?_, rfl⟩⟩
            have := bad_acc (L.drop (i + 1)) (w ++ [L[i]]) (by simp [hk])
            unfold pathB
            rw [← h5, hs, List.any_append, this]
            simp
          · left
            rw [if_neg (by simp), wr_succ (by omega), need_is (by omega), bd_s, slc_one L i hlt, need_is (by simp; omega), bd_s]
            unfold X.cartridgeref1_PathParts_j21
            rw [wr_succ (by omega)]
            refine ⟨_, rfl, ⟨i + 1, P, w ++ [L[i]], rfl, by omega, by simp; omega, h3, by rw [List.any_append, h4]; simp [hk], .inl ⟨by omega, by rw [← h5, hs]⟩⟩, by simp only; omega⟩
      · obtain rfl : i = L.length := by omega
        have he : ((L.length : Int) == (L.length : Int)) = true := by simp
        rw [he]
        simp only [Bool.not_true, optG_false, Bool.true_or, bd_s, if_true]
        exact atEnd [] (.inl (by simp)) (fun _ => rfl)
    · right
      rw [if_neg (by simp; omega)]
      refine ⟨_, rfl, .inl ⟨?_, by rw [h5]⟩⟩
      unfold pathB
      rw [← h5, h3, decide_eq_true hn2]; rfl
  obtain ⟨o, h1, h2⟩ := key
  rw [h1, bd_s]
  rcases h2 with ⟨h2, rfl⟩ | ⟨h2, rfl⟩
  · simp only [h2, if_true]; rfl
  · simp [h2]
theorem rp_is (s : Str) : X.cartridgeref1_RightPath s = some (pathB s.l) := by
  unfold X.cartridgeref1_RightPath
  rw [pp_is, bd_s]
  cases h : pathB s.l
  · simp
  · have := spl_pos s.l
    simp [this]
end Go.AX
/- Numbers as four bytes, the highest first. -/
namespace Go.AX
open Go.AM
set_option linter.unusedSimpArgs false
def w4 (n : Nat) : List UInt8 := [UInt8.ofNat (n / 16777216), UInt8.ofNat (n / 65536), UInt8.ofNat (n / 256), UInt8.ofNat n]
def beN (l : List UInt8) : Nat := l.foldl (fun n c => n * 256 + c.toNat) 0
@[simp] theorem w4_len (n : Nat) : (w4 n).length = 4 := rfl
theorem be_w4 {n : Nat} (h : n < 4294967296) : beN (w4 n) = n := by
  simp only [w4, beN, List.foldl_cons, List.foldl_nil, UInt8.toNat_ofNat']
  omega
theorem four {l : List UInt8} (h : l.length = 4) : ∃ a b c d, l = [a, b, c, d] := by
  match l, h with
  | [a, b, c, d], _ => exact ⟨a, b, c, d, rfl⟩
theorem w4_be {l : List UInt8} (h : l.length = 4) : w4 (beN l) = l := by
  obtain ⟨a, b, c, d, rfl⟩ := four h
  have ha := a.toNat_lt
  have hb := b.toNat_lt
  have hc := c.toNat_lt
  have hd := d.toNat_lt
  have e : beN [a, b, c, d] = ((a.toNat * 256 + b.toNat) * 256 + c.toNat) * 256 + d.toNat := by simp [beN]
  have o : ∀ (x : UInt8) (m : Nat), m % 256 = x.toNat → UInt8.ofNat m = x := fun x m hm => by
    apply UInt8.toNat_inj.1
    rw [UInt8.toNat_ofNat', ← hm]
  rw [e]
  unfold w4
  rw [o a _ (by omega), o b _ (by omega), o c _ (by omega), o d _ (by omega)]
theorem be_succ {l : List UInt8} {i : Nat} (h : i < l.length) : beN (l.take (i + 1)) = beN (l.take i) * 256 + (l[i]).toNat := by
  rw [List.take_succ_eq_append_getElem h]
  unfold beN
  rw [List.foldl_append]; rfl
theorem be_pow : ∀ (i : Nat) (l : List UInt8), i ≤ l.length → beN (l.take i) < 256 ^ i
  | 0, l, _ => by simp [beN]
  | i + 1, l, h => by
    rw [be_succ (by omega), Nat.pow_succ]
    have h1 := be_pow i l (by omega)
    have h2 := (l[i]'(by omega)).toNat_lt
    have h3 : (beN (l.take i) + 1) * 256 ≤ 256 ^ i * 256 := Nat.mul_le_mul_right _ h1
    omega
theorem or_add {n c : Nat} (h : c < 256) : n * 256 ||| c = n * 256 + c := by
  have := Nat.shiftLeft_add_eq_or_of_lt (i := 8) (b := c) (by omega) n
  rw [Nat.shiftLeft_eq] at this
  exact this.symm
def tkA (n : Nat) : Option (List UInt8) → List UInt8 × Option (List UInt8)
  | none => ([], none)
  | some b => if n ≤ b.length then (b.take n, some (b.drop n)) else ([], none)
theorem tkA_none (n : Nat) : tkA n none = ([], none) := rfl
theorem tkA_some (n : Nat) (b : List UInt8) : tkA n (some b) = if n ≤ b.length then (b.take n, some (b.drop n)) else ([], none) := rfl
def byA (s : Option (List UInt8)) : UInt8 × Option (List UInt8) := ((tkA 1 s).1.headD 0, (tkA 1 s).2)
def inA (s : Option (List UInt8)) : Int × Option (List UInt8) := (((beN (tkA 4 s).1 : Nat) : Int), (tkA 4 s).2)
def teA (s : Option (List UInt8)) : List UInt8 × Option (List UInt8) := tkA (byA s).1.toNat (byA s).2
theorem tk_len (n : Nat) (s : Option (List UInt8)) : (tkA n s).1.length = 0 ∨ (tkA n s).1.length = n := by
  cases s with
  | none => exact .inl rfl
  | some b =>
    rw [tkA_some]
    by_cases h : n ≤ b.length
    · rw [if_pos h]; right; simp; omega
    · rw [if_neg h]; exact .inl rfl
theorem tk_app {a X : List UInt8} : tkA a.length (some (a ++ X)) = (a, some X) := by
  rw [tkA_some, if_pos (by simp)]
  simp
theorem by_app {c : UInt8} {X : List UInt8} : byA (some (c :: X)) = (c, some X) := by
  have : tkA 1 (some (c :: X)) = ([c], some X) := tk_app (a := [c]) (X := X)
  unfold byA
  rw [this]; rfl
theorem in_app {n : Nat} {X : List UInt8} (h : n < 4294967296) : inA (some (w4 n ++ X)) = ((n : Int), some X) := by
  have : tkA 4 (some (w4 n ++ X)) = (w4 n, some X) := tk_app (a := w4 n) (X := X)
  unfold inA
  rw [this, be_w4 h]
theorem te_app {a X : List UInt8} (h : a.length < 256) : teA (some (UInt8.ofNat a.length :: (a ++ X))) = (a, some X) := by
  unfold teA
  rw [by_app]
  simp only [UInt8.toNat_ofNat']
  rw [Nat.mod_eq_of_lt (by omega)]
  exact tk_app
end Go.AX
/- The program's reader. -/
namespace Go.AX
open Go.AM
set_option linter.unusedSimpArgs false
def conC : Option (List UInt8) → List UInt8 × Bool
  | none => ([], true)
  | some b => (b, false)
theorem c_take (n : Nat) (s : Option (List UInt8)) : X.code_Reader_take (n : Int) (conC s).1 (conC s).2 = some ((tkA n s).1, conC (tkA n s).2) := by
  cases s with
  | none => rfl
  | some b =>
    show X.code_Reader_take (n : Int) b false = _
    unfold X.code_Reader_take
    rw [if_neg (by simp)]
    by_cases h : n ≤ b.length
    · rw [if_neg (by simp; omega), need_is (by omega), bd_s, need_is (by omega), bd_s, tkA_some, if_pos h]
      have h1 : slc b (0 : Int) (n : Int) = b.take n := by simp [slc]
      have h2 : slc b (n : Int) (b.length : Int) = b.drop n := by
        unfold slc
        rw [Int.toNat_natCast, List.take_of_length_le (by simp)]
      rw [h1, h2]
      rfl
    · rw [if_pos (by simp; omega), tkA_some, if_neg h]
      rfl
theorem c_byte (s : Option (List UInt8)) : X.code_Reader_Byte (conC s).1 (conC s).2 = some ((byA s).1, conC (byA s).2) := by
  unfold X.code_Reader_Byte
  have := c_take 1 s
  rw [show (1 : Int) = ((1 : Nat) : Int) from rfl, this, bd_s]
  unfold byA
  cases h : (tkA 1 s).1 with
  | nil => rfl
  | cons c l =>
    rw [if_neg (by simp; omega)]
    rfl
theorem c_text (s : Option (List UInt8)) : X.code_Reader_Text (conC s).1 (conC s).2 = some (Str.mk (teA s).1, conC (teA s).2) := by
  unfold X.code_Reader_Text
  rw [c_byte, bd_s]
  simp only
  rw [c_take, bd_s]
  rfl
theorem c_int (s : Option (List UInt8)) : X.code_Reader_Int (conC s).1 (conC s).2 = some ((inA s).1, conC (inA s).2) := by
  unfold X.code_Reader_Int
  have := c_take 4 s
  rw [show (4 : Int) = ((4 : Nat) : Int) from rfl, this, bd_s]
  have hl : (tkA 4 s).1.length ≤ 4 := by rcases tk_len 4 s with h | h <;> omega
  generalize hx : (tkA 4 s).1 = x at hl
  obtain ⟨n, h1, h2⟩ := run_ix0 (f := X.code_Reader_Int_s10 (x, conC (tkA 4 s).2)) (s0 := (0 : UInt32)) (n := x.length) (fun i n => n.toNat = beN (x.take i)) (fun n => n.toNat = beN x) (by omega) rfl
    (fun i n hi hI => by
      left
      unfold X.code_Reader_Int_s10
      simp only
      rw [if_pos (by simpa using hi), getI_nat hi, bd_s, wr_succ (by omega)]
      refine ⟨_, rfl, ?_⟩
      have hp := be_pow i x (by omega)
      have hi3 : i ≤ 3 := by omega
      have hq : 256 ^ i ≤ 256 ^ 3 := Nat.pow_le_pow_right (by omega) hi3
      have hc := (x[i]).toNat_lt
      rw [be_succ hi, UInt32.toNat_or]
      have e1 : (shl32 n 8).toNat = beN (x.take i) * 256 := by
        unfold shl32
        rw [UInt32.toNat_ofNat', hI]
        omega
      have e2 : (u32 ((x[i]).toNat : Int)).toNat = (x[i]).toNat := by
        unfold u32
        rw [UInt32.toNat_ofNat']
        omega
      rw [e1, e2, or_add hc])
    (fun n hI => by
      unfold X.code_Reader_Int_s10
      simp only
      rw [if_neg (by simp)]
      exact ⟨_, rfl, by simpa using hI⟩)
  rw [h1, bd_s]
  unfold X.code_Reader_Int_e10 inA
  rw [hx]
  simp only [h2]
theorem c_new (b : List UInt8) (h : b.length ≤ 100000) : X.code_NewReader b = some (conC (some b)) := by
  unfold X.code_NewReader X.slices_Clone_Lbyte_byte
  rw [nilU_same (r := b) (fun e => by subst e; rfl) (by simp only [Bool.false_eq_true, if_false]; rw [need_is (by omega), bd_s]), bd_s]
  rfl
end Go.AX
/- Which heads may be, their bytes, and what is read of bytes. -/
namespace Go.AX
open Go.AM
set_option linter.unusedSimpArgs false
theorem optG_b (g a : Bool) : optG g (some a) = some (g && a) := by cases g <;> rfl
def RH (h : Head_api) : Prop := pathB h.Path.l = true ∧ (1 ≤ h.Version ∧ h.Version ≤ 1073741824) ∧ (1 ≤ h.Serial ∧ h.Serial ≤ 1073741824) ∧ (0 ≤ h.Size ∧ h.Size ≤ 4000) ∧ (0 ≤ h.Sum ∧ h.Sum ≤ 4294967295) ∧
  (0 ≤ h.From ∧ h.From ≤ h.Size) ∧ (0 ≤ h.Len ∧ h.Len ≤ h.Size - h.From) ∧ ¬ (h.Len = 0 ∧ 0 < h.Size) ∧ (h.Gone = false ∨ (h.Size = 0 ∧ h.Sum = 0))
instance (h : Head_api) : Decidable (RH h) := by unfold RH; infer_instance
theorem x_right (h : Head_api) : X.record_RightHead h = some (decide (RH h)) := by
  unfold X.record_RightHead X.record_within
  rw [right_is, bd_s]
  simp only [optG_b, bd_s]
  cases hp : pathB h.Path.l
  · have : ¬ RH h := fun hR => by have := hR.1; rw [hp] at this; cases this
    simp [this]
  by_cases h1 : (1 ≤ h.Version ∧ h.Version ≤ 1073741824) ∧ (1 ≤ h.Serial ∧ h.Serial ≤ 1073741824) ∧ (0 ≤ h.Size ∧ h.Size ≤ 4000) ∧ (0 ≤ h.Sum ∧ h.Sum ≤ 4294967295)
  · obtain ⟨⟨a1, a2⟩, ⟨a3, a4⟩, ⟨a5, a6⟩, a7, a8⟩ := h1
    rw [if_neg (by simp [a1, a2, a3, a4, a5, a6, a7, a8])]
    by_cases h2 : (0 ≤ h.From ∧ h.From ≤ h.Size) ∧ (0 ≤ h.Len ∧ h.Len ≤ h.Size - h.From) ∧ ¬ (h.Len = 0 ∧ 0 < h.Size)
    · obtain ⟨⟨b1, b2⟩, ⟨b3, b4⟩, b5⟩ := h2
      rw [wr_eq (by omega) (by omega), if_neg (by simp [b1, b2, b3, b4]; omega)]
      congr 1
      rw [Bool.eq_iff_iff, decide_eq_true_eq]
      unfold RH
      simp only [hp, a1, a2, a3, a4, a5, a6, a7, a8, b1, b2, b3, b4, b5, not_false_eq_true, true_and, and_self]
      simp
    · have hn : ¬ RH h := fun hR => h2 ⟨hR.2.2.2.2.2.1, hR.2.2.2.2.2.2.1, hR.2.2.2.2.2.2.2.1⟩
      rw [decide_eq_false hn, if_pos ?_]
      by_cases b : 0 ≤ h.From ∧ h.From ≤ h.Size
      · rw [wr_eq (by omega) (by omega)]
        simp [b.1, b.2]
        omega
      · simp
        omega
  · have hn : ¬ RH h := fun hR => h1 ⟨hR.2.1, hR.2.2.1, hR.2.2.2.1, hR.2.2.2.2.1⟩
    rw [decide_eq_false hn, if_pos ?_]
    simp
    omega
theorem u8_m (m : Nat) : u8 (m : Int) = UInt8.ofNat m := by
  apply UInt8.toNat_inj.1
  unfold u8
  rw [UInt8.toNat_ofNat', UInt8.toNat_ofNat']
  omega
theorem c_wint {n : Int} {b : List UInt8} (h0 : 0 ≤ n) (h1 : n < 4294967296) (hb : b.length ≤ 100000) : X.code_Writer_Int n b = some (b ++ w4 n.toNat) := by
  unfold X.code_Writer_Int
  rw [need_is (by simp only [List.length_cons, List.length_nil]; omega), bd_s]
  have e : (u32 n).toNat = n.toNat := by
    unfold u32
    rw [UInt32.toNat_ofNat']
    omega
  have s : ∀ k, (shr32 (u32 n) k).toNat = n.toNat / 2 ^ k := fun k => by
    unfold shr32
    rw [UInt32.toNat_ofNat', e]
    exact Nat.mod_eq_of_lt (Nat.lt_of_le_of_lt (Nat.div_le_self _ _) (by omega))
  rw [s, s, s, e]
  simp only [u8_m]
  rfl
theorem c_wbyte {c : UInt8} {b : List UInt8} (hb : b.length ≤ 100000) : X.code_Writer_Byte c b = some (b ++ [c]) := by
  unfold X.code_Writer_Byte
  rw [need_is (by simp only [List.length_cons, List.length_nil]; omega), bd_s]
theorem c_bytes {b : List UInt8} (hb : b.length ≤ 100000) : X.code_Writer_Bytes b = some b := by
  unfold X.code_Writer_Bytes X.slices_Clone_Lbyte_byte_own
  rw [nilU_same (r := b) (fun e => by subst e; rfl) (by simp only [Bool.false_eq_true, if_false]; rw [need_is (by omega), bd_s]), bd_s]
theorem c_wtext {s : Str} (h : s.l.length ≤ 255) : X.code_Writer_Text s [] = some (UInt8.ofNat s.l.length :: s.l) := by
  unfold X.code_Writer_Text
  have e : min (s.l.length : Int) (255 : Int) = (s.l.length : Int) := by omega
  rw [e, slc_all, need_is (by omega), bd_s]
  simp only [u8_m]
  rw [need_is (by simp), bd_s, need_is (by simp; omega), bd_s]
  rfl
def encH (h : Head_api) : List UInt8 := UInt8.ofNat h.Path.l.length :: (h.Path.l ++ (w4 h.Version.toNat ++ (w4 h.Size.toNat ++ (w4 h.From.toNat ++ (w4 h.Len.toNat ++ (w4 h.Serial.toNat ++ (w4 h.Sum.toNat ++ [if h.Gone then 1 else 0])))))))
theorem x_bytes (h : Head_api) : X.record_HeadBytes h = some (if RH h then encH h else []) := by
  unfold X.record_HeadBytes
  rw [x_right, bd_s]
  by_cases hR : RH h
  · rw [decide_eq_true hR, if_neg (by simp), if_pos hR]
    obtain ⟨p1, ⟨a1, a2⟩, ⟨a3, a4⟩, ⟨a5, a6⟩, ⟨a7, a8⟩, ⟨b1, b2⟩, ⟨b3, b4⟩, _, _⟩ := hR
    have pl := right_len p1
    rw [c_wtext (by omega), bd_s]
    have hall : ∀ n ∈ ([h.Version, h.Size, h.From, h.Len, h.Serial, h.Sum] : List Int), 0 ≤ n ∧ n < 4294967296 := by
      intro n hn
      simp only [List.mem_cons, List.not_mem_nil, or_false] at hn
      rcases hn with rfl | rfl | rfl | rfl | rfl | rfl <;> omega
    have key : run (X.record_HeadBytes_s16 h) (UInt8.ofNat h.Path.l.length :: h.Path.l, (0 : Int)) = some ((UInt8.ofNat h.Path.l.length :: h.Path.l) ++ ([h.Version, h.Size, h.From, h.Len, h.Serial, h.Sum] : List Int).flatMap fun n => w4 n.toNat) := by
      generalize hL : ([h.Version, h.Size, h.From, h.Len, h.Serial, h.Sum] : List Int) = L at hall
      have hlen : L.length = 6 := by rw [← hL]; rfl
      refine run_G0 (n := L.length) (fun i => (UInt8.ofNat h.Path.l.length :: h.Path.l) ++ (L.take i).flatMap fun n => w4 n.toNat) (by omega) (by simp) ?_ ?_
      · intro i hi
        unfold X.record_HeadBytes_s16
        simp only [hL]
        obtain ⟨q1, q2⟩ := hall _ (List.getElem_mem hi)
        have hfl : ((L.take i).flatMap fun n => w4 n.toNat).length = 4 * i := by
          rw [List.length_flatMap]
          simp only [w4_len]
          rw [List.map_const', List.sum_replicate_nat, List.length_take]
          omega
        rw [if_pos (by simpa using hi), getI_nat hi, bd_s, c_wint q1 q2 (by simp only [List.length_append, List.length_cons, hfl]; omega), bd_s, wr_succ (by omega)]
        rw [List.take_succ_eq_append_getElem hi, List.flatMap_append]
        simp
      · unfold X.record_HeadBytes_s16
        simp only [hL]
        rw [if_neg (by simp), List.take_length]
    rw [key, bd_s]
    simp only
    unfold X.record_HeadBytes_e16 X.record_HeadBytes_j25
    have e : ∀ c : UInt8, (UInt8.ofNat h.Path.l.length :: h.Path.l) ++ (([h.Version, h.Size, h.From, h.Len, h.Serial, h.Sum] : List Int).flatMap fun n => w4 n.toNat) ++ [c] =
        UInt8.ofNat h.Path.l.length :: (h.Path.l ++ (w4 h.Version.toNat ++ (w4 h.Size.toNat ++ (w4 h.From.toNat ++ (w4 h.Len.toNat ++ (w4 h.Serial.toNat ++ (w4 h.Sum.toNat ++ [c]))))))) := by
      intro c; simp
    unfold encH
    cases hg : h.Gone
    · rw [if_neg (by simp), c_wbyte (by simp; omega), bd_s, e, c_bytes (by simp; omega), bd_s]; rfl
    · rw [if_pos rfl, c_wbyte (by simp; omega), bd_s, e, c_bytes (by simp; omega), bd_s]; rfl
  · rw [decide_eq_false hR, if_pos (by simp), if_neg hR]
theorem x_equal {a b : List UInt8} (ha : a.length ≤ 1000000) : X.slices_Equal_Lbyte_byte a b = some (a == b) := by
  unfold X.slices_Equal_Lbyte_byte
  by_cases hl : a.length = b.length
  · rw [if_neg (by simp [hl])]
    obtain ⟨o, h1, h2⟩ := run_se (f := X.slices_Equal_Lbyte_byte_s9 a b) (a := 0) (n := a.length) (fun o => (o = .inl () ∧ a = b) ∨ (o = .inr false ∧ a ≠ b)) (fun i => a.take i = b.take i) (Nat.zero_le _) (by omega) (by simp)
      (fun i _ hi hI => by
        unfold X.slices_Equal_Lbyte_byte_s9
        simp only
        rw [if_pos (by simpa using hi), getI_nat hi, bd_s, getI_nat (by omega), bd_s]
        by_cases e : a[i] = b[i]'(by omega)
        · left
          rw [if_neg (by simp [e]), wr_succ (by omega)]
          exact ⟨rfl, by rw [List.take_succ_eq_append_getElem hi, List.take_succ_eq_append_getElem (by omega), hI, e]⟩
        · right
          rw [if_pos (by simp [e])]
          exact ⟨_, rfl, .inr ⟨rfl, fun h => e (by subst h; rfl)⟩⟩)
      (fun hI => by
        unfold X.slices_Equal_Lbyte_byte_s9
        simp only
        rw [if_neg (by simp)]
        refine ⟨_, rfl, .inl ⟨rfl, ?_⟩⟩
        rw [List.take_length, hl, List.take_length] at hI
        exact hI)
    have h1' : run (X.slices_Equal_Lbyte_byte_s9 a b) (0 : Int) = some o := h1
    rw [h1', bd_s]
    rcases h2 with ⟨rfl, rfl⟩ | ⟨rfl, h3⟩
    · simp only [beq_self_eq_true]; rfl
    · simp only [beq_eq_false_iff_ne.2 h3]
  · rw [if_pos (by simp; omega), beq_eq_false_iff_ne.2 (fun e => hl (by rw [e]))]
/-- What is read of bytes. -/
def pH (b : List UInt8) : Head_api × Option (List UInt8) :=
  let p := teA (some b); let v := inA p.2; let z := inA v.2; let f := inA z.2; let l := inA f.2; let e := inA l.2; let m := inA e.2; let g := byA m.2
  (⟨⟨p.1⟩, v.1, z.1, f.1, l.1, e.1, m.1, g.1 == 1⟩, g.2)
def zeroH : Head_api := ⟨⟨[]⟩, 0, 0, 0, 0, 0, 0, false⟩
def readH (b : List UInt8) : Head_api × Int := if RH (pH b).1 ∧ encH (pH b).1 = b then ((pH b).1, 0) else (zeroH, 2)
theorem pH_enc {h : Head_api} (hR : RH h) (X : List UInt8) : pH (encH h ++ X) = (h, some X) := by
  obtain ⟨p1, ⟨a1, a2⟩, ⟨a3, a4⟩, ⟨a5, a6⟩, ⟨a7, a8⟩, ⟨b1, b2⟩, ⟨b3, b4⟩, _, _⟩ := hR
  have pl := right_len p1
  have e : encH h ++ X = UInt8.ofNat h.Path.l.length :: (h.Path.l ++ (w4 h.Version.toNat ++ (w4 h.Size.toNat ++ (w4 h.From.toNat ++ (w4 h.Len.toNat ++ (w4 h.Serial.toNat ++ (w4 h.Sum.toNat ++ ((if h.Gone then 1 else 0) :: X)))))))) := by simp [encH]
  unfold pH
  rw [e, te_app (by omega)]
  simp only [in_app (n := h.Version.toNat) (by omega), in_app (n := h.Size.toNat) (by omega), in_app (n := h.From.toNat) (by omega), in_app (n := h.Len.toNat) (by omega), in_app (n := h.Serial.toNat) (by omega), in_app (n := h.Sum.toNat) (by omega), by_app]
  obtain ⟨⟨path⟩, v, z, f, l, s, m, g⟩ := h
  simp only at a1 a3 a5 a7 b1 b3 ⊢
  rw [Int.toNat_of_nonneg (by omega), Int.toNat_of_nonneg a5, Int.toNat_of_nonneg b1, Int.toNat_of_nonneg b3, Int.toNat_of_nonneg (by omega), Int.toNat_of_nonneg a7]
  cases g <;> rfl
theorem readH_enc {h : Head_api} (hR : RH h) : readH (encH h) = (h, 0) := by
  have := pH_enc hR []
  rw [List.append_nil] at this
  unfold readH
  rw [this]
  simp [hR]
theorem x_read (b : List UInt8) (hb : b.length ≤ 100000) : X.record_ReadHead b = some (readH b) := by
  unfold X.record_ReadHead X.code_Reader_Bad
  rw [c_new b hb, bd_s, c_text, bd_s]
  simp only [c_int, c_byte, bd_s]
  generalize hs : byA (inA (inA (inA (inA (inA (inA (teA (some b)).2).2).2).2).2).2).2 = g
  have hpH : pH b = (⟨⟨(teA (some b)).1⟩, (inA (teA (some b)).2).1, (inA (inA (teA (some b)).2).2).1, (inA (inA (inA (teA (some b)).2).2).2).1, (inA (inA (inA (inA (teA (some b)).2).2).2).2).1, (inA (inA (inA (inA (inA (teA (some b)).2).2).2).2).2).1, (inA (inA (inA (inA (inA (inA (teA (some b)).2).2).2).2).2).2).1, g.1 == 1⟩, g.2) := by
    rw [← hs]; rfl
  generalize hh : (⟨⟨(teA (some b)).1⟩, (inA (teA (some b)).2).1, (inA (inA (teA (some b)).2).2).1, (inA (inA (inA (teA (some b)).2).2).2).1, (inA (inA (inA (inA (teA (some b)).2).2).2).2).1, (inA (inA (inA (inA (inA (teA (some b)).2).2).2).2).2).1, (inA (inA (inA (inA (inA (inA (teA (some b)).2).2).2).2).2).2).1, g.1 == 1⟩ : Head_api) = h at hpH
  unfold readH
  rw [hpH]
  simp only [x_right, x_bytes]
  by_cases hR : RH h
  · rw [decide_eq_true hR, if_pos hR]
    by_cases hE : encH h = b
    · have hg : g.2 = some [] := by
        have := pH_enc hR []
        rw [List.append_nil, hE, hpH] at this
        exact (Prod.mk.inj this).2
      rw [hg, if_pos ⟨hR, hE⟩]
      simp only [conC, Bool.not_false, optG_true, bd_s, Bool.not_true, Bool.or_self, Bool.false_or]
      rw [x_equal (by omega), bd_s, hE]
      simp
    · rw [if_neg (fun h => hE h.2)]
      cases hc : (conC g.2).2
      · simp only [Bool.not_false, optG_true, bd_s, Bool.not_true, Bool.or_self, Bool.false_or]
        rw [x_equal (by omega), bd_s, beq_eq_false_iff_ne.2 (fun e => hE e.symm)]
        rfl
      · rfl
  · have e2 : (if RH h ∧ encH h = b then (h, (0 : Int)) else (zeroH, 2)) = (zeroH, 2) := if_neg fun h => hR h.1
    rw [decide_eq_false hR, if_neg hR, e2]
    cases hc : (conC g.2).2 <;> rfl
end Go.AX
/- Which seals may be, their bytes, and what is read of bytes. -/
namespace Go.AX
open Go.AM
set_option linter.unusedSimpArgs false
def goodL (L : List Int) : Prop := (∀ x ∈ L, 1 ≤ x ∧ x ≤ 2147483647) ∧ L.Nodup
instance (L : List Int) : Decidable (goodL L) := by unfold goodL; infer_instance
theorem u8_i {n : Int} (h : 0 ≤ n) : u8 n = UInt8.ofNat n.toNat := by
  have := u8_m n.toNat
  rwa [Int.toNat_of_nonneg h] at this
theorem in_inv {b X : List UInt8} (h : (inA (some b)).2 = some X) : b = w4 (inA (some b)).1.toNat ++ X := by
  unfold inA at h ⊢
  rw [tkA_some] at h ⊢
  by_cases hl : 4 ≤ b.length
  · rw [if_pos hl] at h ⊢
    simp only [Option.some.injEq] at h
    subst h
    simp only [Int.toNat_natCast]
    rw [w4_be (by simp; omega), List.take_append_drop]
  · rw [if_neg hl] at h; cases h
theorem by_inv {b X : List UInt8} (h : (byA (some b)).2 = some X) : b = (byA (some b)).1 :: X := by
  unfold byA at h ⊢
  rw [tkA_some] at h ⊢
  by_cases hl : 1 ≤ b.length
  · rw [if_pos hl] at h ⊢
    simp only [Option.some.injEq] at h
    subst h
    cases b with
    | nil => simp at hl
    | cons c l => rfl
  · rw [if_neg hl] at h; cases h
theorem small {n : Int} (h0 : 0 ≤ n) (h1 : n < 256) : ((UInt8.ofNat n.toNat).toNat : Int) = n := by
  rw [UInt8.toNat_ofNat']
  omega
end Go.AX
/- Which seals may be: the document's answer. -/
namespace Go.AX
open Go.AM
set_option linter.unusedSimpArgs false
end Go.AX
/- The document's reader. -/
namespace Go.AX
open Go.AM
set_option linter.unusedSimpArgs false
def ab (b : List UInt8) (bad : Bool) : Option (List UInt8) := if bad = true then none else some b
theorem r_take (n : Nat) (b : List UInt8) (bad : Bool) : ∃ q : List UInt8 × Bool, X.cartridgeref1_Reader_take (n : Int) b bad = some ((tkA n (ab b bad)).1, q) ∧ ab q.1 q.2 = (tkA n (ab b bad)).2 := by
  unfold X.cartridgeref1_Reader_take
  cases bad
  · show ∃ q : List UInt8 × Bool, _ = some ((tkA n (some b)).1, q) ∧ ab q.1 q.2 = (tkA n (some b)).2
    by_cases h : n ≤ b.length
    · rw [if_neg (by simp; omega), need_is (by omega), bd_s, need_is (by omega), bd_s, tkA_some, if_pos h]
      have h1 : slc b (0 : Int) (n : Int) = b.take n := by simp [slc]
      have h2 : slc b (n : Int) (b.length : Int) = b.drop n := by
        unfold slc
        rw [Int.toNat_natCast, List.take_of_length_le (by simp)]
      rw [h1, h2]
      exact ⟨_, rfl, rfl⟩
    · rw [if_pos (by simp; omega), tkA_some, if_neg h]
      exact ⟨_, rfl, rfl⟩
  · exact ⟨_, rfl, rfl⟩
theorem r_byte (b : List UInt8) (bad : Bool) : ∃ q : List UInt8 × Bool, X.cartridgeref1_Reader_Byte b bad = some ((byA (ab b bad)).1, q) ∧ ab q.1 q.2 = (byA (ab b bad)).2 := by
  unfold X.cartridgeref1_Reader_Byte
  obtain ⟨q, h1, h2⟩ := r_take 1 b bad
  rw [show (1 : Int) = ((1 : Nat) : Int) from rfl, h1, bd_s]
  refine ⟨q, ?_, h2⟩
  unfold byA
  cases h : (tkA 1 (ab b bad)).1 with
  | nil => rfl
  | cons c l =>
    rw [if_neg (by simp; omega)]
    rfl
theorem or64_nat {a c : Nat} (ha : a < 16777216) (hc : c < 256) : or64 (shl64 (a : Int) (((8 : UInt64).toNat : Nat) : Int)) (c : Int) = ((a * 256 + c : Nat) : Int) := by
  have e : shl64 (a : Int) (((8 : UInt64).toNat : Nat) : Int) = ((a * 256 : Nat) : Int) := by
    unfold shl64
    have : min (((8 : UInt64).toNat : Nat) : Int).toNat 64 = 8 := by decide
    rw [this]
    have h := wr_eq (x := (a : Int) * 2 ^ 8) (by omega) (by omega)
    unfold wr at h
    rw [h]
    omega
  rw [e]
  unfold or64 bitsI
  have hb : ∀ n : Nat, n < 18446744073709551616 → (BitVec.ofInt IntKind.i64.bits (n : Int)).toNat = n := by
    intro n hn
    show (BitVec.ofInt 64 (n : Int)).toNat = n
    simp
    omega
  simp only
  rw [BitVec.toNat_or, hb _ (by omega), hb _ (by omega), or_add hc]
  exact wr_eq (by omega) (by omega)
theorem r_int (b : List UInt8) (bad : Bool) : ∃ q : List UInt8 × Bool, X.cartridgeref1_Reader_Int b bad = some ((inA (ab b bad)).1, q) ∧ ab q.1 q.2 = (inA (ab b bad)).2 := by
  unfold X.cartridgeref1_Reader_Int
  obtain ⟨q, h1, h2⟩ := r_take 4 b bad
  rw [show (4 : Int) = ((4 : Nat) : Int) from rfl, h1, bd_s]
  have hl : (tkA 4 (ab b bad)).1.length ≤ 4 := by rcases tk_len 4 (ab b bad) with h | h <;> omega
  refine ⟨q, ?_, h2⟩
  unfold inA
  generalize hx : (tkA 4 (ab b bad)).1 = x at hl
  have key : run (X.cartridgeref1_Reader_Int_s11 (x, q)) ((0 : Int), (0 : Int)) = some ((beN x : Nat) : Int) := by
    refine run_G0 (n := x.length) (fun i => ((beN (x.take i) : Nat) : Int)) (by omega) rfl ?_ ?_
    · intro i hi
      unfold X.cartridgeref1_Reader_Int_s11
      simp only
      rw [if_pos (by simpa using hi), getI_nat hi, bd_s, wr_succ (by omega)]
      have hp := be_pow i x (by omega)
      have hq : 256 ^ i ≤ 256 ^ 3 := Nat.pow_le_pow_right (by omega) (by omega)
      rw [or64_nat (by omega) (x[i]).toNat_lt, be_succ hi]
    · unfold X.cartridgeref1_Reader_Int_s11
      simp only
      rw [if_neg (by simp), List.take_length]
  rw [key, bd_s]
  rfl
end Go.AX
/- The document's writer. -/
namespace Go.AX
open Go.AM
set_option linter.unusedSimpArgs false
theorem y_wint {n : Int} {b : List UInt8} (h0 : 0 ≤ n) (h1 : n < 4294967296) (hb : b.length ≤ 100000) : X.cartridgeref1_Writer_Int n b = some (b ++ w4 n.toNat) := by
  unfold X.cartridgeref1_Writer_Int
  rw [need_is (by simp only [List.length_cons, List.length_nil]; omega), bd_s]
  have e : (u64 n).toNat = n.toNat := by
    unfold u64
    rw [UInt64.toNat_ofNat']
    omega
  have s : ∀ k, (shru64 (u64 n) k).toNat = n.toNat / 2 ^ k := fun k => by
    unfold shru64
    rw [UInt64.toNat_ofNat', e]
    exact Nat.mod_eq_of_lt (Nat.lt_of_le_of_lt (Nat.div_le_self _ _) (by omega))
  have m : ∀ x : UInt64, u8 (((x &&& 255).toNat : Nat) : Int) = UInt8.ofNat x.toNat := fun x => by
    rw [u8_m, UInt64.toNat_and]
    apply UInt8.toNat_inj.1
    rw [UInt8.toNat_ofNat', UInt8.toNat_ofNat']
    have : x.toNat &&& (255 : UInt64).toNat = x.toNat % 256 := Nat.and_two_pow_sub_one_eq_mod x.toNat 8
    rw [this]
    omega
  rw [m, m, m, m, s, s, s, e]
  rfl
theorem y_wbyte {c : UInt8} {b : List UInt8} (hb : b.length ≤ 100000) : X.cartridgeref1_Writer_Byte c b = some (b ++ [c]) := by
  unfold X.cartridgeref1_Writer_Byte
  rw [need_is (by simp only [List.length_cons, List.length_nil]; omega), bd_s]
end Go.AX
/- Which heads may be: the document's answer. -/
namespace Go.AX
open Go.AM
set_option linter.unusedSimpArgs false
theorem y_right (h : Head_api) : X.cartridgeref10_RightHead h = some (decide (RH h)) := by
  unfold X.cartridgeref10_RightHead
  rw [rp_is, bd_s]
  cases hp : pathB h.Path.l
  · have : ¬ RH h := fun hR => by have := hR.1; rw [hp] at this; cases this
    simp [this]
  by_cases h1 : (1 ≤ h.Version ∧ h.Version ≤ 1073741824) ∧ (1 ≤ h.Serial ∧ h.Serial ≤ 1073741824) ∧ (0 ≤ h.Size ∧ h.Size ≤ 4000) ∧ (0 ≤ h.Sum ∧ h.Sum ≤ 4294967295) ∧ (0 ≤ h.From ∧ h.From ≤ h.Size) ∧ (0 ≤ h.Len ∧ h.Len ≤ h.Size - h.From) ∧ ¬ (h.Len = 0 ∧ 0 < h.Size)
  · obtain ⟨⟨a1, a2⟩, ⟨a3, a4⟩, ⟨a5, a6⟩, ⟨a7, a8⟩, ⟨b1, b2⟩, ⟨b3, b4⟩, b5⟩ := h1
    rw [wr_eq (by omega) (by omega), if_neg (by simp; omega)]
    congr 1
    rw [Bool.eq_iff_iff, decide_eq_true_eq]
    unfold RH
    simp only [hp, a1, a2, a3, a4, a5, a6, a7, a8, b1, b2, b3, b4, b5, not_false_eq_true, true_and, and_self]
    simp
    constructor
    · rintro (h | h)
      · exact .inl h
      · right; omega
    · rintro (h | h)
      · exact .inl h
      · right; omega
  · have hn : ¬ RH h := fun hR => h1 ⟨hR.2.1, hR.2.2.1, hR.2.2.2.1, hR.2.2.2.2.1, hR.2.2.2.2.2.1, hR.2.2.2.2.2.2.1, hR.2.2.2.2.2.2.2.1⟩
    rw [decide_eq_false hn, if_pos ?_]
    by_cases b : (0 ≤ h.From ∧ h.From ≤ h.Size) ∧ (0 ≤ h.Size ∧ h.Size ≤ 4000)
    · rw [wr_eq (by omega) (by omega)]
      simp
      omega
    · simp
      omega
end Go.AX
/- The document's heads are the same. -/
namespace Go.AX
open Go.AM
set_option linter.unusedSimpArgs false
theorem y_wtext {s : Str} (h : s.l.length ≤ 255) : X.cartridgeref1_Writer_Text s [] = some (UInt8.ofNat s.l.length :: s.l) := by
  unfold X.cartridgeref1_Writer_Text X.cartridgeref1_Writer_Text_j5
  rw [if_neg (by simp; omega)]
  simp only [u8_m]
  rw [need_is (by simp), bd_s, need_is (by simp; omega), bd_s]
  rfl
theorem y_bytes (h : Head_api) : X.cartridgeref10_HeadBytes h = some (if RH h then encH h else []) := by
  unfold X.cartridgeref10_HeadBytes X.cartridgeref10_HeadBytes_j39
  rw [y_right, bd_s]
  by_cases hR : RH h
  · rw [decide_eq_true hR, if_neg (by simp), if_pos hR]
    obtain ⟨p1, ⟨a1, a2⟩, ⟨a3, a4⟩, ⟨a5, a6⟩, ⟨a7, a8⟩, ⟨b1, b2⟩, ⟨b3, b4⟩, _, _⟩ := hR
    have pl := right_len p1
    rw [y_wtext (by omega), bd_s, y_wint (by omega) (by omega) (by simp; omega), bd_s, y_wint (by omega) (by omega) (by simp; omega), bd_s, y_wint (by omega) (by omega) (by simp; omega), bd_s,
      y_wint (by omega) (by omega) (by simp; omega), bd_s, y_wint (by omega) (by omega) (by simp; omega), bd_s, y_wint (by omega) (by omega) (by simp; omega), bd_s]
    unfold encH
    cases hg : h.Gone
    · rw [if_neg (by simp), y_wbyte (by simp; omega), bd_s]; simp
    · rw [if_pos rfl, y_wbyte (by simp; omega), bd_s]; simp
  · rw [decide_eq_false hR, if_pos (by simp), if_neg hR]
end Go.AX
/- Frames: their bytes, and what is read of bytes. -/
namespace Go.AX
open Go.AM
set_option linter.unusedSimpArgs false
set_option linter.unusedVariables false
def bitC (x : UInt32) : UInt32 := if (x &&& (1 : UInt32)) == (1 : UInt32) then (shr32 x 1) ^^^ (2197175160 : UInt32) else shr32 x 1
def bitsC : Nat → UInt32 → UInt32
  | 0, x => x
  | n + 1, x => bitC (bitsC n x)
def bytC (x : UInt32) (b : UInt8) : UInt32 := bitsC 8 (x ^^^ u32 (b.toNat : Int))
def crc (b : List UInt8) : UInt32 := (b.foldl bytC (4294967295 : UInt32)) ^^^ (4294967295 : UInt32)
theorem fold_succ {b : List UInt8} {i : Nat} (h : i < b.length) (x : UInt32) : (b.take (i + 1)).foldl bytC x = bytC ((b.take i).foldl bytC x) b[i] := by
  rw [List.take_add_one, List.getElem?_eq_getElem h, List.foldl_append]; rfl
theorem xor0 : ((0 : UInt32) ^^^ (4294967295 : UInt32)) = (4294967295 : UInt32) := by decide
theorem c_bits (x : UInt32) : run X.castagnoli_More_s19 (x, (0 : Int)) = some (bitsC 8 x) := by
  refine run_G0 (n := 8) (fun i => bitsC i x) (by omega) rfl (fun i hi => ?_) ?_
  · show X.castagnoli_More_s19 (bitsC i x, (i : Int)) = some (.inl (bitC (bitsC i x), _))
    unfold X.castagnoli_More_s19 bitC
    simp only []
    rw [if_pos (by simp; omega), wr_succ (by omega)]
    split <;> rfl
  · rfl
theorem c_crc {b : List UInt8} (hb : b.length ≤ 1000000) : X.castagnoli_Sum b = some (crc b) := by
  have hr : run (X.castagnoli_More_s7 b) ((4294967295 : UInt32), (0 : Int)) = some (b.foldl bytC (4294967295 : UInt32)) := by
    refine run_G0 (n := b.length) (fun i => (b.take i).foldl bytC (4294967295 : UInt32)) (by omega) rfl (fun i hi => ?_) ?_
    · show X.castagnoli_More_s7 b ((b.take i).foldl bytC (4294967295 : UInt32), (i : Int)) = some (.inl ((b.take (i + 1)).foldl bytC (4294967295 : UInt32), _))
      unfold X.castagnoli_More_s7
      simp only []
      rw [if_pos (by simp; omega), getI_nat hi, bd_s, c_bits, bd_s]
      unfold X.castagnoli_More_e19
      rw [wr_succ (by omega), fold_succ hi]
      rfl
    · unfold X.castagnoli_More_s7
      simp only []
      rw [if_neg (by simp), List.take_length]
  unfold X.castagnoli_Sum X.castagnoli_More
  rw [xor0, hr]
  rfl
theorem y_bits (x : UInt32) : run X.cartridgeref1_More_s18 (x, (0 : Int)) = some (bitsC 8 x) := by
  refine run_G0 (n := 8) (fun i => bitsC i x) (by omega) rfl (fun i hi => ?_) ?_
  · show X.cartridgeref1_More_s18 (bitsC i x, (i : Int)) = some (.inl (bitC (bitsC i x), _))
    unfold X.cartridgeref1_More_s18 bitC X.cartridgeref1_More_j24
    simp only []
    rw [if_pos (by simp; omega), wr_succ (by omega)]
    split <;> rfl
  · rfl
theorem y_crc {b : List UInt8} (hb : b.length ≤ 1000000) : X.cartridgeref1_Crc b = some (crc b) := by
  have hr : run (X.cartridgeref1_More_s7 b) ((4294967295 : UInt32), (0 : Int)) = some (b.foldl bytC (4294967295 : UInt32)) := by
    refine run_G0 (n := b.length) (fun i => (b.take i).foldl bytC (4294967295 : UInt32)) (by omega) rfl (fun i hi => ?_) ?_
    · show X.cartridgeref1_More_s7 b ((b.take i).foldl bytC (4294967295 : UInt32), (i : Int)) = some (.inl ((b.take (i + 1)).foldl bytC (4294967295 : UInt32), _))
      unfold X.cartridgeref1_More_s7
      simp only []
      rw [if_pos (by simp; omega), getI_nat hi, bd_s, y_bits, bd_s]
      unfold X.cartridgeref1_More_e18
      rw [wr_succ (by omega), fold_succ hi]
      rfl
    · unfold X.cartridgeref1_More_s7
      simp only []
      rw [if_neg (by simp), List.take_length]
  unfold X.cartridgeref1_Crc X.cartridgeref1_More
  rw [xor0, hr]
  rfl
def roomN (k : Int) : Nat := if k = 6 then 79 else 64
def OKU (u : Unit_api) : Prop := (1 ≤ u.Kind ∧ u.Kind ≤ 6) ∧ (1 ≤ u.Label ∧ u.Label ≤ 2147483647) ∧ (0 ≤ u.Number ∧ u.Number ≤ 2147483647)
instance (u : Unit_api) : Decidable (OKU u) := by unfold OKU; infer_instance
def bodyF (u : Unit_api) : List UInt8 := (UInt8.ofNat u.Kind.toNat :: (w4 u.Label.toNat ++ (w4 u.Number.toNat ++ (UInt8.ofNat (u.Load.length / 256) :: UInt8.ofNat u.Load.length :: (u.Load ++ List.replicate (roomN u.Kind - u.Load.length) 0)))))
def frameL (u : Unit_api) : List UInt8 := bodyF u ++ w4 (crc (bodyF u)).toNat
theorem room_le (k : Int) : roomN k ≤ 79 := by unfold roomN; split <;> omega
theorem body_len {u : Unit_api} (h : u.Load.length ≤ roomN u.Kind) : (bodyF u).length = 11 + roomN u.Kind := by
  unfold bodyF
  simp only [List.length_cons, List.length_append, w4_len, List.length_replicate]
  omega
theorem frame_len {u : Unit_api} (h : u.Load.length ≤ roomN u.Kind) : (frameL u).length = 15 + roomN u.Kind := by
  unfold frameL
  rw [List.length_append, body_len h, w4_len]; omega
def zeroU : Unit_api := ⟨0, 0, 0, []⟩
def putF (u : Unit_api) : List UInt8 × Int := if OKU u then if u.Load.length ≤ roomN u.Kind then (frameL u, 0) else ([], 4) else ([], 1)
theorem shr8F {n : Nat} (h : n ≤ 1000000) : u8 (shr64 (n : Int) ((8 : UInt64).toNat : Int)) = UInt8.ofNat (n / 256) := by
  have e : shr64 (n : Int) ((8 : UInt64).toNat : Int) = ((n / 256 : Nat) : Int) := by
    unfold shr64
    have : min (((8 : UInt64).toNat : Nat) : Int).toNat 64 = 8 := by decide
    rw [this]
    have h1 : (n : Int).fdiv (2 ^ 8) = ((n / 256 : Nat) : Int) := by rw [Int.fdiv_eq_ediv_of_nonneg _ (by decide)]; omega
    first
      | exact h1
      | (rw [h1]; exact wr_eq (by omega) (by omega))
  rw [e, u8_m]
theorem y_put (u : Unit_api) (hl : u.Load.length ≤ 100000) : X.cartridgeref1_PutFrame u = some (putF u) := by
  have hj : X.cartridgeref1_PutFrame u = X.cartridgeref1_PutFrame_j4 u (roomN u.Kind : Nat) := by
    unfold X.cartridgeref1_PutFrame roomN
    by_cases h : u.Kind = 6
    · rw [if_pos (by simp [h]), if_pos h]; rfl
    · rw [if_neg (by simp [h]), if_neg h]; rfl
  rw [hj]
  unfold X.cartridgeref1_PutFrame_j4 putF
  have hr := room_le u.Kind
  by_cases h : OKU u
  · obtain ⟨⟨a1, a2⟩, ⟨a3, a4⟩, a5, a6⟩ := h
    rw [if_pos (show OKU u from ⟨⟨a1, a2⟩, ⟨a3, a4⟩, a5, a6⟩), if_neg (by simp; omega)]
    by_cases hm : u.Load.length ≤ roomN u.Kind
    · rw [if_neg (by simp; omega), if_pos hm, y_wbyte (by simp), bd_s, y_wint (by omega) (by omega) (by simp), bd_s, y_wint (by omega) (by omega) (by simp [w4_len]), bd_s]
      rw [need_is (by simp [w4_len]), bd_s, need_is (by simp [w4_len]; omega), bd_s]
      have hw : wr (((roomN u.Kind : Nat) : Int) - (u.Load.length : Int)) = ((roomN u.Kind - u.Load.length : Nat) : Int) := by
        rw [wr_eq (by omega) (by omega)]; omega
      have ha : u8 (and64 (u.Load.length : Int) (255 : Int)) = UInt8.ofNat u.Load.length := by
        unfold and64 bitsI
        have hb : ∀ n : Nat, n < 18446744073709551616 → (BitVec.ofInt IntKind.i64.bits (n : Int)).toNat = n := by
          intro n hn
          show (BitVec.ofInt 64 (n : Int)).toNat = n
          simp
          omega
        simp only
        rw [BitVec.toNat_and, hb _ (by omega), show (255 : Int) = ((255 : Nat) : Int) from rfl, hb _ (by omega)]
        have : u.Load.length &&& 255 = u.Load.length % 256 := Nat.and_two_pow_sub_one_eq_mod _ 8
        rw [this]
        have h2 := wr_eq (x := ((u.Load.length % 256 : Nat) : Int)) (by omega) (by omega)
        unfold wr at h2
        rw [h2, u8_m]
        apply UInt8.toNat_inj.1
        rw [UInt8.toNat_ofNat', UInt8.toNat_ofNat']
        omega
      rw [hw, need_is (by simp [w4_len]; omega), bd_s, shr8F (by omega), ha, Int.toNat_natCast, u8_i (by omega)]
      have hbody : ((((([] ++ [UInt8.ofNat u.Kind.toNat]) ++ w4 u.Label.toNat) ++ w4 u.Number.toNat) ++ ([UInt8.ofNat (u.Load.length / 256), UInt8.ofNat u.Load.length] : List UInt8)) ++ u.Load) ++ List.replicate (roomN u.Kind - u.Load.length) (0 : UInt8) = bodyF u := by
        unfold bodyF
        simp
      rw [hbody, y_crc (by rw [body_len hm]; omega), bd_s, y_wint (by omega) (by have := (crc (bodyF u)).toNat_lt; omega) (by rw [body_len hm]; omega), bd_s, Int.toNat_natCast]
      rfl
    · rw [if_pos (by simp; omega), if_neg hm]
  · rw [if_neg h, if_pos ?_]
    unfold OKU at h
    simp
    omega
theorem c_check (u : Unit_api) : X.frame_check u = some (if OKU u then if u.Load.length ≤ roomN u.Kind then 0 else 4 else 1) := by
  have hj : (1 ≤ u.Kind ∧ u.Kind ≤ 6) → X.frame_check_j8 u = some (if u.Load.length ≤ roomN u.Kind then 0 else 4) := by
    intro hk
    unfold X.frame_check_j8 X.frame_room roomN
    by_cases h : u.Kind = 6
    · rw [if_pos (by simp [h]), bd_s, if_pos h]
      by_cases hm : u.Load.length ≤ 79
      · rw [if_neg (by simp; omega), if_pos hm]
      · rw [if_pos (by simp; omega), if_neg hm]
    · rw [if_neg (by simp [h]), bd_s, if_neg h]
      by_cases hm : u.Load.length ≤ 64
      · rw [if_neg (by simp; omega), if_pos hm]
      · rw [if_pos (by simp; omega), if_neg hm]
  unfold X.frame_check
  by_cases hb : (1 ≤ u.Label ∧ u.Label ≤ 2147483647) ∧ (0 ≤ u.Number ∧ u.Number ≤ 2147483647)
  · rw [if_neg (by simp; omega)]
    by_cases hk : 1 ≤ u.Kind ∧ u.Kind ≤ 6
    · rw [if_pos (show OKU u from ⟨hk, hb⟩)]
      have := hj hk
      rw [this]
      repeat' split
      all_goals first
        | rfl
        | (exfalso; rename_i h1 h2 h3 h4 h5 h6; simp at h1 h2 h3 h4 h5 h6; omega)
        | (exfalso; simp_all; omega)
    · rw [if_neg (show ¬ OKU u from fun h => hk h.1)]
      rw [if_neg (by simp; omega), if_neg (by simp; omega), if_neg (by simp; omega), if_neg (by simp; omega), if_neg (by simp; omega), if_neg (by simp; omega)]
  · rw [if_neg (show ¬ OKU u from fun h => hb h.2), if_pos (by simp; omega)]
end Go.AX
/- Frames: what is read of bytes, and which blocks of tapes are good. -/
namespace Go.AX
open Go.AM
set_option linter.unusedSimpArgs false
set_option linter.unusedVariables false
theorem opt_t {α : Type} [Inhabited α] (o : Option α) : optG true o = o := by unfold optG; rw [if_pos rfl]
theorem opt_f {α : Type} [Inhabited α] (o : Option α) : optG false o = some default := by unfold optG; rw [if_neg (by decide)]
/-- What stands in the first places of bytes, and what is behind. -/
def p5 (b : List UInt8) : Unit_api × Option (List UInt8) :=
  let k := byA (some b); let l := inA k.2; let n := inA l.2; let h := byA n.2; let m := byA h.2; let t := tkA (h.1.toNat * 256 + m.1.toNat) m.2
  (⟨(k.1.toNat : Int), l.1, n.1, t.1⟩, t.2)
def getU (b : List UInt8) : Option Unit_api := if (p5 b).2.isSome = true ∧ OKU (p5 b).1 ∧ (p5 b).1.Load.length ≤ roomN (p5 b).1.Kind ∧ frameL (p5 b).1 = b then some (p5 b).1 else none
def getF (b : List UInt8) : Unit_api × Int := match getU b with | some u => (u, 0) | none => (zeroU, 2)
theorem of_get {b : List UInt8} {u : Unit_api} (h : getU b = some u) : OKU u ∧ u.Load.length ≤ roomN u.Kind ∧ frameL u = b := by
  unfold getU at h
  split at h
  · rename_i hc
    injection h with h
    subst h
    exact hc.2
  · cases h
theorem smallN {n : Nat} (h : n < 256) : (UInt8.ofNat n).toNat = n := by rw [UInt8.toNat_ofNat']; omega
theorem p5_frame {u : Unit_api} (h : OKU u) (hl : u.Load.length ≤ roomN u.Kind) : p5 (frameL u) = (u, some (List.replicate (roomN u.Kind - u.Load.length) 0 ++ w4 (crc (bodyF u)).toNat)) := by
  obtain ⟨⟨a1, a2⟩, ⟨a3, a4⟩, a5, a6⟩ := h
  have hr := room_le u.Kind
  have hf : frameL u = UInt8.ofNat u.Kind.toNat :: (w4 u.Label.toNat ++ (w4 u.Number.toNat ++ (UInt8.ofNat (u.Load.length / 256) :: UInt8.ofNat u.Load.length :: (u.Load ++ (List.replicate (roomN u.Kind - u.Load.length) 0 ++ w4 (crc (bodyF u)).toNat))))) := by
    unfold frameL
    conv => lhs; lhs; unfold bodyF
    simp [List.append_assoc]
  unfold p5
  rw [hf]
  simp only [by_app, in_app (show u.Label.toNat < 4294967296 by omega), in_app (show u.Number.toNat < 4294967296 by omega)]
  rw [smallN (n := u.Load.length / 256) (by omega), smallN (n := u.Kind.toNat) (by omega), UInt8.toNat_ofNat']
  have e : u.Load.length / 256 * 256 + u.Load.length % 2 ^ 8 = u.Load.length := by omega
  rw [e, tk_app]
  have e1 : ((u.Kind.toNat : Nat) : Int) = u.Kind := by omega
  have e2 : ((u.Label.toNat : Nat) : Int) = u.Label := by omega
  have e3 : ((u.Number.toNat : Nat) : Int) = u.Number := by omega
  rw [e1, e2, e3]
theorem get_frame {u : Unit_api} (h : OKU u) (hl : u.Load.length ≤ roomN u.Kind) : getU (frameL u) = some u := by
  unfold getU
  rw [p5_frame h hl, if_pos ⟨rfl, h, hl, rfl⟩]
theorem get_is {b : List UInt8} {u : Unit_api} : getU b = some u ↔ OKU u ∧ u.Load.length ≤ roomN u.Kind ∧ frameL u = b := by
  constructor
  · exact of_get
  · rintro ⟨h1, h2, rfl⟩
    exact get_frame h1 h2
theorem c_made {u : Unit_api} (h : OKU u) (hl : u.Load.length ≤ roomN u.Kind) : X.frame_made u = some (frameL u) := by
  obtain ⟨⟨a1, a2⟩, ⟨a3, a4⟩, a5, a6⟩ := h
  have hr := room_le u.Kind
  have hrm : X.frame_room u.Kind = some ((roomN u.Kind : Nat) : Int) := by
    unfold X.frame_room roomN
    by_cases h : u.Kind = 6
    · rw [if_pos (by simp [h]), if_pos h]; rfl
    · rw [if_neg (by simp [h]), if_neg h]; rfl
  have hcp : cpy (List.replicate (roomN u.Kind) (0 : UInt8)) u.Load = u.Load ++ List.replicate (roomN u.Kind - u.Load.length) 0 := by
    unfold cpy
    rw [List.length_replicate, List.take_of_length_le hl, List.drop_replicate]
  have hbo : ∀ b : List UInt8, b.length ≤ 100000 → X.code_Writer_Bytes_or b = some b := fun b hb => by
    unfold X.code_Writer_Bytes_or X.slices_Clone_Lbyte_byte_own_or
    have : nilU b (fun z6 => if z6 = true then some ([] : List UInt8) else (need (b.length * 1 ≤ 140737488355328)).bind fun u10 => some b) = some b := by
      refine nilU_same (fun e => ?_) ?_
      · rw [if_pos rfl, e]
      · rw [if_neg (by decide), need_is (by omega), bd_s]
    rw [this, bd_s]
  have hbody : ((((([] ++ [UInt8.ofNat u.Kind.toNat]) ++ w4 u.Label.toNat) ++ w4 u.Number.toNat) ++ [UInt8.ofNat (u.Load.length / 256)]) ++ [UInt8.ofNat u.Load.length]) ++ (u.Load ++ List.replicate (roomN u.Kind - u.Load.length) (0 : UInt8)) = bodyF u := by
    unfold bodyF
    simp
  unfold X.frame_made
  rw [c_wbyte (by simp), bd_s, c_wint (by omega) (by omega) (by simp), bd_s, c_wint (by omega) (by omega) (by simp [w4_len]), bd_s, shr8F (by omega), c_wbyte (by simp [w4_len]), bd_s, u8_m, c_wbyte (by simp [w4_len]), bd_s, hrm, bd_s]
  rw [need_is (by omega), bd_s, Int.toNat_natCast, hcp, hbo _ (by simp [w4_len]), bd_s, u8_i (by omega)]
  rw [hbody, need_is (by simp [w4_len]; omega), bd_s, c_crc (by rw [body_len hl]; omega), bd_s, c_wint (by omega) (by have := (crc (bodyF u)).toNat_lt; omega) (by simp), bd_s, Int.toNat_natCast, List.nil_append, c_bytes (by simp [w4_len]), bd_s]
  rw [need_is (by rw [body_len hl, w4_len]; omega), bd_s]
  rfl
theorem c_raw (n : Nat) (s : Option (List UInt8)) (hs : ∀ t, s = some t → t.length ≤ 100000) : X.code_Reader_Raw (n : Int) (conC s).1 (conC s).2 = some ((tkA n s).1, conC (tkA n s).2) := by
  unfold X.code_Reader_Raw
  rw [show max (0 : Int) (n : Int) = (n : Int) by omega, c_take, bd_s]
  have hl : (tkA n s).1.length ≤ 100000 := by
    cases s with
    | none => simp [tkA_none]
    | some b =>
      have := hs b rfl
      rw [tkA_some]
      split
      · simp; omega
      · simp
  have hc : X.slices_Clone_Lbyte_byte (tkA n s).1 = some (tkA n s).1 := by
    unfold X.slices_Clone_Lbyte_byte
    refine nilU_same (fun e => ?_) ?_
    · rw [if_pos rfl, e]
    · rw [if_neg (by decide), need_is (by omega), bd_s]
  rw [hc, bd_s]
theorem by_le {s : Option (List UInt8)} {N : Nat} (h : ∀ t, s = some t → t.length ≤ N) : ∀ t, (byA s).2 = some t → t.length ≤ N := by
  intro t ht
  cases s with
  | none => cases ht
  | some b =>
    have := h b rfl
    have := by_inv ht
    have h2 := congrArg List.length this
    simp at h2
    omega
theorem in_le {s : Option (List UInt8)} {N : Nat} (h : ∀ t, s = some t → t.length ≤ N) : ∀ t, (inA s).2 = some t → t.length ≤ N := by
  intro t ht
  cases s with
  | none => cases ht
  | some b =>
    have := h b rfl
    have := in_inv ht
    have h2 := congrArg List.length this
    simp at h2
    omega
theorem c_get (b : List UInt8) (hb : b.length ≤ 100000) : X.frame_Get b = some (getF b) := by
  unfold X.frame_Get
  rw [c_new b hb, bd_s, c_byte, bd_s, c_int, bd_s, c_int, bd_s, c_byte, bd_s, c_byte, bd_s]
  dsimp only
  rw [or64_nat (by have := (byA (inA (inA (byA (some b)).2).2).2).1.toNat_lt; omega) (byA (byA (inA (inA (byA (some b)).2).2).2).2).1.toNat_lt]
  have hlen : ∀ t, (byA (byA (inA (inA (byA (some b)).2).2).2).2).2 = some t → t.length ≤ 100000 := by_le (by_le (in_le (in_le (by_le (fun t e => by injection e with e; rw [← e]; exact hb)))))
  rw [c_raw _ _ hlen, bd_s]
  unfold X.code_Reader_Bad
  rw [bd_s, c_check]
  have hp : p5 b = (⟨((byA (some b)).1.toNat : Int), (inA (byA (some b)).2).1, (inA (inA (byA (some b)).2).2).1, (tkA ((byA (inA (inA (byA (some b)).2).2).2).1.toNat * 256 + (byA (byA (inA (inA (byA (some b)).2).2).2).2).1.toNat) (byA (byA (inA (inA (byA (some b)).2).2).2).2).2).1⟩,
    (tkA ((byA (inA (inA (byA (some b)).2).2).2).1.toNat * 256 + (byA (byA (inA (inA (byA (some b)).2).2).2).2).1.toNat) (byA (byA (inA (inA (byA (some b)).2).2).2).2).2).2) := rfl
  generalize hk : ((byA (some b)).1.toNat : Int) = k at hp ⊢
  generalize hl : (inA (byA (some b)).2).1 = l at hp ⊢
  generalize hn : (inA (inA (byA (some b)).2).2).1 = n at hp ⊢
  generalize ht : tkA ((byA (inA (inA (byA (some b)).2).2).2).1.toNat * 256 + (byA (byA (inA (inA (byA (some b)).2).2).2).2).1.toNat) (byA (byA (inA (inA (byA (some b)).2).2).2).2).2 = t at hp ⊢
  obtain ⟨d, s⟩ := t
  dsimp only at hp ⊢
  unfold getF getU
  rw [hp]
  simp only
  cases s with
  | none =>
    rw [if_neg (show ¬ ((none : Option (List UInt8)).isSome = true ∧ OKU ⟨k, l, n, d⟩ ∧ d.length ≤ roomN k ∧ frameL ⟨k, l, n, d⟩ = b) from fun h => by cases h.1)]
    rfl
  | some q =>
    show ((optG (!false) _).bind _) = _
    rw [show (conC (some q)).2 = false from rfl, Bool.not_false, opt_t, bd_s]
    by_cases h1 : OKU ⟨k, l, n, d⟩
    · by_cases h2 : d.length ≤ roomN k
      · rw [if_pos h1, if_pos h2, Bool.false_or, show ((0 : Int) != 0) = false from rfl, Bool.not_false, opt_t, c_made h1 h2, bd_s, opt_t, x_equal (by omega), bd_s]
        by_cases h3 : frameL ⟨k, l, n, d⟩ = b
        · rw [if_pos (show (some q).isSome = true ∧ OKU ⟨k, l, n, d⟩ ∧ d.length ≤ roomN k ∧ frameL ⟨k, l, n, d⟩ = b from ⟨rfl, h1, h2, h3⟩), if_neg (by rw [h3]; simp)]
        · rw [if_neg (show ¬ ((some q).isSome = true ∧ OKU ⟨k, l, n, d⟩ ∧ d.length ≤ roomN k ∧ frameL ⟨k, l, n, d⟩ = b) from fun h => h3 h.2.2.2), if_pos (by simp; exact fun e => h3 e.symm)]
          rfl
      · rw [if_pos h1, if_neg h2, if_neg (show ¬ ((some q).isSome = true ∧ OKU ⟨k, l, n, d⟩ ∧ d.length ≤ roomN k ∧ frameL ⟨k, l, n, d⟩ = b) from fun h => h2 h.2.2.1)]
        rfl
    · rw [if_neg h1, if_neg (show ¬ ((some q).isSome = true ∧ OKU ⟨k, l, n, d⟩ ∧ d.length ≤ roomN k ∧ frameL ⟨k, l, n, d⟩ = b) from fun h => h1 h.2.1)]
      rfl
theorem c_put (u : Unit_api) : X.frame_Put u = some (putF u) := by
  unfold X.frame_Put putF
  rw [c_check, bd_s]
  by_cases h : OKU u
  · by_cases hm : u.Load.length ≤ roomN u.Kind
    · simp only [if_pos h, if_pos hm]
      rw [if_neg (by decide), c_made h hm, bd_s]
    · simp only [if_pos h, if_neg hm]
      rw [if_pos (by decide)]
  · simp only [if_neg h]
    rw [if_pos (by decide)]
end Go.AX
/- Frames: what the document reads of bytes. -/
namespace Go.AX
open Go.AM
set_option linter.unusedSimpArgs false
set_option linter.unusedVariables false
theorem tk_le {n : Nat} {s : Option (List UInt8)} {N : Nat} (h : ∀ t, s = some t → t.length ≤ N) : (tkA n s).1.length ≤ N := by
  cases s with
  | none => simp [tkA_none]
  | some b =>
    have := h b rfl
    rw [tkA_some]
    split
    · simp; omega
    · simp
theorem y_get (b : List UInt8) (hb : b.length ≤ 100000) : X.cartridgeref1_GetFrame b = some (getF b) := by
  unfold X.cartridgeref1_GetFrame X.cartridgeref1_NewReader
  rw [bd_s]
  dsimp only
  obtain ⟨q1, e1, f1⟩ := r_byte b false
  rw [e1, bd_s]
  obtain ⟨q2, e2, f2⟩ := r_int q1.1 q1.2
  rw [e2, bd_s]
  obtain ⟨q3, e3, f3⟩ := r_int q2.1 q2.2
  rw [e3, bd_s]
  obtain ⟨q4, e4, f4⟩ := r_byte q3.1 q3.2
  rw [e4, bd_s]
  obtain ⟨q5, e5, f5⟩ := r_byte q4.1 q4.2
  rw [e5, bd_s]
  dsimp only
  rw [f4] at f5 ⊢
  rw [f3] at f5 ⊢
  rw [f2] at f5 ⊢
  rw [f1] at f5 ⊢
  rw [show ab b false = some b from rfl] at f5 ⊢
  clear e1 e2 e3 e4 e5 f1 f2 f3 f4
  unfold X.cartridgeref1_Reader_Bad
  rw [bd_s]
  have hlen : ∀ t, (byA (byA (inA (inA (byA (some b)).2).2).2).2).2 = some t → t.length ≤ 100000 := by_le (by_le (in_le (in_le (by_le (fun t e => by injection e with e; rw [← e]; exact hb)))))
  have hp : p5 b = (⟨((byA (some b)).1.toNat : Int), (inA (byA (some b)).2).1, (inA (inA (byA (some b)).2).2).1, (tkA ((byA (inA (inA (byA (some b)).2).2).2).1.toNat * 256 + (byA (byA (inA (inA (byA (some b)).2).2).2).2).1.toNat) (byA (byA (inA (inA (byA (some b)).2).2).2).2).2).1⟩,
    (tkA ((byA (inA (inA (byA (some b)).2).2).2).1.toNat * 256 + (byA (byA (inA (inA (byA (some b)).2).2).2).2).1.toNat) (byA (byA (inA (inA (byA (some b)).2).2).2).2).2).2) := rfl
  have hw : wr (wr ((256 : Int) * ((byA (inA (inA (byA (some b)).2).2).2).1.toNat : Int)) + ((byA (byA (inA (inA (byA (some b)).2).2).2).2).1.toNat : Int)) = (((byA (inA (inA (byA (some b)).2).2).2).1.toNat * 256 + (byA (byA (inA (inA (byA (some b)).2).2).2).2).1.toNat : Nat) : Int) := by
    have h1 := (byA (inA (inA (byA (some b)).2).2).2).1.toNat_lt
    have h2 := (byA (byA (inA (inA (byA (some b)).2).2).2).2).1.toNat_lt
    rw [wr_eq (x := (256 : Int) * _) (by omega) (by omega), wr_eq (by omega) (by omega)]
    omega
  rw [hw]
  generalize hk : ((byA (some b)).1.toNat : Int) = k at hp ⊢
  generalize hl : (inA (byA (some b)).2).1 = l at hp ⊢
  generalize hn : (inA (inA (byA (some b)).2).2).1 = n at hp ⊢
  generalize hs : (byA (byA (inA (inA (byA (some b)).2).2).2).2).2 = s at hp f5 hlen ⊢
  generalize hm : (byA (inA (inA (byA (some b)).2).2).2).1.toNat * 256 + (byA (byA (inA (inA (byA (some b)).2).2).2).2).1.toNat = m at hp ⊢
  obtain ⟨c, bad⟩ := q5
  dsimp only at f5 ⊢
  unfold getF getU
  rw [hp]
  dsimp only
  unfold X.cartridgeref1_Reader_Left
  cases bad with
  | true =>
    have hs : s = none := f5.symm
    subst hs
    rw [Bool.not_true, opt_f, bd_s, if_pos (by rw [Bool.true_or]), tkA_none, if_neg (show ¬ ((none : Option (List UInt8)).isSome = true ∧ _) from fun h => by cases h.1)]
    rfl
  | false =>
    have hs : s = some c := f5.symm
    subst hs
    rw [Bool.not_false, opt_t, if_neg (by decide), bd_s, Bool.false_or]
    have hc := hlen c rfl
    by_cases hm : m ≤ c.length
    · obtain ⟨q, e1, e2⟩ := r_take m c false
      rw [if_neg (by simp; omega), e1, bd_s]
      dsimp only
      rw [show ab c false = some c from rfl]
      have hd := tk_le (n := m) (s := some c) (N := 100000) hlen
      generalize ht : tkA m (some c) = t at hd ⊢
      have ht2 : t.2.isSome = true := by rw [← ht, tkA_some, if_pos hm]; rfl
      obtain ⟨d, s2⟩ := t
      dsimp only at hd ht2 ⊢
      rw [need_is (by omega), bd_s, y_put _ hd, bd_s]
      unfold putF
      dsimp only
      by_cases h1 : OKU ⟨k, l, n, d⟩
      · by_cases h2 : d.length ≤ roomN k
        · rw [if_pos h1, if_pos h2]
          by_cases h3 : frameL ⟨k, l, n, d⟩ = b
          · rw [if_pos (show s2.isSome = true ∧ OKU ⟨k, l, n, d⟩ ∧ d.length ≤ roomN k ∧ frameL ⟨k, l, n, d⟩ = b from ⟨ht2, h1, h2, h3⟩), if_neg (by rw [h3]; simp)]
          · rw [if_neg (show ¬ (s2.isSome = true ∧ OKU ⟨k, l, n, d⟩ ∧ d.length ≤ roomN k ∧ frameL ⟨k, l, n, d⟩ = b) from fun h => h3 h.2.2.2), if_pos (by simp; exact h3)]
            rfl
        · rw [if_pos h1, if_neg h2, if_neg (show ¬ (s2.isSome = true ∧ OKU ⟨k, l, n, d⟩ ∧ d.length ≤ roomN k ∧ frameL ⟨k, l, n, d⟩ = b) from fun h => h2 h.2.2.1)]
          rfl
      · rw [if_neg h1, if_neg (show ¬ (s2.isSome = true ∧ OKU ⟨k, l, n, d⟩ ∧ d.length ≤ roomN k ∧ frameL ⟨k, l, n, d⟩ = b) from fun h => h1 h.2.1)]
        rfl
    · rw [if_pos (by simp; omega), tkA_some, if_neg hm, if_neg (show ¬ ((none : Option (List UInt8)).isSome = true ∧ _) from fun h => by cases h.1)]
      rfl
def goodF (t : Tape_api) (n : Int) : Unit_api × Bool :=
  if t.Lost = false ∧ 0 ≤ n ∧ n < t.Blocks.length then
    match getU (t.Blocks.getD n.toNat []) with
    | some u => if u.Label = t.Label ∧ u.Number = n then (u, true) else (zeroU, false)
    | none => (zeroU, false)
  else (zeroU, false)
theorem c_good (t : Tape_api) (n : Int) (hb : ∀ b ∈ t.Blocks, b.length ≤ 100000) : X.volume_Good t n = some (goodF t n) := by
  unfold X.volume_Good goodF
  by_cases h : t.Lost = false ∧ 0 ≤ n ∧ n < t.Blocks.length
  · obtain ⟨h1, h2, h3⟩ := h
    obtain ⟨m, rfl⟩ : ∃ m : Nat, n = (m : Int) := ⟨n.toNat, by omega⟩
    have hm : m < t.Blocks.length := by omega
    rw [if_neg (by rw [h1]; simp; omega), if_pos ⟨h1, h2, h3⟩, getI_getD [] hm, bd_s, c_get _ (hb _ (by rw [List.getD_eq_getElem?_getD, List.getElem?_eq_getElem hm]; exact List.getElem_mem hm)), bd_s, Int.toNat_natCast]
    unfold getF
    cases hu : getU (t.Blocks.getD m []) with
    | none => rfl
    | some u =>
      dsimp only
      by_cases hc : u.Label = t.Label ∧ u.Number = (m : Int)
      · rw [if_pos hc, if_neg (by simp [hc])]
      · rw [if_neg hc, if_pos (by simp; omega)]
        rfl
  · rw [if_neg h, if_pos (by simp; cases hL : t.Lost <;> simp_all <;> omega)]
    rfl
end Go.AX
/- The blocks of a part. -/
namespace Go.AX
open Go.AM
set_option linter.unusedSimpArgs false
set_option linter.unusedVariables false
def chunk (b : List UInt8) (i : Nat) : Unit_api := ⟨3, 0, 0, (b.drop (64 * i)).take 64⟩
def nC (b : List UInt8) : Nat := (b.length + 63) / 64
def unitsF (h : Head_api) (b : List UInt8) : List Unit_api := ([⟨2, 0, 0, encH h⟩] ++ tab (nC b) (chunk b)) ++ [⟨4, 0, 0, []⟩]
theorem units_len (h : Head_api) (b : List UInt8) : (unitsF h b).length = nC b + 2 := by unfold unitsF; simp [tab]
def numF (a : Int) (i : Nat) : Int := if 2147483648 < a then 2147483648 else a + i
def stF (label a : Int) (i : Nat) (u : Unit_api) : Unit_api := ⟨u.Kind, label, numF a i, u.Load⟩
def zU : Unit_api := ⟨0, 0, 0, []⟩
def frI (us : List Unit_api) (label a : Int) (i : Nat) : List UInt8 × Int := putF (stF label a i (us.getD i zU))
/-- What is made of units: all their frames, or why the first of them that is wrong is none. -/
def BlkR (us : List Unit_api) (label a : Int) (r : List (List UInt8) × Int) : Prop :=
  (∃ i, i < us.length ∧ (∀ j, j < i → (frI us label a j).2 = 0) ∧ (frI us label a i).2 ≠ 0 ∧ r = ([], (frI us label a i).2)) ∨
  ((∀ j, j < us.length → (frI us label a j).2 = 0) ∧ r = (tab us.length fun i => (frI us label a i).1, 0))
theorem BlkR_uniq {us : List Unit_api} {label a : Int} {r r' : List (List UInt8) × Int} (h : BlkR us label a r) (h' : BlkR us label a r') : r = r' := by
  rcases h with ⟨i, h1, h2, h3, rfl⟩ | ⟨h1, rfl⟩ <;> rcases h' with ⟨i', h1', h2', h3', rfl⟩ | ⟨h1', rfl⟩
  · have : i = i' := by
      rcases Nat.lt_trichotomy i i' with hl | hl | hl
      · exact absurd (h2' i hl) h3
      · exact hl
      · exact absurd (h2 i' hl) h3'
    rw [this]
  · exact absurd (h1' i h1) h3
  · exact absurd (h1 i' h1') h3'
  · rfl
theorem put_none {k l n : Int} {d : List UInt8} (h : ¬ (0 ≤ n ∧ n ≤ 2147483647)) : putF ⟨k, l, n, d⟩ = ([], 1) := by
  unfold putF
  rw [if_neg (fun hh => h hh.2.2)]
theorem wr_is (x : Int) : wr x = if x % 18446744073709551616 ≥ 9223372036854775808 then x % 18446744073709551616 - 18446744073709551616 else x % 18446744073709551616 := by
  unfold wr IntKind.wrap
  simp [IntKind.signed, IntKind.bits]
theorem put_num {k l a : Int} {d : List UInt8} {i : Nat} (hi : i ≤ 1000000) (ha : -9223372036854775808 ≤ a ∧ a ≤ 9223372036854775807) : putF ⟨k, l, wr (a + (i : Int)), d⟩ = putF ⟨k, l, numF a i, d⟩ := by
  unfold numF
  by_cases h : 2147483648 < a
  · rw [if_pos h, put_none (n := 2147483648) (by omega), put_none]
    rw [wr_is]
    split <;> omega
  · rw [if_neg h, wr_eq (by omega) (by omega)]
theorem getI_us {us : List Unit_api} {i : Nat} (h : i < us.length) : getI us (i : Int) = some (us.getD i zU) := getI_getD zU h
theorem c_units (h : Head_api) (b : List UInt8) (hb : b.length ≤ 1000000) : run X.volume_Blocks_s14 (b, ([⟨2, 0, 0, encH h⟩] : List Unit_api)) = some ([⟨2, 0, 0, encH h⟩] ++ tab (nC b) (chunk b)) := by
  refine run_is _ (fun s => ∃ i, i ≤ nC b ∧ s = (b.drop (64 * i), [⟨2, 0, 0, encH h⟩] ++ tab i (chunk b))) (fun s => s.1.length) ⟨0, by omega, by simp [tab]⟩ (by simp; omega) ?_
  rintro s ⟨i, hi, rfl⟩
  unfold X.volume_Blocks_s14
  dsimp only
  unfold nC at hi
  by_cases hl : 0 < (b.drop (64 * i)).length
  · left
    have hl' : 64 * i < b.length := by rw [List.length_drop] at hl; omega
    rw [if_pos (by simp; omega), need_is (by omega), bd_s, need_is (by simp [tab]; omega), bd_s, need_is (by omega), bd_s]
    refine ⟨_, rfl, ⟨i + 1, by unfold nC; omega, ?_⟩, ?_⟩
    · have e1 : slc (b.drop (64 * i)) (0 : Int) (min ((b.drop (64 * i)).length : Int) 64) = (b.drop (64 * i)).take 64 := by
        rw [show min ((b.drop (64 * i)).length : Int) 64 = ((min (b.drop (64 * i)).length 64 : Nat) : Int) by omega, slc_0n]
        by_cases h64 : (b.drop (64 * i)).length ≤ 64
        · rw [Nat.min_eq_left h64, List.take_of_length_le (Nat.le_refl _), List.take_of_length_le h64]
        · rw [Nat.min_eq_right (by omega)]
      have e2 : slc (b.drop (64 * i)) (min ((b.drop (64 * i)).length : Int) 64) ((b.drop (64 * i)).length : Int) = b.drop (64 * (i + 1)) := by
        rw [show min ((b.drop (64 * i)).length : Int) 64 = ((min (b.drop (64 * i)).length 64 : Nat) : Int) by omega, slc_nn, List.take_of_length_le (by simp; omega)]
        rw [List.drop_drop]
        by_cases h64 : (b.drop (64 * i)).length ≤ 64
        · rw [Nat.min_eq_left h64, List.drop_eq_nil_of_le (by simp; omega), List.drop_eq_nil_of_le (by simp at h64; omega)]
        · rw [Nat.min_eq_right (by omega)]; congr 1
      rw [e1, e2, tab_succ, List.append_assoc]
      rfl
    · rw [show min ((b.drop (64 * i)).length : Int) 64 = ((min (b.drop (64 * i)).length 64 : Nat) : Int) by omega, slc_nn]
      simp at hl ⊢
      omega
  · right
    rw [if_neg (by simp at hl ⊢; omega)]
    rw [List.length_drop] at hl
    have : i = nC b := by unfold nC; omega
    rw [this]
theorem c_loop (h : Head_api) (b : List UInt8) (label a : Int) (ha : -9223372036854775808 ≤ a ∧ a ≤ 9223372036854775807) (hb : b.length ≤ 1000000) :
    ∃ q, run (X.volume_Blocks_s26 ([⟨2, 0, 0, encH h⟩] ++ tab (nC b) (chunk b)) label a) (([] : List (List UInt8)), (0 : Int)) = some q ∧ BlkR (unitsF h b) label a (match q with | .inl o => (o, 0) | .inr rv => rv) := by
  have hlen := units_len h b
  have hn : nC b ≤ 100000 := by unfold nC; omega
  refine run_ix0 (n := (unitsF h b).length) (fun i s => (∀ j, j < i → (frI (unitsF h b) label a j).2 = 0) ∧ s = tab i fun j => (frI (unitsF h b) label a j).1) (fun q : List (List UInt8) ⊕ (List (List UInt8) × Int) => BlkR (unitsF h b) label a (match q with | .inl o => (o, 0) | .inr rv => rv)) (by omega) ⟨fun j hj => by omega, rfl⟩ (fun i s hi hI => ?_) (fun s hI => ?_)
  · obtain ⟨h1, rfl⟩ := hI
    unfold X.volume_Blocks_s26
    dsimp only
    have hu : ([⟨2, 0, 0, encH h⟩] ++ tab (nC b) (chunk b)) ++ ([⟨4, 0, 0, []⟩] : List Unit_api) = unitsF h b := rfl
    rw [hu, if_pos (by simp; omega), getI_us hi, bd_s, c_put, bd_s, put_num (by omega) ha]
    have hf : putF ⟨((unitsF h b).getD i zU).Kind, label, numF a i, ((unitsF h b).getD i zU).Load⟩ = frI (unitsF h b) label a i := rfl
    rw [hf]
    by_cases h0 : (frI (unitsF h b) label a i).2 = 0
    · left
      rw [if_neg (by simp [h0]), need_is (by simp [tab]; omega), bd_s, wr_succ (by omega)]
      refine ⟨_, rfl, fun j hj => ?_, tab_succ.symm⟩
      rcases Nat.lt_or_eq_of_le (Nat.le_of_lt_succ hj) with hj | rfl
      · exact h1 j hj
      · exact h0
    · right
      rw [if_pos (by simp [h0])]
      exact ⟨_, rfl, .inl ⟨i, hi, h1, h0, rfl⟩⟩
  · obtain ⟨h1, rfl⟩ := hI
    unfold X.volume_Blocks_s26
    dsimp only
    have hu : ([⟨2, 0, 0, encH h⟩] ++ tab (nC b) (chunk b)) ++ ([⟨4, 0, 0, []⟩] : List Unit_api) = unitsF h b := rfl
    rw [hu, if_neg (by simp)]
    exact ⟨_, rfl, .inr ⟨h1, rfl⟩⟩
theorem hENC {h : Head_api} (hR : RH h) : (encH h).length ≤ 100000 := by
  have := right_len hR.1
  unfold encH
  simp
  omega
/-- What Blocks answers. -/
def BlocksR (h : Head_api) (b : List UInt8) (label a : Int) (r : List (List UInt8) × Int) : Prop :=
  if RH h ∧ (b.length : Int) = h.Len then BlkR (unitsF h b) label a r else r = ([], 1)
theorem BlocksR_uniq {h : Head_api} {b : List UInt8} {label a : Int} {r r' : List (List UInt8) × Int} (h1 : BlocksR h b label a r) (h2 : BlocksR h b label a r') : r = r' := by
  unfold BlocksR at h1 h2
  split at h1
  · rename_i hc
    rw [if_pos hc] at h2
    exact BlkR_uniq h1 h2
  · rename_i hc
    rw [if_neg hc] at h2
    rw [h1, h2]
theorem c_blocks (label a : Int) (h : Head_api) (b : List UInt8) (ha : -9223372036854775808 ≤ a ∧ a ≤ 9223372036854775807) (hb : b.length ≤ 1000000) : ∃ r, X.volume_Blocks label a h b = some r ∧ BlocksR h b label a r := by
  unfold X.volume_Blocks BlocksR
  rw [x_right, bd_s]
  by_cases hc : RH h ∧ (b.length : Int) = h.Len
  · rw [if_neg (by simp [hc.1, hc.2])]
    simp only [if_pos hc]
    rw [x_bytes, bd_s, if_pos hc.1, c_units h b hb, bd_s]
    unfold X.volume_Blocks_e14
    have hn : nC b ≤ 100000 := by unfold nC; omega
    rw [need_is (by simp [tab]; omega), bd_s]
    obtain ⟨q, h1, h2⟩ := c_loop h b label a ha hb
    rw [h1, bd_s]
    cases q with
    | inl o => exact ⟨_, rfl, h2⟩
    | inr rv => exact ⟨_, rfl, h2⟩
  · rw [if_pos (by simp only [Bool.or_eq_true, Bool.not_eq_true', decide_eq_false_iff_not, bne_iff_ne]; exact (Classical.not_and_iff_not_or_not.1 hc))]
    simp only [if_neg hc]
    exact ⟨_, rfl, rfl⟩
end Go.AX
/- The law of a part's blocks. -/
namespace Go.AX
open Go.AM
set_option linter.unusedSimpArgs false
set_option linter.unusedVariables false
def dN (n : Nat) : Nat := (n + 63) / 64
theorem c_data (n : Nat) (h : n ≤ 1000000) : X.volume_data (n : Int) = some ((dN n : Nat) : Int) := by
  unfold X.volume_data dN
  by_cases h1 : n < 1
  · rw [if_pos (by simp; omega)]
    have : (n + 63) / 64 = 0 := by omega
    rw [this]; rfl
  · rw [if_neg (by simp; omega), wr_eq (x := (n : Int) - 1) (by omega) (by omega)]
    have e : ((n : Int) - 1).tdiv 64 = (((n - 1) / 64 : Nat) : Int) := by
      rw [show ((n : Int) - 1) = ((n - 1 : Nat) : Int) by omega, show (64 : Int) = ((64 : Nat) : Int) from rfl, Int.ofNat_tdiv]
    rw [e, wr_eq (x := (((n - 1) / 64 : Nat) : Int)) (by omega) (by omega), wr_eq (by omega) (by omega)]
    congr 1
    omega
theorem c_need (n : Nat) (h : n ≤ 1000000) : X.volume_Need (n : Int) = some ((2 + dN (min n 4000) : Nat) : Int) := by
  unfold X.volume_Need
  rw [show min (n : Int) 4000 = ((min n 4000 : Nat) : Int) by omega, c_data _ (by omega), bd_s]
  have : dN (min n 4000) ≤ 1000 := by unfold dN; omega
  rw [wr_eq (by omega) (by omega)]
  congr 1
def hA : Head_api := ⟨Str.mk [97], 1, 0, 0, 0, 1, 0, false⟩
set_option maxRecDepth 100000 in
theorem alive11 : X.cartridgelaw11_alive = some true := by
  unfold X.cartridgelaw11_alive
  obtain ⟨r, e1, h1⟩ := c_blocks 1 1 hA [] (by omega) (by simp)
  have h2 : BlocksR hA [] 1 1 (tab 2 fun i => (frI (unitsF hA []) 1 1 i).1, 0) := by
    unfold BlocksR
    rw [if_pos (by decide +kernel)]
    exact .inr ⟨by
      rw [units_len]
      intro j hj
      have : j = 0 ∨ j = 1 := by simp [nC] at hj; omega
      rcases this with rfl | rfl <;> decide +kernel, rfl⟩
  obtain rfl := BlocksR_uniq h1 h2
  unfold hA at e1
  have hk : X.volume_Keep ⟨0, 0, [], false⟩ = some 0 := by decide +kernel
  have hn := c_need 0 (by omega)
  rw [show ((2 + dN (min 0 4000) : Nat) : Int) = 2 from rfl] at hn
  rw [show ((0 : Nat) : Int) = 0 from rfl] at hn
  rw [e1, bd_s, hn, bd_s, hk]
  rfl
end Go.AX
/- Frames of the reference, as own lists. -/
namespace Go.AX
open Go.AM
set_option linter.unusedSimpArgs false
theorem y_putO (u : Unit_api) (hl : u.Load.length ≤ 100000) : X.cartridgeref1_PutFrame_or u = some (putF u) := by
  have hj : X.cartridgeref1_PutFrame_or u = X.cartridgeref1_PutFrame_or_j4 u (roomN u.Kind : Nat) := by
    unfold X.cartridgeref1_PutFrame_or roomN
    by_cases h : u.Kind = 6
    · rw [if_pos (by simp [h]), if_pos h]; rfl
    · rw [if_neg (by simp [h]), if_neg h]; rfl
  rw [hj]
  unfold X.cartridgeref1_PutFrame_or_j4 putF
  have hr := room_le u.Kind
  by_cases h : OKU u
  · obtain ⟨⟨a1, a2⟩, ⟨a3, a4⟩, a5, a6⟩ := h
    rw [if_pos (show OKU u from ⟨⟨a1, a2⟩, ⟨a3, a4⟩, a5, a6⟩), if_neg (by simp; omega)]
    by_cases hm : u.Load.length ≤ roomN u.Kind
    · rw [if_neg (by simp; omega), if_pos hm, y_wbyte (by simp), bd_s, y_wint (by omega) (by omega) (by simp), bd_s, y_wint (by omega) (by omega) (by simp [w4_len]), bd_s]
      rw [need_is (by simp [w4_len]), bd_s, need_is (by simp [w4_len]; omega), bd_s]
      have hw : wr (((roomN u.Kind : Nat) : Int) - (u.Load.length : Int)) = ((roomN u.Kind - u.Load.length : Nat) : Int) := by
        rw [wr_eq (by omega) (by omega)]; omega
      have ha : u8 (and64 (u.Load.length : Int) (255 : Int)) = UInt8.ofNat u.Load.length := by
        unfold and64 bitsI
        have hb : ∀ n : Nat, n < 18446744073709551616 → (BitVec.ofInt IntKind.i64.bits (n : Int)).toNat = n := by
          intro n hn
          show (BitVec.ofInt 64 (n : Int)).toNat = n
          simp
          omega
        simp only
        rw [BitVec.toNat_and, hb _ (by omega), show (255 : Int) = ((255 : Nat) : Int) from rfl, hb _ (by omega)]
        have : u.Load.length &&& 255 = u.Load.length % 256 := Nat.and_two_pow_sub_one_eq_mod _ 8
        rw [this]
        have h2 := wr_eq (x := ((u.Load.length % 256 : Nat) : Int)) (by omega) (by omega)
        unfold wr at h2
        rw [h2, u8_m]
        apply UInt8.toNat_inj.1
        rw [UInt8.toNat_ofNat', UInt8.toNat_ofNat']
        omega
      rw [hw, need_is (by simp [w4_len]; omega), bd_s, shr8F (by omega), ha, Int.toNat_natCast, u8_i (by omega)]
      have hbody : ((((([] ++ [UInt8.ofNat u.Kind.toNat]) ++ w4 u.Label.toNat) ++ w4 u.Number.toNat) ++ ([UInt8.ofNat (u.Load.length / 256), UInt8.ofNat u.Load.length] : List UInt8)) ++ u.Load) ++ List.replicate (roomN u.Kind - u.Load.length) (0 : UInt8) = bodyF u := by
        unfold bodyF
        simp
      rw [hbody, y_crc (by rw [body_len hm]; omega), bd_s, y_wint (by omega) (by have := (crc (bodyF u)).toNat_lt; omega) (by rw [body_len hm]; omega), bd_s, Int.toNat_natCast]
      rfl
    · rw [if_pos (by simp; omega), if_neg hm]
  · rw [if_neg h, if_pos ?_]
    unfold OKU at h
    simp
    omega
end Go.AX
/- The blocks of a part, as own lists. -/
namespace Go.AX
open Go.AM
set_option linter.unusedSimpArgs false
set_option linter.unusedVariables false
theorem y_unitsO (h : Head_api) (b : List UInt8) (hb : b.length ≤ 1000000) : run (X.cartridgeref10_Blocks_or_s16 b) (([⟨2, 0, 0, encH h⟩] : List Unit_api), (0 : Int)) = some ([⟨2, 0, 0, encH h⟩] ++ tab (nC b) (chunk b)) := by
  refine run_is _ (fun s => ∃ i : Nat, i ≤ nC b ∧ s = ([⟨2, 0, 0, encH h⟩] ++ tab i (chunk b), ((64 * i : Nat) : Int))) (fun s => nC b + 1 - s.1.length) ⟨0, by omega, by simp [tab]⟩ (by unfold nC; simp; omega) ?_
  rintro s ⟨i, hi, rfl⟩
  unfold X.cartridgeref10_Blocks_or_s16 X.cartridgeref10_Blocks_or_j63
  dsimp only
  unfold nC at hi
  by_cases hl : 64 * i < b.length
  · left
    rw [if_pos (by simp; omega), wr_eq (by omega) (by omega)]
    by_cases h64 : b.length < 64 * i + 64
    · rw [if_pos (by simp; omega), need_is (by omega), bd_s, need_is (by simp [tab]; omega), bd_s]
      refine ⟨_, rfl, ⟨i + 1, by unfold nC; omega, ?_⟩, ?_⟩
      · rw [slc_nn, tab_succ, List.append_assoc]
        have : ((b.drop (64 * i)).take (b.length - 64 * i)) = (b.drop (64 * i)).take 64 := by rw [List.take_of_length_le (by simp), List.take_of_length_le (by simp; omega)]
        rw [this]
        refine congr (congrArg _ rfl) ?_
        omega
      · simp [tab, nC]; omega
    · rw [if_neg (by simp; omega), need_is (by omega), bd_s, need_is (by simp [tab]; omega), bd_s]
      refine ⟨_, rfl, ⟨i + 1, by unfold nC; omega, ?_⟩, ?_⟩
      · rw [show (((64 * i : Nat) : Int) + 64) = ((64 * i + 64 : Nat) : Int) by omega, slc_nn, tab_succ, List.append_assoc]
        have : 64 * i + 64 - 64 * i = 64 := by omega
        rw [this]
        refine congr (congrArg _ rfl) ?_
        omega
      · simp [tab, nC]; omega
  · right
    rw [if_neg (by simp; omega)]
    have : i = nC b := by unfold nC; omega
    rw [this]
theorem y_loopO (h : Head_api) (hR : RH h) (b : List UInt8) (label a : Int) (ha : -9223372036854775808 ≤ a ∧ a ≤ 9223372036854775807) (hb : b.length ≤ 1000000) :
    ∃ q, run (X.cartridgeref10_Blocks_or_s28 label a) (unitsF h b, ([] : List (List UInt8)), (0 : Int)) = some q ∧ BlkR (unitsF h b) label a (match q with | .inl o => (o, 0) | .inr rv => rv) := by
  have hlen := units_len h b
  have hn : nC b ≤ 100000 := by unfold nC; omega
  have hrun := run_inv (f := X.cartridgeref10_Blocks_or_s28 label a) (fun s => ∃ i : Nat, i ≤ (unitsF h b).length ∧ s.2.2 = (i : Int) ∧ (∀ j, j < i → (frI (unitsF h b) label a j).2 = 0) ∧ s.2.1 = (tab i fun j => (frI (unitsF h b) label a j).1) ∧ s.1.length = (unitsF h b).length ∧ ∀ j, i ≤ j → s.1.getD j zU = (unitsF h b).getD j zU)
    (fun q : List (List UInt8) ⊕ (List (List UInt8) × Int) => BlkR (unitsF h b) label a (match q with | .inl o => (o, 0) | .inr rv => rv)) (fun s => (unitsF h b).length - s.2.2.toNat) (s := (unitsF h b, ([] : List (List UInt8)), (0 : Int)))
    ⟨0, by omega, rfl, fun j hj => by omega, rfl, rfl, fun j _ => rfl⟩ (by simp; omega) ?_
  · exact hrun
  rintro ⟨l, o, x⟩ ⟨i, hi, hx, h1, ho, hl, hg⟩
  dsimp only at hx ho hl hg
  subst hx ho
  unfold X.cartridgeref10_Blocks_or_s28 X.cartridgeref10_Blocks_or_j44
  dsimp only
  by_cases hlt : i < (unitsF h b).length
  · have hil : i < l.length := by omega
    have key : ∀ (l2 : List Unit_api), l2.length = l.length → (∀ j, i < j → l2.getD j zU = l.getD j zU) → l2.getD i zU = stF label a i ((unitsF h b).getD i zU) →
        (∃ s' : List Unit_api × List (List UInt8) × Int, X.cartridgeref10_Blocks_or_j44 (i : Int) (tab i fun j => (frI (unitsF h b) label a j).1) l2 = some (.inl s') ∧ (∃ i : Nat, i ≤ (unitsF h b).length ∧ s'.2.2 = (i : Int) ∧ (∀ j, j < i → (frI (unitsF h b) label a j).2 = 0) ∧ s'.2.1 = (tab i fun j => (frI (unitsF h b) label a j).1) ∧ s'.1.length = (unitsF h b).length ∧ ∀ j, i ≤ j → s'.1.getD j zU = (unitsF h b).getD j zU) ∧ (unitsF h b).length - s'.2.2.toNat < (unitsF h b).length - (i : Int).toNat) ∨
        (∃ r, X.cartridgeref10_Blocks_or_j44 (i : Int) (tab i fun j => (frI (unitsF h b) label a j).1) l2 = some (.inr r) ∧ BlkR (unitsF h b) label a (match r with | .inl o => (o, 0) | .inr rv => rv)) := by
      intro l2 k1 k2 k3
      unfold X.cartridgeref10_Blocks_or_j44
      rw [getI_us (by omega), bd_s, k3, y_putO _ (by
        show ((unitsF h b).getD i zU).Load.length ≤ 100000
        unfold unitsF
        rw [List.getD_eq_getElem?_getD]
        cases hq : ((([⟨2, 0, 0, encH h⟩] ++ tab (nC b) (chunk b)) ++ [⟨4, 0, 0, []⟩] : List Unit_api))[i]? with
        | none => simp [zU]
        | some u =>
          have hm := List.mem_of_getElem? hq
          simp only [Option.getD_some]
          rcases List.mem_append.1 hm with hm | hm
          · rcases List.mem_append.1 hm with hm | hm
            · rw [List.mem_singleton.1 hm]; exact hENC hR
            · obtain ⟨j, _, rfl⟩ := mem_tab.1 hm
              simp [chunk]; omega
          · rw [List.mem_singleton.1 hm]; simp), bd_s]
      have hf : putF (stF label a i ((unitsF h b).getD i zU)) = frI (unitsF h b) label a i := rfl
      rw [hf]
      by_cases h0 : (frI (unitsF h b) label a i).2 = 0
      · left
        rw [if_neg (by simp [h0]), need_is (by simp [tab]; omega), bd_s, wr_succ (by omega)]
        refine ⟨_, rfl, ⟨i + 1, by omega, rfl, fun j hj => ?_, tab_succ.symm, by dsimp only; omega, fun j hj => ?_⟩, by dsimp only; omega⟩
        · rcases Nat.lt_or_eq_of_le (Nat.le_of_lt_succ hj) with hj | rfl
          · exact h1 j hj
          · exact h0
        · dsimp only
          rw [k2 j (by omega), hg j (by omega)]
      · right
        rw [if_pos (by simp [h0])]
        exact ⟨_, rfl, .inl ⟨i, hlt, h1, h0, rfl⟩⟩
    rw [if_pos (by simp; omega), getI_us hil, bd_s, Int.toNat_natCast, getI_us (by simp; omega), bd_s, hg i (Nat.le_refl _)]
    rw [set_getD hil, if_pos rfl]
    dsimp only
    by_cases hbig : 2147483648 < a
    · rw [if_pos (by simp; omega), getI_us (by simp; omega), bd_s, set_getD (by simpa using hil), if_pos rfl]
      refine key _ (by simp) (fun j hj => ?_) ?_
      · rw [set_getD (by simpa using hil), if_neg (by omega), set_getD (by simpa using hil), if_neg (by omega), set_getD hil, if_neg (by omega)]
      · rw [set_getD (by simpa using hil), if_pos rfl]
        unfold stF numF
        rw [if_pos hbig]
    · rw [if_neg (by simp; omega)]
      refine key _ (by simp) (fun j hj => ?_) ?_
      · rw [set_getD (by simpa using hil), if_neg (by omega), set_getD hil, if_neg (by omega)]
      · rw [set_getD (by simpa using hil), if_pos rfl]
        unfold stF numF
        rw [if_neg hbig, wr_eq (by omega) (by omega)]
  · right
    have : i = (unitsF h b).length := by omega
    rw [if_neg (by simp; omega)]
    subst this
    exact ⟨_, rfl, .inr ⟨h1, rfl⟩⟩
theorem y_blocksO (label a : Int) (h : Head_api) (b : List UInt8) (ha : -9223372036854775808 ≤ a ∧ a ≤ 9223372036854775807) (hb : b.length ≤ 1000000) : ∃ r, X.cartridgeref10_Blocks_or label a h b = some r ∧ BlocksR h b label a r := by
  unfold X.cartridgeref10_Blocks_or BlocksR
  rw [y_right, bd_s]
  by_cases hc : RH h ∧ (b.length : Int) = h.Len
  · rw [if_neg (by simp [hc.1, hc.2])]
    simp only [if_pos hc]
    rw [y_bytes, bd_s, if_pos hc.1, y_unitsO h b hb, bd_s]
    unfold X.cartridgeref10_Blocks_or_e16
    have hn : nC b ≤ 100000 := by unfold nC; omega
    rw [need_is (by simp [tab]; omega), bd_s]
    obtain ⟨q, h1, h2⟩ := y_loopO h hc.1 b label a ha hb
    unfold unitsF at h1
    rw [h1, bd_s]
    cases q with
    | inl o => exact ⟨_, rfl, h2⟩
    | inr rv => exact ⟨_, rfl, h2⟩
  · rw [if_pos (by simp only [Bool.or_eq_true, Bool.not_eq_true', decide_eq_false_iff_not, bne_iff_ne]; exact (Classical.not_and_iff_not_or_not.1 hc))]
    simp only [if_neg hc]
    exact ⟨_, rfl, rfl⟩
end Go.AX
/- What is kept of a tape whose last part was cut. -/
namespace Go.AX
open Go.AM
set_option linter.unusedSimpArgs false
set_option linter.unusedVariables false
theorem encH_le {h : Head_api} (hR : RH h) : (encH h).length ≤ 50 := by
  have := right_len hR.1
  unfold encH
  simp
  omega
theorem unit_at {h : Head_api} {b : List UInt8} {i : Nat} (hi : i < nC b + 2) : (unitsF h b).getD i zU = if i = 0 then ⟨2, 0, 0, encH h⟩ else if i = nC b + 1 then ⟨4, 0, 0, []⟩ else chunk b (i - 1) := by
  unfold unitsF
  rw [List.getD_eq_getElem?_getD]
  by_cases h0 : i = 0
  · subst h0; rw [if_pos rfl]; rfl
  rw [if_neg h0]
  by_cases h1 : i = nC b + 1
  · rw [if_pos h1, List.getElem?_append_right (by simp [tab]; omega)]
    have : i - ([(⟨2, 0, 0, encH h⟩ : Unit_api)] ++ tab (nC b) (chunk b)).length = 0 := by simp [tab]; omega
    rw [this]
    rfl
  · rw [if_neg h1, List.getElem?_append_left (by simp [tab]; omega), List.getElem?_append_right (by simp; omega), List.length_singleton, tab_get? (by omega)]
    rfl
theorem put_ok {u : Unit_api} (h : OKU u) (hl : u.Load.length ≤ roomN u.Kind) : putF u = (frameL u, 0) := by
  unfold putF
  rw [if_pos h, if_pos hl]
/-- The frames of a right part. -/
theorem fr_ok {h : Head_api} {b : List UInt8} {label : Int} {a : Nat} (hR : RH h) (hl : 1 ≤ label ∧ label ≤ 2147483647) (ha : a + nC b + 2 ≤ 2147483647) {i : Nat} (hi : i < nC b + 2) :
    OKU ⟨((unitsF h b).getD i zU).Kind, label, ((a + i : Nat) : Int), ((unitsF h b).getD i zU).Load⟩ ∧ ((unitsF h b).getD i zU).Load.length ≤ roomN ((unitsF h b).getD i zU).Kind ∧
    frI (unitsF h b) label a i = (frameL ⟨((unitsF h b).getD i zU).Kind, label, ((a + i : Nat) : Int), ((unitsF h b).getD i zU).Load⟩, 0) := by
  have hk : (1 ≤ ((unitsF h b).getD i zU).Kind ∧ ((unitsF h b).getD i zU).Kind ≤ 6) ∧ ((unitsF h b).getD i zU).Load.length ≤ roomN ((unitsF h b).getD i zU).Kind := by
    have := encH_le hR
    rw [unit_at hi]
    split
    · exact ⟨by simp, by simp [roomN]; omega⟩
    · split
      · exact ⟨by simp, by simp [roomN]⟩
      · exact ⟨by simp [chunk], by simp [chunk, roomN]; omega⟩
  have h1 : OKU ⟨((unitsF h b).getD i zU).Kind, label, ((a + i : Nat) : Int), ((unitsF h b).getD i zU).Load⟩ := ⟨hk.1, hl, by show (0 : Int) ≤ ((a + i : Nat) : Int); omega, by show ((a + i : Nat) : Int) ≤ 2147483647; omega⟩
  refine ⟨h1, hk.2, ?_⟩
  unfold frI stF numF
  rw [if_neg (by omega), show (a : Int) + (i : Int) = ((a + i : Nat) : Int) by omega]
  exact put_ok h1 hk.2
def dI (n : Int) : Int := if n < 1 then 0 else (n - 1) / 64 + 1
theorem c_dataI (n : Int) (h0 : 0 ≤ n) (h : n ≤ 1000000) : X.volume_data n = some (dI n) := by
  obtain ⟨m, rfl⟩ : ∃ m : Nat, n = (m : Int) := ⟨n.toNat, by omega⟩
  rw [c_data m (by omega)]
  unfold dI dN
  congr 1
  split <;> omega
def partB (t : Tape_api) (n : Int) : Option Part_api :=
  if (goodF t n).2 = true ∧ (goodF t n).1.Kind = 2 ∧ (readH (goodF t n).1.Load).2 = 0 ∧ n + 1 + dI (readH (goodF t n).1.Load).1.Len < t.Blocks.length then some ⟨(readH (goodF t n).1.Load).1, t.Label, n⟩ else none
def zeroP : Part_api := ⟨zeroH, 0, 0⟩
theorem good_load (t : Tape_api) (n : Int) : (goodF t n).1.Load.length ≤ 79 ∧ ((goodF t n).2 = true → t.Lost = false ∧ 0 ≤ n ∧ n < t.Blocks.length) := by
  unfold goodF
  split
  · rename_i hc
    split
    · rename_i u hu
      split
      · have := (of_get hu).2.1
        have := room_le u.Kind
        exact ⟨by dsimp only; omega, fun _ => hc⟩
      · exact ⟨by simp [zeroU], fun h => by cases h⟩
    · exact ⟨by simp [zeroU], fun h => by cases h⟩
  · exact ⟨by simp [zeroU], fun h => by cases h⟩
theorem read_zero {b : List UInt8} (h : (readH b).2 = 0) : RH (readH b).1 := by
  unfold readH at h ⊢
  split at h
  · rename_i hc
    rw [if_pos hc]
    exact hc.1
  · cases h
theorem c_part (t : Tape_api) (n : Int) (hb : ∀ b ∈ t.Blocks, b.length ≤ 100000) (hn : -1 ≤ n ∧ n ≤ 1000000) : X.volume_part t n = some (match partB t n with | some p => (p, true) | none => (zeroP, false)) := by
  have hgl := good_load t n
  unfold X.volume_part partB
  rw [c_good t n hb, bd_s]
  generalize hg : goodF t n = g at hgl ⊢
  obtain ⟨u, ok⟩ := g
  dsimp only at hgl ⊢
  by_cases h1 : ok = true ∧ u.Kind = 2
  · rw [if_neg (by simp [h1.1, h1.2]), x_read _ (by omega), bd_s]
    by_cases h2 : (readH u.Load).2 = 0
    · have hR := read_zero h2
      have hL := hR.2.2.2.2.2.2.1
      have hS := hR.2.2.2.1
      have hF := hR.2.2.2.2.2.1
      rw [h2, show (!((0 : Int) != 0)) = true from rfl, opt_t, c_dataI _ hL.1 (by omega), bd_s]
      have hd : 0 ≤ dI (readH u.Load).1.Len ∧ dI (readH u.Load).1.Len ≤ 4000 := by unfold dI; split <;> omega
      rw [wr_eq (x := n + 1) (by omega) (by omega), wr_eq (by omega) (by omega)]
      by_cases h3 : n + 1 + dI (readH u.Load).1.Len < t.Blocks.length
      · rw [if_neg (by simp; omega), if_pos ⟨h1.1, h1.2, rfl, h3⟩]
      · rw [if_pos (by simp; omega), if_neg (fun h => h3 h.2.2.2)]
        rfl
    · have : ((readH u.Load).2 != 0) = true := by simp [h2]
      rw [this, Bool.not_true, opt_f, bd_s, if_pos (by rw [Bool.true_or]), if_neg (fun h => h2 h.2.2.1)]
      rfl
  · rw [if_pos (by cases ok <;> simp_all), if_neg (fun h => h1 ⟨h.1, h.2.1⟩)]
    rfl
/-- A tape on which so many whole parts lie, one behind the other, and no more. -/
structure Laid (t : Tape_api) (m : Nat) (hs : Nat → Head_api) (st : Nat → Nat) : Prop where
  here : t.Lost = false
  small : t.Blocks.length ≤ 100000
  blocks : ∀ b ∈ t.Blocks, b.length ≤ 100000
  first : st 0 = 1
  next : ∀ i, i < m → (st (i + 1) : Int) = st i + 2 + dI (hs i).Len
  room : st m ≤ t.Blocks.length
  part : ∀ i, i < m → partB t (st i) = some ⟨hs i, t.Label, st i⟩
  none : ∀ n : Nat, st m ≤ n → n < t.Blocks.length → partB t n = none
theorem Laid.len {t : Tape_api} {m : Nat} {hs : Nat → Head_api} {st : Nat → Nat} (L : Laid t m hs st) {i : Nat} (hi : i < m) : 0 ≤ dI (hs i).Len := by unfold dI; split <;> omega
theorem Laid.le {t : Tape_api} {m : Nat} {hs : Nat → Head_api} {st : Nat → Nat} (L : Laid t m hs st) : ∀ {i j : Nat}, i ≤ j → j ≤ m → st i + (j - i) ≤ st j
  | i, 0, h, hj => by have : i = 0 := by omega
                      subst this; omega
  | i, j + 1, h, hj => by
    rcases Nat.lt_or_eq_of_le h with h | rfl
    · have h1 := L.le (i := i) (j := j) (by omega) (by omega)
      have h2 := L.next j (by omega)
      have h3 := L.len (i := j) (by omega)
      omega
    · omega
theorem parts_laid {t : Tape_api} {m : Nat} {hs : Nat → Head_api} {st : Nat → Nat} (L : Laid t m hs st) (hm : m ≤ 100000) : X.volume_Parts t = some (tab m fun i => ⟨hs i, t.Label, st i⟩) := by
  have h1 := L.small
  have hlast := L.room
  unfold X.volume_Parts
  rw [if_neg (by rw [L.here]; decide)]
  have hrun : run (X.volume_Parts_s10 t) (([] : List Part_api), (1 : Int)) = some (tab m fun i => ⟨hs i, t.Label, st i⟩) := by
    refine run_is _ (fun s => (∃ i, i < m ∧ s = (tab i fun i => ⟨hs i, t.Label, st i⟩, ((st i : Nat) : Int))) ∨ ∃ n : Nat, st m ≤ n ∧ n ≤ t.Blocks.length ∧ s = (tab m fun i => ⟨hs i, t.Label, st i⟩, (n : Int))) (fun s => t.Blocks.length - s.2.toNat) ?_ (by simp; omega) ?_
    · rcases Nat.eq_zero_or_pos m with h0 | h0
      · subst h0
        exact .inr ⟨1, by rw [L.first]; omega, by have := L.first; omega, by simp [tab]⟩
      · exact .inl ⟨0, h0, by rw [L.first]; rfl⟩
    · rintro s (⟨i, hi, rfl⟩ | ⟨n, hn, hn2, rfl⟩)
      · left
        have hle := L.le (i := i + 1) (j := m) (by omega) (by omega)
        have hnx := L.next i hi
        have hd := L.len hi
        unfold X.volume_Parts_s10
        dsimp only
        rw [if_pos (by simp; omega), c_part _ _ L.blocks (by omega), bd_s, L.part i hi]
        dsimp only
        have hp : partB t (st i) = some ⟨hs i, t.Label, st i⟩ := L.part i hi
        have hL : 0 ≤ (hs i).Len ∧ (hs i).Len ≤ 4000 := by
          unfold partB at hp
          split at hp
          · rename_i hc
            injection hp with hp
            injection hp with e1 e2 e3
            have hR := read_zero hc.2.2.1
            rw [e1] at hR
            have q1 := hR.2.2.2.2.2.2.1
            have q2 := hR.2.2.2.1
            have q3 := hR.2.2.2.2.2.1
            omega
          · cases hp
        rw [if_pos rfl, need_is (by simp [tab]; omega), bd_s, c_dataI _ hL.1 (by omega), bd_s]
        have hd2 : dI (hs i).Len ≤ 4000 := by unfold dI; split <;> omega
        unfold X.volume_Parts_j19
        rw [wr_eq (x := dI (hs i).Len + 1) (by omega) (by omega), wr_eq (x := (st i : Int) + _) (by omega) (by omega), wr_eq (by omega) (by omega)]
        refine ⟨_, rfl, ?_, by dsimp only; omega⟩
        have he : (st i : Int) + (dI (hs i).Len + 1) + 1 = ((st (i + 1) : Nat) : Int) := by omega
        rw [he, ← tab_succ (g := fun i => (⟨hs i, t.Label, st i⟩ : Part_api))]
        rcases Nat.lt_or_eq_of_le (Nat.succ_le_of_lt hi) with h | h
        · exact .inl ⟨i + 1, h, rfl⟩
        · have h' : i + 1 = m := h
          exact .inr ⟨st (i + 1), by rw [h']; exact Nat.le_refl _, by rw [h']; exact hlast, by rw [h']⟩
      · unfold X.volume_Parts_s10
        dsimp only
        by_cases hlt : n < t.Blocks.length
        · left
          rw [if_pos (by simp; omega), c_part _ _ L.blocks (by omega), bd_s, L.none n hn hlt]
          dsimp only
          rw [if_neg (by decide)]
          unfold X.volume_Parts_j19
          rw [wr_succ (by omega)]
          exact ⟨_, rfl, .inr ⟨n + 1, by omega, by omega, rfl⟩, by dsimp only; omega⟩
        · right
          rw [if_neg (by simp; omega)]
  rw [hrun]
  rfl
end Go.AX
/- The law of what is kept. -/
namespace Go.AX
open Go.AM
set_option linter.unusedSimpArgs false
set_option linter.unusedVariables false
theorem and127 (x : Int) : ∃ n : Nat, and64 x (127 : Int) = (n : Int) ∧ n ≤ 127 := by
  refine ⟨((BitVec.ofInt 64 x).toNat &&& 127), ?_, Nat.and_le_right⟩
  unfold and64 bitsI
  have hb : (BitVec.ofInt IntKind.i64.bits (127 : Int)).toNat = 127 := by decide
  simp only
  rw [BitVec.toNat_and, hb]
  have h2 : (BitVec.ofInt IntKind.i64.bits x).toNat &&& 127 ≤ 127 := Nat.and_le_right
  exact wr_eq (by omega) (by omega)
theorem tmod_nat (s n : Nat) : (s : Int).tmod (n : Int) = ((s % n : Nat) : Int) := (Int.ofNat_tmod s n).symm
theorem nC_rep (n : Nat) : nC (List.replicate n (0 : UInt8)) = dN n := by unfold nC dN; rw [List.length_replicate]
theorem dI_nat {n : Nat} : dI (n : Int) = ((dN n : Nat) : Int) := by unfold dI dN; split <;> omega
def hdK (p : UInt8) (v n : Nat) : Head_api := ⟨Str.mk [p], (v : Int), (n : Int), 0, (n : Int), 1, 0, false⟩
theorem hdK_right {p : UInt8} {v n : Nat} (hp : pathB [p] = true) (hv : 1 ≤ v ∧ v ≤ 1000) (hn : n ≤ 4000) : RH (hdK p v n) := by
  refine ⟨hp, ?_, ?_, ?_, ?_, ?_, ?_, ?_, ?_⟩ <;> simp [hdK] <;> omega
theorem put_le (u : Unit_api) : (putF u).1.length ≤ 94 := by
  unfold putF
  split
  · split
    · rename_i h
      have := frame_len h
      have := room_le u.Kind
      dsimp only
      omega
    · simp
  · simp
def lbl : List UInt8 := frameL ⟨1, 7, 0, [68]⟩
def zs (n : Nat) : List UInt8 := List.replicate n 0
def fK (p : UInt8) (v n a : Nat) : List (List UInt8) := tab (dN n + 2) fun i => (frI (unitsF (hdK p v n) (zs n)) 7 (a : Int) i).1
def BB (ns : Nat → Nat) : Nat → List (List UInt8)
  | 0 => [lbl]
  | i + 1 => BB ns i ++ fK 97 (i + 1) (ns i) (BB ns i).length
theorem fK_len {p : UInt8} {v n a : Nat} : (fK p v n a).length = dN n + 2 := by simp [fK, tab]
theorem fK_le {p : UInt8} {v n a : Nat} {b : List UInt8} (h : b ∈ fK p v n a) : b.length ≤ 94 := by
  obtain ⟨i, _, rfl⟩ := mem_tab.1 h
  exact put_le _
theorem lbl_len : lbl.length = 79 := by unfold lbl; rw [frame_len (by decide)]; rfl
theorem BB_le (ns : Nat → Nat) : ∀ i, ∀ b ∈ BB ns i, b.length ≤ 94
  | 0, b, h => by rw [List.mem_singleton.1 h, lbl_len]; omega
  | i + 1, b, h => by
    rcases List.mem_append.1 h with h | h
    · exact BB_le ns i b h
    · exact fK_le h
theorem BB_len (ns : Nat → Nat) (hn : ∀ i, ns i ≤ 127) : ∀ i, (BB ns i).length ≤ 1 + 4 * i
  | 0 => by simp [BB]
  | i + 1 => by
    have := BB_len ns hn i
    have := hn i
    simp only [BB, List.length_append, fK_len]
    unfold dN
    omega
theorem BB_at (ns : Nat → Nat) {i : Nat} : ∀ {m : Nat}, i < m → (BB ns m).getD (BB ns i).length [] = (frI (unitsF (hdK 97 (i + 1) (ns i)) (zs (ns i))) 7 (((BB ns i).length : Nat) : Int) 0).1 ∧ (BB ns i).length < (BB ns m).length
  | m + 1, h => by
    rcases Nat.lt_or_eq_of_le (Nat.le_of_lt_succ h) with h | rfl
    · obtain ⟨h1, h2⟩ := BB_at ns h
      simp only [BB, List.length_append]
      rw [List.getD_eq_getElem?_getD, List.getElem?_append_left h2, ← List.getD_eq_getElem?_getD]
      exact ⟨h1, by omega⟩
    · simp only [BB, List.length_append, fK_len]
      rw [List.getD_eq_getElem?_getD, List.getElem?_append_right (Nat.le_refl _), Nat.sub_self, ← List.getD_eq_getElem?_getD]
      unfold fK
      rw [tab_getD, if_pos (by omega)]
      exact ⟨rfl, by omega⟩
/-- What stands in a right part's place. -/
theorem fr_get {p : UInt8} {v n a i : Nat} (hp : pathB [p] = true) (hv : 1 ≤ v ∧ v ≤ 1000) (hn : n ≤ 4000) (ha : a ≤ 100000) (hi : i < dN n + 2) :
    ∃ u : Unit_api, (frI (unitsF (hdK p v n) (zs n)) 7 (a : Int) i).1 = frameL u ∧ getU (frameL u) = some u ∧ u.Load.length ≤ roomN u.Kind ∧ OKU u ∧ u.Label = 7 ∧ u.Number = ((a + i : Nat) : Int) ∧ (u.Kind = 2 ↔ i = 0) ∧ (i = 0 → u.Load = encH (hdK p v n)) := by
  have h1 : dN n ≤ 1000 := by unfold dN; omega
  have h2 : nC (zs n) = dN n := nC_rep n
  obtain ⟨f1, f2, f3⟩ := fr_ok (h := hdK p v n) (b := zs n) (label := 7) (a := a) (hdK_right hp hv hn) (by omega) (by rw [h2]; omega) (i := i) (by rw [h2]; exact hi)
  refine ⟨_, by rw [f3], get_frame f1 f2, f2, f1, rfl, rfl, ?_, ?_⟩
  · show ((unitsF (hdK p v n) (zs n)).getD i zU).Kind = 2 ↔ i = 0
    rw [unit_at (by rw [h2]; exact hi)]
    by_cases h0 : i = 0
    · rw [if_pos h0]; simp [h0]
    · rw [if_neg h0]
      split
      · simp [h0]
      · simp [chunk, h0]
  · rintro rfl
    show ((unitsF (hdK p v n) (zs n)).getD 0 zU).Load = _
    rw [unit_at (by omega), if_pos rfl]
theorem good_at {t : Tape_api} {n : Nat} {u : Unit_api} (hL : t.Lost = false) (hn : n < t.Blocks.length) (hb : t.Blocks.getD n [] = frameL u) (hg : getU (frameL u) = some u) (h1 : u.Label = t.Label) (h2 : u.Number = (n : Int)) : goodF t (n : Int) = (u, true) := by
  unfold goodF
  rw [if_pos ⟨hL, by omega, by omega⟩, Int.toNat_natCast, hb, hg]
  dsimp only
  rw [if_pos ⟨h1, h2⟩]
end Go.AX
/- Parts are found, whichever other blocks rot. -/
namespace Go.AX
open Go.AM
set_option linter.unusedSimpArgs false
set_option linter.unusedVariables false
theorem parts_same (l : List Part_api) (hl : l.length ≤ 100000) : X.cartridgelaw11_SameParts l l = some true := by
  unfold X.cartridgelaw11_SameParts
  rw [if_neg (by simp)]
  have : run (X.cartridgelaw11_SameParts_s9 l l) (0 : Int) = some (.inl ()) := by
    refine run_seE (n := l.length) (fun _ => True) (Nat.zero_le _) (by omega) trivial (fun i _ hi _ => ?_) (fun _ => ?_)
    · unfold X.cartridgelaw11_SameParts_s9
      simp only []
      rw [if_pos (by simp; omega), getI_nat hi, bd_s, bd_s, if_neg (by simp), wr_succ (by omega)]
      exact .inl ⟨rfl, trivial⟩
    · unfold X.cartridgelaw11_SameParts_s9
      simp only []
      rw [if_neg (by simp)]
  rw [this]
  rfl
theorem fK_blocksO {p : UInt8} {v n a : Nat} (hp : pathB [p] = true) (hv : 1 ≤ v ∧ v ≤ 1000) (hn : n ≤ 4000) (ha : a ≤ 100000) : X.cartridgeref10_Blocks_or 7 (a : Int) (hdK p v n) (zs n) = some (fK p v n a, 0) := by
  have h1 : dN n ≤ 1000 := by unfold dN; omega
  have hN : nC (zs n) = dN n := nC_rep n
  have hR := hdK_right (n := n) hp hv hn
  obtain ⟨r, e1, h2⟩ := y_blocksO 7 (a : Int) (hdK p v n) (zs n) (by omega) (by simp [zs]; omega)
  have h3 : BlocksR (hdK p v n) (zs n) 7 (a : Int) (fK p v n a, 0) := by
    unfold BlocksR
    rw [if_pos ⟨hR, by simp [zs, hdK]⟩]
    refine .inr ⟨fun j hj => ?_, by rw [units_len, hN]; rfl⟩
    rw [units_len] at hj
    rw [(fr_ok hR (by omega) (by rw [hN]; omega) hj).2.2]
  rw [e1, BlocksR_uniq h2 h3]
/-- Blocks of which some rotted that are no heads. -/
def Rot (B l : List (List UInt8)) : Prop := l.length = B.length ∧ (∀ b ∈ l, b.length ≤ 94) ∧
  ∀ n, n < B.length → l.getD n [] = B.getD n [] ∨ (getU (l.getD n []) = none ∧ ∀ u, getU (B.getD n []) = some u → u.Kind ≠ 2)
theorem zero_none {b : List UInt8} : getU (b.set 0 0) = none ∨ b = [] := by
  cases b with
  | nil => exact .inr rfl
  | cons c r =>
    left
    cases hu : getU ((c :: r).set 0 0) with
    | none => rfl
    | some u =>
      exfalso
      obtain ⟨h1, h2, h3⟩ := get_is.1 hu
      obtain ⟨⟨h4, h5⟩, _⟩ := h1
      have e : (frameL u)[0]? = some (0 : UInt8) := by rw [h3]; rfl
      have e2 : (frameL u)[0]? = some (UInt8.ofNat u.Kind.toNat) := by unfold frameL bodyF; rfl
      rw [e2] at e
      injection e with e
      have := congrArg UInt8.toNat e
      rw [UInt8.toNat_ofNat'] at this
      simp at this
      omega
theorem and1023 (x : Int) : ∃ n : Nat, and64 x (1023 : Int) = (n : Int) ∧ n ≤ 1023 := by
  refine ⟨((BitVec.ofInt 64 x).toNat &&& 1023), ?_, Nat.and_le_right⟩
  unfold and64 bitsI
  have hb : (BitVec.ofInt IntKind.i64.bits (1023 : Int)).toNat = 1023 := by decide
  simp only
  rw [BitVec.toNat_and, hb]
  have h2 : (BitVec.ofInt IntKind.i64.bits x).toNat &&& 1023 ≤ 1023 := Nat.and_le_right
  exact wr_eq (by omega) (by omega)
theorem set_self {l : List (List UInt8)} {k : Nat} (hk : k < l.length) : l.set k (l.getD k []) = l := by
  refine list_ext_getD [] (by simp) fun i hi => ?_
  rw [set_getD hk]
  split
  · rename_i h; rw [h]
  · rfl
theorem rot_step {B l : List (List UInt8)} {k : Nat} (h : Rot B l) (hk : k < B.length) {u : Unit_api} (hu : getU (l.getD k []) = some u) (hK : u.Kind ≠ 2) : Rot B (l.set k ((l.getD k []).set 0 0)) := by
  obtain ⟨h1, h2, h3⟩ := h
  have hmem : l.getD k [] ∈ l := by
    rw [List.getD_eq_getElem?_getD, List.getElem?_eq_getElem (by omega)]
    exact List.getElem_mem _
  refine ⟨by simp [h1], fun b hb => ?_, fun n hn => ?_⟩
  · rcases List.mem_or_eq_of_mem_set hb with hb | rfl
    · exact h2 b hb
    · rw [List.length_set]; exact h2 _ hmem
  · rw [set_getD (by omega)]
    by_cases hnk : n = k
    · subst hnk
      rw [if_pos rfl]
      right
      have he : l.getD n [] = B.getD n [] := by
        rcases h3 n hn with h | ⟨h, _⟩
        · exact h
        · rw [hu] at h; cases h
      refine ⟨?_, fun v hv => ?_⟩
      · rcases zero_none (b := l.getD n []) with h | h
        · exact h
        · rw [h]
          cases hq : getU (([] : List UInt8).set 0 0) with
          | none => rfl
          | some v =>
            have := (get_is.1 hq).2
            have h9 := frame_len this.1
            rw [this.2] at h9
            simp at h9
            omega
      · rw [← he, hu] at hv
        injection hv with hv
        subst hv
        exact hK
    · rw [if_neg hnk]
      exact h3 n hn
theorem vol_finds (sizes spots : List Int) : X.cartridgelaw11_VolumeFinds sizes spots = some true := by
  unfold X.cartridgelaw11_VolumeFinds
  rw [alive11, bd_s]
  split
  · rfl
  rename_i hc
  simp only [Bool.not_true, Bool.false_or, Bool.or_eq_true, decide_eq_true_eq] at hc
  have hm : sizes.length ≤ 8 := by omega
  have hs : spots.length ≤ 10 := by omega
  clear hc
  have hput : X.cartridgeref1_PutFrame_or ⟨1, 7, 0, [68]⟩ = some (lbl, 0) := by
    rw [y_putO _ (by simp), put_ok (by decide) (by decide)]
    rfl
  rw [hput, bd_s, need_is (by decide), bd_s]
  obtain ⟨ns, hns, hns2⟩ : ∃ ns : Nat → Nat, (∀ i, and64 (sizes.getD i 0) 127 = (ns i : Int)) ∧ ∀ i, ns i ≤ 127 := by
    refine ⟨fun i => (and64 (sizes.getD i 0) 127).toNat, fun i => ?_, fun i => ?_⟩
    · obtain ⟨n, h1, h2⟩ := and127 (sizes.getD i 0); dsimp only; rw [h1]; rfl
    · obtain ⟨n, h1, h2⟩ := and127 (sizes.getD i 0); dsimp only; rw [h1]; exact h2
  have hlen := BB_len ns hns2
  have p97 : pathB [(97 : UInt8)] = true := by decide +kernel
  let W : Nat → Part_api := fun i => ⟨hdK 97 (i + 1) (ns i), 7, ((BB ns i).length : Int)⟩
  have hrun : run (X.cartridgelaw11_VolumeFinds_s22 sizes) ((7 : Int), (64 : Int), (([] : List (List UInt8)) ++ ([lbl] : List (List UInt8))), false, ([] : List Part_api), (0 : Int)) = some ((7 : Int), (64 : Int), BB ns sizes.length, false, tab sizes.length W) := by
    refine run_is _ (fun s => ∃ i : Nat, i ≤ sizes.length ∧ s = ((7 : Int), (64 : Int), BB ns i, false, tab i W, (i : Int))) (fun s => sizes.length - s.2.2.2.2.2.toNat) ⟨0, by omega, rfl⟩ (by simp; omega) ?_
    rintro s ⟨i, hi, rfl⟩
    unfold X.cartridgelaw11_VolumeFinds_s22
    dsimp only
    by_cases hlt : i < sizes.length
    · left
      have h1 := hlen i
      have h2 := hns2 i
      rw [if_pos (by simp; omega), getI_getD 0 hlt, bd_s, hns i, need_is (by omega), bd_s, wr_succ (by omega), Int.toNat_natCast]
      have hb := fK_blocksO (p := 97) (v := i + 1) (n := ns i) (a := (BB ns i).length) p97 (by omega) (by omega) (by omega)
      unfold hdK zs at hb
      rw [hb, bd_s, need_is (by simp [tab]; omega), bd_s, need_is (by rw [fK_len]; unfold dN; omega), bd_s]
      exact ⟨_, rfl, ⟨i + 1, by omega, by rw [tab_succ]; rfl⟩, by dsimp only; omega⟩
    · right
      have : i = sizes.length := by omega
      rw [if_neg (by simp; omega), this]
  rw [hrun, bd_s]
  dsimp only
  unfold X.cartridgelaw11_VolumeFinds_e22
  have hM := hlen sizes.length
  have hN : 0 < (BB ns sizes.length).length := by
    cases sizes.length with
    | zero => simp [BB]
    | succ m => simp only [BB, List.length_append, fK_len]; omega
  have hB94 := BB_le ns sizes.length
  generalize hBB : BB ns sizes.length = B at hM hN hB94 ⊢
  have hrot : ∃ l, Rot B l ∧ run (X.cartridgelaw11_VolumeFinds_s42 spots) ((7 : Int), (64 : Int), B, false, (0 : Int)) = some ((7 : Int), (64 : Int), l, false) := by
    have := run_inv (f := X.cartridgelaw11_VolumeFinds_s42 spots) (s := ((7 : Int), (64 : Int), B, false, (0 : Int))) (fun s => ∃ (i : Nat) (l : List (List UInt8)), i ≤ spots.length ∧ Rot B l ∧ s = ((7 : Int), (64 : Int), l, false, (i : Int))) (fun r => ∃ l, Rot B l ∧ r = ((7 : Int), (64 : Int), l, false)) (fun s => spots.length - s.2.2.2.2.toNat)
      ⟨0, B, by omega, ⟨rfl, hB94, fun n hn => .inl rfl⟩, rfl⟩ (by simp; omega) ?_
    · obtain ⟨r, h1, l, h2, rfl⟩ := this
      exact ⟨l, h2, h1⟩
    rintro s ⟨i, l, hi, hl, rfl⟩
    unfold X.cartridgelaw11_VolumeFinds_s42
    dsimp only
    by_cases hlt : i < spots.length
    · left
      obtain ⟨a, ha, ha2⟩ := and1023 (spots.getD i 0)
      have hk : a % B.length < B.length := Nat.mod_lt _ hN
      have hkl : a % B.length < l.length := by rw [hl.1]; exact hk
      have hL : ((l.length : Nat) : Int) ≠ 0 := by rw [hl.1]; omega
      have hb94 : (l.getD (a % B.length) []).length ≤ 94 := by
        refine hl.2.1 _ ?_
        rw [List.getD_eq_getElem?_getD, List.getElem?_eq_getElem hkl]
        exact List.getElem_mem _
      rw [if_pos (by simp; omega), getI_getD 0 hlt, bd_s, need_is hL, bd_s, ha, tmod_nat, hl.1, getI_getD [] hkl, bd_s, bd_s, y_get _ (by omega), bd_s, Int.toNat_natCast, set_self hkl]
      unfold getF
      cases hu : getU (l.getD (a % B.length) []) with
      | none =>
        dsimp only
        rw [if_neg (by decide)]
        unfold X.cartridgelaw11_VolumeFinds_j63
        rw [wr_succ (by omega)]
        exact ⟨_, rfl, ⟨i + 1, l, by omega, hl, rfl⟩, by dsimp only; omega⟩
      | some u =>
        dsimp only
        by_cases hK : u.Kind = 2
        · rw [if_neg (by simp [hK])]
          unfold X.cartridgelaw11_VolumeFinds_j63
          rw [wr_succ (by omega)]
          exact ⟨_, rfl, ⟨i + 1, l, by omega, hl, rfl⟩, by dsimp only; omega⟩
        · rw [if_pos (by simp [hK]), getI_getD [] hkl, bd_s, bd_s]
          have h0 : 0 < (l.getD (a % B.length) []).length := by
            have := get_is.1 hu
            have h9 := frame_len this.2.1
            rw [this.2.2] at h9
            omega
          rw [show (0 : Int) = ((0 : Nat) : Int) from rfl, getI_nat h0, bd_s, Int.toNat_natCast]
          unfold X.cartridgelaw11_VolumeFinds_j63
          rw [wr_succ (by omega)]
          exact ⟨_, rfl, ⟨i + 1, _, by omega, rot_step hl hk hu hK, rfl⟩, by dsimp only; omega⟩
    · right
      rw [if_neg (by simp; omega)]
      exact ⟨_, rfl, l, hl, rfl⟩
  obtain ⟨l, ⟨hl1, hl2, hl3⟩, hrun2⟩ := hrot
  rw [hrun2, bd_s]
  dsimp only
  unfold X.cartridgelaw11_VolumeFinds_e42
  have L : Laid ⟨7, 64, l, false⟩ sizes.length (fun i => hdK 97 (i + 1) (ns i)) (fun i => (BB ns i).length) := by
    refine ⟨rfl, by show l.length ≤ 100000; omega, fun b hb => ?_, rfl, fun i hi => ?_, ?_, fun i hi => ?_, fun n hn hn2 => ?_⟩
    · have := hl2 b hb; omega
    · show (((BB ns i ++ fK 97 (i + 1) (ns i) (BB ns i).length).length : Nat) : Int) = _
      rw [List.length_append, fK_len]
      show _ = ((BB ns i).length : Int) + 2 + dI ((ns i : Nat) : Int)
      rw [dI_nat]
      omega
    · show (BB ns sizes.length).length ≤ l.length
      rw [hBB, hl1]; exact Nat.le_refl _
    · obtain ⟨a1, a2⟩ := BB_at ns hi
      rw [hBB] at a1 a2
      have b1 := hlen i
      have b2 := hns2 i
      have b3 : ((BB ns (i + 1)).length) ≤ B.length := by
        rw [← hBB]
        rcases Nat.lt_or_eq_of_le (Nat.succ_le_of_lt hi) with h | h
        · exact Nat.le_of_lt (BB_at ns h).2
        · rw [show i + 1 = sizes.length from h]; exact Nat.le_refl _
      have b4 : (BB ns (i + 1)).length = (BB ns i).length + (dN (ns i) + 2) := by simp only [BB, List.length_append, fK_len]
      obtain ⟨u, u1, u2, u3, u4, u5, u6, u7, u8⟩ := fr_get (p := 97) (v := i + 1) (n := ns i) (a := (BB ns i).length) (i := 0) p97 (by omega) (by omega) (by omega) (by omega)
      have hgl : l.getD (BB ns i).length [] = frameL u := by
        rcases hl3 _ a2 with h | ⟨_, h⟩
        · rw [h, a1, u1]
        · exact absurd (u7.2 rfl) (h u (by rw [a1, u1]; exact u2))
      have hg := good_at (t := ⟨7, 64, l, false⟩) (n := (BB ns i).length) (u := u) rfl (by show _ < l.length; omega) hgl u2 u5 u6
      unfold partB
      rw [hg]
      dsimp only
      rw [u8 rfl, readH_enc (hdK_right p97 (by omega) (by omega)), if_pos]
      refine ⟨rfl, u7.2 rfl, rfl, ?_⟩
      show ((BB ns i).length : Int) + 1 + dI ((ns i : Nat) : Int) < ((l.length : Nat) : Int)
      rw [dI_nat]
      omega
    · have h1 : (BB ns sizes.length).length ≤ n := hn
      have h2 : n < l.length := hn2
      rw [hBB] at h1
      omega
  rw [parts_laid L (by omega), bd_s]
  have hsame := parts_same (tab sizes.length W) (by simp [tab]; omega)
  show (X.cartridgelaw11_SameParts (tab sizes.length W) (tab sizes.length W)).bind _ = _
  rw [hsame]
  rfl
end Go.AX
