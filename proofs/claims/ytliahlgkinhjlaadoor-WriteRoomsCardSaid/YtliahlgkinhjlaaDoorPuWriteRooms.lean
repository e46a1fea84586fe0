import Derived.Test.YtliahlgkinhjlaaDoorXFn
import Derived.Test.YtliahlgkinhjlaaDoorLibC
import Derived.Laws.RangeAny
import Derived.Laws.RangeString
/- Plain laws, put together. -/
set_option linter.unusedVariables false
set_option linter.unusedSimpArgs false
/- Plain laws of counting loops and of lists that are filled place by place. -/
namespace Go.AX
theorem iter_more {σ ρ : Type} {f : σ → Option (σ ⊕ ρ)} : ∀ {n : Nat} {s : σ} {r : ρ} (k : Nat), iter f n s = some r → iter f (n + k) s = some r
  | 0, _, _, _, h => by simp [iter] at h
  | n + 1, s, r, k, h => by
    rw [Nat.add_right_comm]
    simp only [iter] at h ⊢
    cases hs : f s with
    | none => rw [hs] at h; cases h
    | some q =>
      rw [hs] at h
      cases q with
      | inl s' => exact iter_more k h
      | inr r' => exact h
theorem run_few {σ ρ : Type} {f : σ → Option (σ ⊕ ρ)} {s : σ} {r : ρ} (n : Nat) (hn : n ≤ 1000000) (h : iter f n s = some r) : run f s = some r := by
  unfold run
  rw [FUEL_eq, show (4611686018427387904 : Nat) = n + (4611686018427387904 - n) from by omega]
  exact iter_more _ h
/-- A loop over numbers. -/
theorem run_ix {σ ρ : Type} {f : σ × Int → Option ((σ × Int) ⊕ ρ)} {s0 : σ} {a n : Nat} (I : Nat → σ → Prop) (R : ρ → Prop) (han : a ≤ n) (hn : n ≤ 4000000000000000000) (h0 : I a s0)
    (step : ∀ i s, a ≤ i → i < n → I i s → (∃ s', f (s, (i : Int)) = some (.inl (s', ((i + 1 : Nat) : Int))) ∧ I (i + 1) s') ∨ ∃ r, f (s, (i : Int)) = some (.inr r) ∧ R r)
    (fin : ∀ s, I n s → ∃ r, f (s, (n : Int)) = some (.inr r) ∧ R r) : ∃ r, run f (s0, (a : Int)) = some r ∧ R r := by
  refine run_inv (fun p => ∃ i : Nat, p.2 = (i : Int) ∧ a ≤ i ∧ i ≤ n ∧ I i p.1) R (fun p => n - p.2.toNat) ⟨a, rfl, Nat.le_refl _, han, h0⟩ (by simp only; omega) ?_
  rintro ⟨s, x⟩ ⟨i, rfl, hai, hin, hI⟩
  rcases Nat.lt_or_ge i n with hlt | hge
  · rcases step i s hai hlt hI with ⟨s', h1, h2⟩ | h
    · exact .inl ⟨_, h1, ⟨i + 1, rfl, by omega, by omega, h2⟩, by simp only; omega⟩
    · exact .inr h
  · have : i = n := by omega
    subst this
    exact .inr (fin s hI)
/-- A loop over numbers, told as a function of them. -/
theorem run_G {σ ρ : Type} {f : σ × Int → Option ((σ × Int) ⊕ ρ)} (G : Nat → σ) {s0 : σ} {a n : Nat} {r : ρ} (han : a ≤ n) (hn : n ≤ 4000000000000000000) (h0 : s0 = G a)
    (step : ∀ i, a ≤ i → i < n → f (G i, (i : Int)) = some (.inl (G (i + 1), ((i + 1 : Nat) : Int)))) (fin : f (G n, (n : Int)) = some (.inr r)) : run f (s0, (a : Int)) = some r := by
  obtain ⟨r', h1, h2⟩ := run_ix (f := f) (s0 := s0) (a := a) (n := n) (fun i s => s = G i) (fun x => x = r) han hn h0 (fun i s hi hlt e => .inl ⟨_, by rw [e]; exact step i hi hlt, rfl⟩) (fun s e => ⟨r, by rw [e]; exact fin, rfl⟩)
  rw [h1, h2]
theorem run_G0 {σ ρ : Type} {f : σ × Int → Option ((σ × Int) ⊕ ρ)} (G : Nat → σ) {s0 : σ} {n : Nat} {r : ρ} (hn : n ≤ 4000000000000000000) (h0 : s0 = G 0)
    (step : ∀ i, i < n → f (G i, (i : Int)) = some (.inl (G (i + 1), ((i + 1 : Nat) : Int)))) (fin : f (G n, (n : Int)) = some (.inr r)) : run f (s0, (0 : Int)) = some r :=
  run_G (a := 0) G (Nat.zero_le _) hn h0 (fun i _ h => step i h) fin
theorem run_ix0 {σ ρ : Type} {f : σ × Int → Option ((σ × Int) ⊕ ρ)} {s0 : σ} {n : Nat} (I : Nat → σ → Prop) (R : ρ → Prop) (hn : n ≤ 4000000000000000000) (h0 : I 0 s0)
    (step : ∀ i s, i < n → I i s → (∃ s', f (s, (i : Int)) = some (.inl (s', ((i + 1 : Nat) : Int))) ∧ I (i + 1) s') ∨ ∃ r, f (s, (i : Int)) = some (.inr r) ∧ R r)
    (fin : ∀ s, I n s → ∃ r, f (s, (n : Int)) = some (.inr r) ∧ R r) : ∃ r, run f (s0, (0 : Int)) = some r ∧ R r :=
  run_ix (a := 0) I R (Nat.zero_le _) hn h0 (fun i s _ h k => step i s h k) fin
/-- A search over numbers, without other state. -/
theorem run_se {ρ : Type} {f : Int → Option (Int ⊕ ρ)} {a n : Nat} (R : ρ → Prop) (I : Nat → Prop) (han : a ≤ n) (hn : n ≤ 4000000000000000000) (h0 : I a)
    (step : ∀ i, a ≤ i → i < n → I i → (f (i : Int) = some (.inl ((i + 1 : Nat) : Int)) ∧ I (i + 1)) ∨ ∃ r, f (i : Int) = some (.inr r) ∧ R r)
    (fin : I n → ∃ r, f (n : Int) = some (.inr r) ∧ R r) : ∃ r, run f (a : Int) = some r ∧ R r := by
  refine run_inv (fun x => ∃ i : Nat, x = (i : Int) ∧ a ≤ i ∧ i ≤ n ∧ I i) R (fun x => n - x.toNat) ⟨a, rfl, Nat.le_refl _, han, h0⟩ (by omega) ?_
  rintro x ⟨i, rfl, hai, hin, hI⟩
  rcases Nat.lt_or_ge i n with hlt | hge
  · rcases step i hai hlt hI with ⟨h1, h2⟩ | h
    · exact .inl ⟨_, h1, ⟨i + 1, rfl, by omega, by omega, h2⟩, by omega⟩
    · exact .inr h
  · have : i = n := by omega
    subst this
    exact .inr (fin hI)
/-- A list told place by place. -/
def tab {α : Type} (n : Nat) (g : Nat → α) : List α := (List.range n).map g
section
variable {α : Type} {n : Nat} {g g' : Nat → α}
@[simp] theorem tab_len : (tab n g).length = n := by simp [tab]
theorem tab_get {i : Nat} (h : i < (tab n g).length) : (tab n g)[i] = g i := by simp [tab]
theorem tab_get? {i : Nat} (h : i < n) : (tab n g)[i]? = some (g i) := by simp [tab, h]
theorem getI_tab {i : Nat} (h : i < n) : getI (tab n g) (i : Int) = some (g i) := by rw [getI_nat (by simpa using h), tab_get]
theorem tab_succ : tab (n + 1) g = tab n g ++ [g n] := by simp [tab, List.range_succ]
theorem tab_zero : tab 0 g = [] := rfl
theorem tab_getD {i : Nat} {z : α} : (tab n g).getD i z = if i < n then g i else z := by
  by_cases h : i < n
  · simp [tab, h, List.getD_eq_getElem?_getD]
  · rw [if_neg h, List.getD_eq_getElem?_getD, List.getElem?_eq_none (by simp; omega)]; rfl
theorem mem_tab {x : α} : x ∈ tab n g ↔ ∃ i, i < n ∧ g i = x := by simp [tab]
theorem getI_getD {xs : List α} (z : α) {i : Nat} (h : i < xs.length) : getI xs (i : Int) = some (xs.getD i z) := by
  rw [getI_nat h]; simp [List.getD_eq_getElem?_getD, h]
theorem set_getD {xs : List α} {z : α} {i j : Nat} {y : α} (h : i < xs.length) : (xs.set i y).getD j z = if j = i then y else xs.getD j z := by
  simp only [List.getD_eq_getElem?_getD, List.getElem?_set]
  by_cases e : i = j
  · subst e; simp [h]
  · rw [if_neg e, if_neg fun h : j = i => e h.symm]
end
end Go.AX
/- Texts cut at a sign, and their parts. -/
namespace Go.AX
def okN (x : Nat) : Bool := (decide (97 ≤ x) && decide (x ≤ 122)) || (decide (48 ≤ x) && decide (x ≤ 57)) || x == 46 || x == 45 || x == 95
def badB (w : List UInt8) : Bool := w == [] || w == [46] || w == [46, 46] || w.any fun x => !okN x.toNat
def splA (w : List UInt8) : List UInt8 → List (List UInt8)
  | [] => [w]
  | x :: l => if x = 47 then w :: splA [] l else splA (w ++ [x]) l
def spl (l : List UInt8) : List (List UInt8) := splA [] l
def pathB (l : List UInt8) : Bool := decide (l.length ≤ 24) && !(spl l).any badB
theorem splA_no : ∀ {l w : List UInt8}, (47 : UInt8) ∉ l → splA w l = [w ++ l]
  | [], w, _ => by simp [splA]
  | x :: l, w, h => by
    have h1 : x ≠ 47 := fun e => h (by simp [e])
    rw [splA, if_neg h1, splA_no (fun h2 => h (List.mem_cons_of_mem _ h2))]
    simp
theorem splA_cut : ∀ {a l w : List UInt8}, (47 : UInt8) ∉ a → splA w (a ++ 47 :: l) = (w ++ a) :: splA [] l
  | [], l, w, _ => by simp [splA]
  | x :: a, l, w, h => by
    have h1 : x ≠ 47 := fun e => h (by simp [e])
    show splA w (x :: (a ++ 47 :: l)) = _
    rw [splA, if_neg h1, splA_cut (fun h2 => h (List.mem_cons_of_mem _ h2))]
    simp
theorem spl_no {l : List UInt8} (h : (47 : UInt8) ∉ l) : spl l = [l] := by rw [spl, splA_no h]; rfl
theorem spl_cut {a l : List UInt8} (h : (47 : UInt8) ∉ a) : spl (a ++ 47 :: l) = a :: spl l := by rw [spl, splA_cut h]; rfl
theorem splA_len : ∀ (l w : List UInt8), (splA w l).length = l.count 47 + 1
  | [], w => rfl
  | x :: l, w => by
    unfold splA
    split
    · next h => subst h; simp [splA_len l]
    · next h => rw [splA_len l]; simp [h]
theorem spl_len (l : List UInt8) : (spl l).length = l.count 47 + 1 := splA_len l []
theorem spl_pos (l : List UInt8) : 0 < (spl l).length := by rw [spl_len]; omega
end Go.AX
/- Which texts are paths, and their parts. -/
namespace Go.AX
open Go.AM
set_option linter.unusedSimpArgs false
theorem bd_s {α β : Type} (a : α) (f : α → Option β) : (some a).bind f = f a := rfl
theorem other_is (x : Nat) : X.path_other (I32.mk (x : Int)) = some (!okN x) := by
  unfold X.path_other okN
  simp only
  congr 1
  rw [Bool.eq_iff_iff]
  simp
  omega
theorem ba_get (s : Str) (i : Nat) (h : i < s.ba.size) : s.ba[i]'h = s.l[i]'(by rw [ba_size] at h; exact h) := rfl
theorem okN_high {x : Nat} (h : 128 ≤ x) : okN x = false := by
  unfold okN
  simp
  omega
theorem idx_from (s : Str) : ∀ (f pos : Nat), s.l.length ≤ pos + f → (0 ≤ Lib.idxFuncFrom (fun x => !okN x) true s.ba f pos ↔ ∃ i, ∃ h : i < s.l.length, pos ≤ i ∧ okN (s.l[i]).toNat = false)
  | 0, pos, h => by
    unfold Lib.idxFuncFrom
    constructor
    · intro h; omega
    · rintro ⟨i, h1, h2, _⟩; omega
  | f + 1, pos, h => by
    unfold Lib.idxFuncFrom
    by_cases hp : pos < s.ba.size
    · rw [if_pos hp]
      have hp' : pos < s.l.length := by rwa [ba_size] at hp
      by_cases ha : (s.l[pos]).toNat < 128
      · have hd := Go.decode_ascii s.ba pos hp (by rw [ba_get]; exact ha)
        have hd1 : (Utf8.decode s.ba pos).1 = (s.l[pos]).toNat := by rw [hd]; rfl
        have hd2 : (Utf8.decode s.ba pos).2 = 1 := by rw [hd]
        by_cases hk : okN (s.l[pos]).toNat = true
        · rw [if_neg (by show ¬ ((!okN (Utf8.decode s.ba pos).1) = true); rw [hd1]; simp [hk]), hd2, idx_from s f (pos + 1) (by omega)]
          constructor
          · rintro ⟨i, h1, h2, h3⟩; exact ⟨i, h1, by omega, h3⟩
          · rintro ⟨i, h1, h2, h3⟩
            refine ⟨i, h1, ?_, h3⟩
            rcases Nat.lt_or_ge pos i with h4 | h4
            · exact h4
            · obtain rfl : i = pos := by omega
              rw [hk] at h3; cases h3
        · have hk : okN (s.l[pos]).toNat = false := by simpa using hk
          rw [if_pos (by show (!okN (Utf8.decode s.ba pos).1) = true; rw [hd1]; simp [hk])]
          exact ⟨fun _ => ⟨pos, hp', Nat.le_refl _, hk⟩, fun _ => by omega⟩
      · obtain ⟨h1, h2⟩ := Go.decode_high s.ba pos hp (by rw [ba_get]; omega)
        rw [if_pos (by show (!okN (Utf8.decode s.ba pos).1) = true; simp [okN_high h1])]
        exact ⟨fun _ => ⟨pos, hp', Nat.le_refl _, okN_high (by omega)⟩, fun _ => by omega⟩
    · rw [if_neg hp]
      rw [ba_size] at hp
      constructor
      · intro h; omega
      · rintro ⟨i, h1, h2, _⟩; omega
theorem cont_is (s : Str) : X.strings_ContainsFunc s (fun a1 => X.path_other a1) = some (s.l.any fun x => !okN x.toNat) := by
  unfold X.strings_ContainsFunc X.strings_IndexFunc X.strings_indexFunc
  rw [if_pos (by intro x _; show (X.path_other _).isSome = true; rw [other_is]; rfl), bd_s, bd_s]
  have e : (fun x : Nat => (X.path_other (I32.mk (x : Int))).getD false) = fun x => !okN x := by
    funext x; rw [other_is]; rfl
  rw [e]
  congr 1
  rw [Bool.eq_iff_iff, decide_eq_true_eq]
  have := idx_from s s.ba.size 0 (by rw [ba_size]; omega)
  unfold Lib.idxFunc
  rw [ge_iff_le, this, List.any_eq_true]
  constructor
  · rintro ⟨i, h1, _, h2⟩; exact ⟨s.l[i], List.getElem_mem h1, by simp [h2]⟩
  · rintro ⟨x, h1, h2⟩
    obtain ⟨i, h3, rfl⟩ := List.mem_iff_getElem.1 h1
    exact ⟨i, h3, Nat.zero_le _, by simpa using h2⟩
theorem wrong_is (s : Str) : X.path_wrong s = some (badB s.l) := by
  unfold X.path_wrong badB
  rw [cont_is]
  simp only [optG]
  cases h1 : s.l == [] <;> cases h2 : s.l == [46] <;> cases h3 : s.l == [46, 46] <;> simp [bd_s, h1, h2, h3]
theorem ixb_cut : ∀ {a l : List UInt8}, (47 : UInt8) ∉ a → Lib.indexByte (a ++ 47 :: l) 47 = (a.length : Int)
  | [], l, _ => by simp [Lib.indexByte]
  | x :: a, l, h => by
    have h1 : x ≠ 47 := fun e => h (by simp [e])
    show Lib.indexByte (x :: (a ++ 47 :: l)) 47 = _
    rw [Lib.indexByte, ixb_cut (fun h2 => h (List.mem_cons_of_mem _ h2))]
    simp [h1]
theorem cut_at : ∀ {l : List UInt8}, (47 : UInt8) ∈ l → ∃ a r, l = a ++ 47 :: r ∧ (47 : UInt8) ∉ a
  | [], h => by cases h
  | x :: l, h => by
    by_cases h1 : x = 47
    · exact ⟨[], l, by rw [h1]; rfl, by simp⟩
    · obtain ⟨a, r, e, h2⟩ := cut_at (l := l) (by rcases List.mem_cons.1 h with e | e; exact absurd e.symm h1; exact e)
      exact ⟨x :: a, r, by rw [e]; rfl, by simp [h2, Ne.symm h1]⟩
theorem index_is (s : Str) : X.strings_Index_k47 s = some (Lib.indexByte s.l 47) := by
  unfold X.strings_Index_k47 X.stringslite_Index_k47 X.stringslite_IndexByte
  have e : getI (Str.mk [47]).l (0 : Int) = some 47 := rfl
  by_cases h : (Str.mk [47]).l == s.l
  · rw [if_pos h]
    have : s.l = [47] := (eq_of_beq h).symm
    rw [this]; rfl
  · rw [if_neg h, e]; rfl
theorem slc_nn {α : Type} (xs : List α) (a b : Nat) : slc xs (a : Int) (b : Int) = (xs.drop a).take (b - a) := by
  unfold slc
  simp
theorem slc_0n {α : Type} (xs : List α) (b : Nat) : slc xs (0 : Int) (b : Int) = xs.take b := by
  have := slc_nn xs 0 b
  simpa using this
theorem split_is (s : Str) (hl : s.l.length ≤ 1000) : X.strings_Split_k47 s = some ((spl s.l).map Str.mk) := by
  have hc : s.l.count 47 ≤ s.l.length := List.count_le_length
  unfold X.strings_Split_k47 X.strings_genSplit_k47_0_1 X.strings_Count_k47
  have e : getI (Str.mk [47]).l (0 : Int) = some 47 := rfl
  rw [e, bd_s, bd_s]
  generalize hn : s.l.count 47 = c at *
  have e1 : wr ((c : Int) + (1 : Int)) = ((c + 1 : Nat) : Int) := wr_succ (by omega)
  have e2 : wr ((s.l.length : Int) + (1 : Int)) = ((s.l.length + 1 : Nat) : Int) := wr_succ (by omega)
  have e3 : min (((c + 1 : Nat) : Int)) (((s.l.length + 1 : Nat) : Int)) = ((c + 1 : Nat) : Int) := by omega
  rw [e1, e2, e3, need_is (by omega), bd_s]
  have e4 : wr (((c + 1 : Nat) : Int) - (1 : Int)) = (c : Int) := by rw [wr_eq (by omega) (by omega)]; omega
  have key : ∃ o, run (X.strings_genSplit_k47_0_1_s17 (c : Int) s) (s, List.replicate (((c + 1 : Nat) : Int)).toNat (Str.mk []), (0 : Int)) = some o ∧
      ∃ (rest : Str) (arr : List Str), o = (rest, arr, (c : Int)) ∧ arr.length = c + 1 ∧ (spl rest.l).length = 1 ∧ arr.take c ++ (spl rest.l).map Str.mk = (spl s.l).map Str.mk := by
    refine run_inv (fun p => ∃ (i : Nat) (rest : Str) (arr : List Str), p = (rest, arr, (i : Int)) ∧ arr.length = c + 1 ∧ i + (spl rest.l).length = c + 1 ∧ rest.l.length ≤ 1000 ∧ arr.take i ++ (spl rest.l).map Str.mk = (spl s.l).map Str.mk) _ (fun p => c - p.2.2.toNat)
      ⟨0, s, _, rfl, by simp, by rw [spl_len, hn]; omega, hl, by simp⟩ (by simp only; omega) ?_
    rintro _ ⟨i, rest, arr, rfl, h1, h2, h3, h4⟩
    unfold X.strings_genSplit_k47_0_1_s17
    simp only [e1, e2, e3, e4]
    rcases Nat.lt_or_ge i c with hi | hi
    · left
      rw [if_pos (by simp; omega), index_is, bd_s]
      have hm : (47 : UInt8) ∈ rest.l := by
        refine Decidable.by_contra fun hno => ?_
        rw [spl_no hno] at h2
        simp at h2
        omega
      obtain ⟨a, r, er, ha⟩ := cut_at hm
      have hlen : rest.l.length = a.length + 1 + r.length := by rw [er]; simp; omega
      rw [er, ixb_cut ha, if_neg (by simp), ← er]
      have w0 : wr ((a.length : Int) + (0 : Int)) = (a.length : Int) := by rw [wr_eq (by omega) (by omega)]; omega
      have w1 : wr ((a.length : Int) + (1 : Int)) = ((a.length + 1 : Nat) : Int) := wr_succ (by omega)
      rw [w0, w1, need_is (by omega), bd_s, getI_nat (by omega), bd_s, need_is (by omega), bd_s, slc_0n, slc_nn, wr_succ (by omega)]
      refine ⟨_, rfl, ⟨i + 1, _, _, rfl, by simp [h1], ?_, ?_, ?_⟩, by simp only; omega⟩
      · simp only
        have e5 : (rest.l.drop (a.length + 1)).take (rest.l.length - (a.length + 1)) = r := by
          rw [er]
          rw [List.take_of_length_le (by simp; omega)]
          rw [show a ++ 47 :: r = (a ++ [47]) ++ r by simp, List.drop_left' (by simp)]
        rw [e5]
        rw [er, spl_cut ha] at h2
        simp at h2
        omega
      · simp; omega
      · simp only
        have e5 : (rest.l.drop (a.length + 1)).take (rest.l.length - (a.length + 1)) = r := by
          rw [er]
          rw [List.take_of_length_le (by simp; omega)]
          rw [show a ++ 47 :: r = (a ++ [47]) ++ r by simp, List.drop_left' (by simp)]
        have e6 : rest.l.take a.length = a := by rw [er]; simp
        rw [e5, e6]
        rw [er, spl_cut ha] at h4
        rw [← h4, Int.toNat_natCast]
        have h6 : i < arr.length := by omega
        rw [List.take_succ_eq_append_getElem (by simpa using h6)]
        simp
        rw [List.take_set_of_le (Nat.le_refl _)]
    · right
      rw [if_neg (by simp; omega)]
      have hic : i = c := by have := spl_pos rest.l; omega
      subst hic
      exact ⟨_, rfl, _, _, rfl, h1, by omega, h4⟩
  obtain ⟨o, h1, rest, arr, rfl, h2, h3, h4⟩ := key
  rw [h1, bd_s]
  simp only
  unfold X.strings_genSplit_k47_0_1_e17
  have h47 : (47 : UInt8) ∉ rest.l := by
    intro hm
    rw [spl_len] at h3
    have := List.count_pos_iff.2 hm
    omega
  rw [getI_nat (by omega), bd_s, e1, need_is (by simp; omega), bd_s, slc_0n, Int.toNat_natCast]
  rw [← h4, spl_no h47, List.take_of_length_le (by simp; omega), bd_s]
  congr 1
  apply List.ext_getElem (by simp; omega)
  intro j q1 q2
  simp only [List.length_set] at q1
  rw [List.getElem_set]
  by_cases hj : c = j
  · subst hj
    rw [if_pos rfl, List.getElem_append_right (by simp; omega)]
    simp
  · rw [if_neg hj, List.getElem_append_left (by simp; omega)]
    simp
theorem contL_is (l : List Str) (hl : l.length ≤ 100000) : X.slices_ContainsFunc_Lstring_string l (fun a1 => X.path_wrong a1) = some (l.any fun s => badB s.l) := by
  unfold X.slices_ContainsFunc_Lstring_string X.slices_IndexFunc_Lstring_string
  obtain ⟨o, h1, h2⟩ := run_se (f := X.slices_IndexFunc_Lstring_string_s6 l (fun a1 => X.path_wrong a1)) (a := 0) (n := l.length)
    (fun o => (match o with | .inl _ => l.any (fun s => badB s.l) = false | .inr k => 0 ≤ k ∧ l.any (fun s => badB s.l) = true)) (fun i => (l.take i).any (fun s => badB s.l) = false) (Nat.zero_le _) (by omega) (by simp)
    (fun i _ hi hI => by
      unfold X.slices_IndexFunc_Lstring_string_s6
      simp only
      rw [if_pos (by simpa using hi), getI_nat hi, bd_s, wrong_is, bd_s]
      cases hb : badB l[i].l
      · left
        rw [if_neg (by simp), wr_succ (by omega)]
        exact ⟨rfl, by rw [List.take_succ_eq_append_getElem hi, List.any_append, hI]; simp [hb]⟩
      · right
        rw [if_pos rfl]
        exact ⟨_, rfl, by omega, List.any_eq_true.2 ⟨l[i], List.getElem_mem hi, hb⟩⟩)
    (fun hI => by
      unfold X.slices_IndexFunc_Lstring_string_s6
      simp only
      rw [if_neg (by simp)]
      exact ⟨_, rfl, by simpa using hI⟩)
  have h1' : run (X.slices_IndexFunc_Lstring_string_s6 l (fun a1 => X.path_wrong a1)) (0 : Int) = some o := h1
  rw [h1', bd_s]
  cases o with
  | inl u => simp only at h2; rw [h2]; rfl
  | inr k => simp only at h2; obtain ⟨h2, h3⟩ := h2; rw [h3, bd_s]; simp [h2]
theorem any_mk (L : List (List UInt8)) : (L.map Str.mk).any (fun s => badB s.l) = L.any badB := by
  rw [List.any_map]; rfl
theorem right_is (s : Str) : X.path_Right s = some (pathB s.l) := by
  unfold X.path_Right pathB
  by_cases h : s.l.length ≤ 24
  · have hd : decide ((s.l.length : Int) ≤ (24 : Int)) = true := by simp; omega
    have hd2 : decide (s.l.length ≤ 24) = true := by simpa using h
    rw [hd, hd2, optG_true, split_is s (by omega), bd_s, optG_true, contL_is _ (by simp [spl_len]; have := List.count_le_length (a := (47 : UInt8)) (l := s.l); omega), bd_s, any_mk]
  · have hd : decide ((s.l.length : Int) ≤ (24 : Int)) = false := by simp; omega
    have hd2 : decide (s.l.length ≤ 24) = false := by simpa using h
    rw [hd, hd2, optG_false, bd_s, optG_false, bd_s]; rfl
theorem right_len {l : List UInt8} (h : pathB l = true) : l.length ≤ 24 := by unfold pathB at h; simp at h; exact h.1
end Go.AX
/- The document's own parts of a path are the same. -/
namespace Go.AX
open Go.AM
set_option linter.unusedSimpArgs false
end Go.AX
/- Numbers as four bytes, the highest first. -/
namespace Go.AX
open Go.AM
set_option linter.unusedSimpArgs false
def w4 (n : Nat) : List UInt8 := [UInt8.ofNat (n / 16777216), UInt8.ofNat (n / 65536), UInt8.ofNat (n / 256), UInt8.ofNat n]
def beN (l : List UInt8) : Nat := l.foldl (fun n c => n * 256 + c.toNat) 0
@[simp] theorem w4_len (n : Nat) : (w4 n).length = 4 := rfl
theorem be_w4 {n : Nat} (h : n < 4294967296) : beN (w4 n) = n := by
  simp only [w4, beN, List.foldl_cons, List.foldl_nil, UInt8.toNat_ofNat']
  omega
theorem four {l : List UInt8} (h : l.length = 4) : ∃ a b c d, l = [a, b, c, d] := by
  match l, h with
  | [a, b, c, d], _ => exact ⟨a, b, c, d, rfl⟩
theorem w4_be {l : List UInt8} (h : l.length = 4) : w4 (beN l) = l := by
  obtain ⟨a, b, c, d, rfl⟩ := four h
  have ha := a.toNat_lt
  have hb := b.toNat_lt
  have hc := c.toNat_lt
  have hd := d.toNat_lt
  have e : beN [a, b, c, d] = ((a.toNat * 256 + b.toNat) * 256 + c.toNat) * 256 + d.toNat := by simp [beN]
  have o : ∀ (x : UInt8) (m : Nat), m % 256 = x.toNat → UInt8.ofNat m = x := fun x m hm => by
    apply UInt8.toNat_inj.1
    rw [UInt8.toNat_ofNat', ← hm]
  rw [e]
  unfold w4
  rw [o a _ (by omega), o b _ (by omega), o c _ (by omega), o d _ (by omega)]
theorem be_succ {l : List UInt8} {i : Nat} (h : i < l.length) : beN (l.take (i + 1)) = beN (l.take i) * 256 + (l[i]).toNat := by
  rw [List.take_succ_eq_append_getElem h]
  unfold beN
  rw [List.foldl_append]; rfl
theorem be_pow : ∀ (i : Nat) (l : List UInt8), i ≤ l.length → beN (l.take i) < 256 ^ i
  | 0, l, _ => by simp [beN]
  | i + 1, l, h => by
    rw [be_succ (by omega), Nat.pow_succ]
    have h1 := be_pow i l (by omega)
    have h2 := (l[i]'(by omega)).toNat_lt
    have h3 : (beN (l.take i) + 1) * 256 ≤ 256 ^ i * 256 := Nat.mul_le_mul_right _ h1
    omega
theorem or_add {n c : Nat} (h : c < 256) : n * 256 ||| c = n * 256 + c := by
  have := Nat.shiftLeft_add_eq_or_of_lt (i := 8) (b := c) (by omega) n
  rw [Nat.shiftLeft_eq] at this
  exact this.symm
def tkA (n : Nat) : Option (List UInt8) → List UInt8 × Option (List UInt8)
  | none => ([], none)
  | some b => if n ≤ b.length then (b.take n, some (b.drop n)) else ([], none)
theorem tkA_none (n : Nat) : tkA n none = ([], none) := rfl
theorem tkA_some (n : Nat) (b : List UInt8) : tkA n (some b) = if n ≤ b.length then (b.take n, some (b.drop n)) else ([], none) := rfl
def byA (s : Option (List UInt8)) : UInt8 × Option (List UInt8) := ((tkA 1 s).1.headD 0, (tkA 1 s).2)
def inA (s : Option (List UInt8)) : Int × Option (List UInt8) := (((beN (tkA 4 s).1 : Nat) : Int), (tkA 4 s).2)
theorem tk_len (n : Nat) (s : Option (List UInt8)) : (tkA n s).1.length = 0 ∨ (tkA n s).1.length = n := by
  cases s with
  | none => exact .inl rfl
  | some b =>
    rw [tkA_some]
    by_cases h : n ≤ b.length
    · rw [if_pos h]; right; simp; omega
    · rw [if_neg h]; exact .inl rfl
theorem tk_app {a X : List UInt8} : tkA a.length (some (a ++ X)) = (a, some X) := by
  rw [tkA_some, if_pos (by simp)]
  simp
theorem by_app {c : UInt8} {X : List UInt8} : byA (some (c :: X)) = (c, some X) := by
  have : tkA 1 (some (c :: X)) = ([c], some X) := tk_app (a := [c]) (X := X)
  unfold byA
  rw [this]; rfl
theorem in_app {n : Nat} {X : List UInt8} (h : n < 4294967296) : inA (some (w4 n ++ X)) = ((n : Int), some X) := by
  have : tkA 4 (some (w4 n ++ X)) = (w4 n, some X) := tk_app (a := w4 n) (X := X)
  unfold inA
  rw [this, be_w4 h]
end Go.AX
/- The program's reader. -/
namespace Go.AX
open Go.AM
set_option linter.unusedSimpArgs false
def conC : Option (List UInt8) → List UInt8 × Bool
  | none => ([], true)
  | some b => (b, false)
theorem c_take (n : Nat) (s : Option (List UInt8)) : X.code_Reader_take (n : Int) (conC s).1 (conC s).2 = some ((tkA n s).1, conC (tkA n s).2) := by
  cases s with
  | none => rfl
  | some b =>
    show X.code_Reader_take (n : Int) b false = _
    unfold X.code_Reader_take
    rw [if_neg (by simp)]
    by_cases h : n ≤ b.length
    · rw [if_neg (by simp; omega), need_is (by omega), bd_s, need_is (by omega), bd_s, tkA_some, if_pos h]
      have h1 : slc b (0 : Int) (n : Int) = b.take n := by simp [slc]
      have h2 : slc b (n : Int) (b.length : Int) = b.drop n := by
        unfold slc
        rw [Int.toNat_natCast, List.take_of_length_le (by simp)]
      rw [h1, h2]
      rfl
    · rw [if_pos (by simp; omega), tkA_some, if_neg h]
      rfl
theorem c_byte (s : Option (List UInt8)) : X.code_Reader_Byte (conC s).1 (conC s).2 = some ((byA s).1, conC (byA s).2) := by
  unfold X.code_Reader_Byte
  have := c_take 1 s
  rw [show (1 : Int) = ((1 : Nat) : Int) from rfl, this, bd_s]
  unfold byA
  cases h : (tkA 1 s).1 with
  | nil => rfl
  | cons c l =>
    rw [if_neg (by simp; omega)]
    rfl
theorem c_int (s : Option (List UInt8)) : X.code_Reader_Int (conC s).1 (conC s).2 = some ((inA s).1, conC (inA s).2) := by
  unfold X.code_Reader_Int
  have := c_take 4 s
  rw [show (4 : Int) = ((4 : Nat) : Int) from rfl, this, bd_s]
  have hl : (tkA 4 s).1.length ≤ 4 := by rcases tk_len 4 s with h | h <;> omega
  generalize hx : (tkA 4 s).1 = x at hl
  obtain ⟨n, h1, h2⟩ := run_ix0 (f := X.code_Reader_Int_s10 (x, conC (tkA 4 s).2)) (s0 := (0 : UInt32)) (n := x.length) (fun i n => n.toNat = beN (x.take i)) (fun n => n.toNat = beN x) (by omega) rfl
    (fun i n hi hI => by
      left
      unfold X.code_Reader_Int_s10
      simp only
      rw [if_pos (by simpa using hi), getI_nat hi, bd_s, wr_succ (by omega)]
      refine ⟨_, rfl, ?_⟩
      have hp := be_pow i x (by omega)
      have hi3 : i ≤ 3 := by omega
      have hq : 256 ^ i ≤ 256 ^ 3 := Nat.pow_le_pow_right (by omega) hi3
      have hc := (x[i]).toNat_lt
      rw [be_succ hi, UInt32.toNat_or]
      have e1 : (shl32 n 8).toNat = beN (x.take i) * 256 := by
        unfold shl32
        rw [UInt32.toNat_ofNat', hI]
        omega
      have e2 : (u32 ((x[i]).toNat : Int)).toNat = (x[i]).toNat := by
        unfold u32
        rw [UInt32.toNat_ofNat']
        omega
      rw [e1, e2, or_add hc])
    (fun n hI => by
      unfold X.code_Reader_Int_s10
      simp only
      rw [if_neg (by simp)]
      exact ⟨_, rfl, by simpa using hI⟩)
  rw [h1, bd_s]
  unfold X.code_Reader_Int_e10 inA
  rw [hx]
  simp only [h2]
theorem c_new (b : List UInt8) (h : b.length ≤ 100000) : X.code_NewReader b = some (conC (some b)) := by
  unfold X.code_NewReader X.slices_Clone_Lbyte_byte
  rw [nilU_same (r := b) (fun e => by subst e; rfl) (by simp only [Bool.false_eq_true, if_false]; rw [need_is (by omega), bd_s]), bd_s]
  rfl
end Go.AX
/- Which heads may be, their bytes, and what is read of bytes. -/
namespace Go.AX
open Go.AM
set_option linter.unusedSimpArgs false
theorem optG_b (g a : Bool) : optG g (some a) = some (g && a) := by cases g <;> rfl
def RH (h : Head_api) : Prop := pathB h.Path.l = true ∧ (1 ≤ h.Version ∧ h.Version ≤ 1073741824) ∧ (1 ≤ h.Serial ∧ h.Serial ≤ 1073741824) ∧ (0 ≤ h.Size ∧ h.Size ≤ 4000) ∧ (0 ≤ h.Sum ∧ h.Sum ≤ 4294967295) ∧
  (0 ≤ h.From ∧ h.From ≤ h.Size) ∧ (0 ≤ h.Len ∧ h.Len ≤ h.Size - h.From) ∧ ¬ (h.Len = 0 ∧ 0 < h.Size) ∧ (h.Gone = false ∨ (h.Size = 0 ∧ h.Sum = 0))
instance (h : Head_api) : Decidable (RH h) := by unfold RH; infer_instance
theorem x_right (h : Head_api) : X.record_RightHead h = some (decide (RH h)) := by
  unfold X.record_RightHead X.record_within
  rw [right_is, bd_s]
  simp only [optG_b, bd_s]
  cases hp : pathB h.Path.l
  · have : ¬ RH h := fun hR => by have := hR.1; rw [hp] at this; cases this
    simp [this]
  by_cases h1 : (1 ≤ h.Version ∧ h.Version ≤ 1073741824) ∧ (1 ≤ h.Serial ∧ h.Serial ≤ 1073741824) ∧ (0 ≤ h.Size ∧ h.Size ≤ 4000) ∧ (0 ≤ h.Sum ∧ h.Sum ≤ 4294967295)
  · obtain ⟨⟨a1, a2⟩, ⟨a3, a4⟩, ⟨a5, a6⟩, a7, a8⟩ := h1
    rw [if_neg (by simp [a1, a2, a3, a4, a5, a6, a7, a8])]
    by_cases h2 : (0 ≤ h.From ∧ h.From ≤ h.Size) ∧ (0 ≤ h.Len ∧ h.Len ≤ h.Size - h.From) ∧ ¬ (h.Len = 0 ∧ 0 < h.Size)
    · obtain ⟨⟨b1, b2⟩, ⟨b3, b4⟩, b5⟩ := h2
      rw [wr_eq (by omega) (by omega), if_neg (by simp [b1, b2, b3, b4]; omega)]
      congr 1
      rw [Bool.eq_iff_iff, decide_eq_true_eq]
      unfold RH
      simp only [hp, a1, a2, a3, a4, a5, a6, a7, a8, b1, b2, b3, b4, b5, not_false_eq_true, true_and, and_self]
      simp
    · have hn : ¬ RH h := fun hR => h2 ⟨hR.2.2.2.2.2.1, hR.2.2.2.2.2.2.1, hR.2.2.2.2.2.2.2.1⟩
      rw [decide_eq_false hn, if_pos ?_]
      by_cases b : 0 ≤ h.From ∧ h.From ≤ h.Size
      · rw [wr_eq (by omega) (by omega)]
        simp [b.1, b.2]
        omega
      · simp
        omega
  · have hn : ¬ RH h := fun hR => h1 ⟨hR.2.1, hR.2.2.1, hR.2.2.2.1, hR.2.2.2.2.1⟩
    rw [decide_eq_false hn, if_pos ?_]
    simp
    omega
theorem u8_m (m : Nat) : u8 (m : Int) = UInt8.ofNat m := by
  apply UInt8.toNat_inj.1
  unfold u8
  rw [UInt8.toNat_ofNat', UInt8.toNat_ofNat']
  omega
theorem c_wint {n : Int} {b : List UInt8} (h0 : 0 ≤ n) (h1 : n < 4294967296) (hb : b.length ≤ 100000) : X.code_Writer_Int n b = some (b ++ w4 n.toNat) := by
  unfold X.code_Writer_Int
  rw [need_is (by simp only [List.length_cons, List.length_nil]; omega), bd_s]
  have e : (u32 n).toNat = n.toNat := by
    unfold u32
    rw [UInt32.toNat_ofNat']
    omega
  have s : ∀ k, (shr32 (u32 n) k).toNat = n.toNat / 2 ^ k := fun k => by
    unfold shr32
    rw [UInt32.toNat_ofNat', e]
    exact Nat.mod_eq_of_lt (Nat.lt_of_le_of_lt (Nat.div_le_self _ _) (by omega))
  rw [s, s, s, e]
  simp only [u8_m]
  rfl
theorem c_wbyte {c : UInt8} {b : List UInt8} (hb : b.length ≤ 100000) : X.code_Writer_Byte c b = some (b ++ [c]) := by
  unfold X.code_Writer_Byte
  rw [need_is (by simp only [List.length_cons, List.length_nil]; omega), bd_s]
theorem c_bytes {b : List UInt8} (hb : b.length ≤ 100000) : X.code_Writer_Bytes b = some b := by
  unfold X.code_Writer_Bytes X.slices_Clone_Lbyte_byte_own
  rw [nilU_same (r := b) (fun e => by subst e; rfl) (by simp only [Bool.false_eq_true, if_false]; rw [need_is (by omega), bd_s]), bd_s]
theorem c_wtext {s : Str} (h : s.l.length ≤ 255) : X.code_Writer_Text s [] = some (UInt8.ofNat s.l.length :: s.l) := by
  unfold X.code_Writer_Text
  have e : min (s.l.length : Int) (255 : Int) = (s.l.length : Int) := by omega
  rw [e, slc_all, need_is (by omega), bd_s]
  simp only [u8_m]
  rw [need_is (by simp), bd_s, need_is (by simp; omega), bd_s]
  rfl
def encH (h : Head_api) : List UInt8 := UInt8.ofNat h.Path.l.length :: (h.Path.l ++ (w4 h.Version.toNat ++ (w4 h.Size.toNat ++ (w4 h.From.toNat ++ (w4 h.Len.toNat ++ (w4 h.Serial.toNat ++ (w4 h.Sum.toNat ++ [if h.Gone then 1 else 0])))))))
theorem x_bytes (h : Head_api) : X.record_HeadBytes h = some (if RH h then encH h else []) := by
  unfold X.record_HeadBytes
  rw [x_right, bd_s]
  by_cases hR : RH h
  · rw [decide_eq_true hR, if_neg (by simp), if_pos hR]
    obtain ⟨p1, ⟨a1, a2⟩, ⟨a3, a4⟩, ⟨a5, a6⟩, ⟨a7, a8⟩, ⟨b1, b2⟩, ⟨b3, b4⟩, _, _⟩ := hR
    have pl := right_len p1
    rw [c_wtext (by omega), bd_s]
    have hall : ∀ n ∈ ([h.Version, h.Size, h.From, h.Len, h.Serial, h.Sum] : List Int), 0 ≤ n ∧ n < 4294967296 := by
      intro n hn
      simp only [List.mem_cons, List.not_mem_nil, or_false] at hn
      rcases hn with rfl | rfl | rfl | rfl | rfl | rfl <;> omega
    have key : run (X.record_HeadBytes_s16 h) (UInt8.ofNat h.Path.l.length :: h.Path.l, (0 : Int)) = some ((UInt8.ofNat h.Path.l.length :: h.Path.l) ++ ([h.Version, h.Size, h.From, h.Len, h.Serial, h.Sum] : List Int).flatMap fun n => w4 n.toNat) := by
      generalize hL : ([h.Version, h.Size, h.From, h.Len, h.Serial, h.Sum] : List Int) = L at hall
      have hlen : L.length = 6 := by rw [← hL]; rfl
      refine run_G0 (n := L.length) (fun i => (UInt8.ofNat h.Path.l.length :: h.Path.l) ++ (L.take i).flatMap fun n => w4 n.toNat) (by omega) (by simp) ?_ ?_
      · intro i hi
        unfold X.record_HeadBytes_s16
        simp only [hL]
        obtain ⟨q1, q2⟩ := hall _ (List.getElem_mem hi)
        have hfl : ((L.take i).flatMap fun n => w4 n.toNat).length = 4 * i := by
          rw [List.length_flatMap]
          simp only [w4_len]
          rw [List.map_const', List.sum_replicate_nat, List.length_take]
          omega
        rw [if_pos (by simpa using hi), getI_nat hi, bd_s, c_wint q1 q2 (by simp only [List.length_append, List.length_cons, hfl]; omega), bd_s, wr_succ (by omega)]
        rw [List.take_succ_eq_append_getElem hi, List.flatMap_append]
        simp
      · unfold X.record_HeadBytes_s16
        simp only [hL]
        rw [if_neg (by simp), List.take_length]
    rw [key, bd_s]
    simp only
    unfold X.record_HeadBytes_e16 X.record_HeadBytes_j25
    have e : ∀ c : UInt8, (UInt8.ofNat h.Path.l.length :: h.Path.l) ++ (([h.Version, h.Size, h.From, h.Len, h.Serial, h.Sum] : List Int).flatMap fun n => w4 n.toNat) ++ [c] =
        UInt8.ofNat h.Path.l.length :: (h.Path.l ++ (w4 h.Version.toNat ++ (w4 h.Size.toNat ++ (w4 h.From.toNat ++ (w4 h.Len.toNat ++ (w4 h.Serial.toNat ++ (w4 h.Sum.toNat ++ [c]))))))) := by
      intro c; simp
    unfold encH
    cases hg : h.Gone
    · rw [if_neg (by simp), c_wbyte (by simp; omega), bd_s, e, c_bytes (by simp; omega), bd_s]; rfl
    · rw [if_pos rfl, c_wbyte (by simp; omega), bd_s, e, c_bytes (by simp; omega), bd_s]; rfl
  · rw [decide_eq_false hR, if_pos (by simp), if_neg hR]
theorem x_equal {a b : List UInt8} (ha : a.length ≤ 1000000) : X.slices_Equal_Lbyte_byte a b = some (a == b) := by
  unfold X.slices_Equal_Lbyte_byte
  by_cases hl : a.length = b.length
  · rw [if_neg (by simp [hl])]
    obtain ⟨o, h1, h2⟩ := run_se (f := X.slices_Equal_Lbyte_byte_s9 a b) (a := 0) (n := a.length) (fun o => (o = .inl () ∧ a = b) ∨ (o = .inr false ∧ a ≠ b)) (fun i => a.take i = b.take i) (Nat.zero_le _) (by omega) (by simp)
      (fun i _ hi hI => by
        unfold X.slices_Equal_Lbyte_byte_s9
        simp only
        rw [if_pos (by simpa using hi), getI_nat hi, bd_s, getI_nat (by omega), bd_s]
        by_cases e : a[i] = b[i]'(by omega)
        · left
          rw [if_neg (by simp [e]), wr_succ (by omega)]
          exact ⟨rfl, by rw [List.take_succ_eq_append_getElem hi, List.take_succ_eq_append_getElem (by omega), hI, e]⟩
        · right
          rw [if_pos (by simp [e])]
          exact ⟨_, rfl, .inr ⟨rfl, fun h => e (by subst h; rfl)⟩⟩)
      (fun hI => by
        unfold X.slices_Equal_Lbyte_byte_s9
        simp only
        rw [if_neg (by simp)]
        refine ⟨_, rfl, .inl ⟨rfl, ?_⟩⟩
        rw [List.take_length, hl, List.take_length] at hI
        exact hI)
    have h1' : run (X.slices_Equal_Lbyte_byte_s9 a b) (0 : Int) = some o := h1
    rw [h1', bd_s]
    rcases h2 with ⟨rfl, rfl⟩ | ⟨rfl, h3⟩
    · simp only [beq_self_eq_true]; rfl
    · simp only [beq_eq_false_iff_ne.2 h3]
  · rw [if_pos (by simp; omega), beq_eq_false_iff_ne.2 (fun e => hl (by rw [e]))]
end Go.AX
/- Which seals may be, their bytes, and what is read of bytes. -/
namespace Go.AX
open Go.AM
set_option linter.unusedSimpArgs false
def goodL (L : List Int) : Prop := (∀ x ∈ L, 1 ≤ x ∧ x ≤ 2147483647) ∧ L.Nodup
instance (L : List Int) : Decidable (goodL L) := by unfold goodL; infer_instance
def RSl (s : Seal_api) : Prop := (1 ≤ s.Number ∧ s.Number ≤ 1073741824) ∧ (1 ≤ s.Data ∧ s.Data ≤ 14) ∧ (1 ≤ s.Parity ∧ s.Parity ≤ 14 - s.Data) ∧ (0 ≤ s.Index ∧ s.Index ≤ s.Data + s.Parity - 1) ∧ (s.Labels.length : Int) = s.Data + s.Parity ∧ goodL s.Labels
instance (s : Seal_api) : Decidable (RSl s) := by unfold RSl; infer_instance
theorem u8_i {n : Int} (h : 0 ≤ n) : u8 n = UInt8.ofNat n.toNat := by
  have := u8_m n.toNat
  rwa [Int.toNat_of_nonneg h] at this
theorem in_inv {b X : List UInt8} (h : (inA (some b)).2 = some X) : b = w4 (inA (some b)).1.toNat ++ X := by
  unfold inA at h ⊢
  rw [tkA_some] at h ⊢
  by_cases hl : 4 ≤ b.length
  · rw [if_pos hl] at h ⊢
    simp only [Option.some.injEq] at h
    subst h
    simp only [Int.toNat_natCast]
    rw [w4_be (by simp; omega), List.take_append_drop]
  · rw [if_neg hl] at h; cases h
theorem by_inv {b X : List UInt8} (h : (byA (some b)).2 = some X) : b = (byA (some b)).1 :: X := by
  unfold byA at h ⊢
  rw [tkA_some] at h ⊢
  by_cases hl : 1 ≤ b.length
  · rw [if_pos hl] at h ⊢
    simp only [Option.some.injEq] at h
    subst h
    cases b with
    | nil => simp at hl
    | cons c l => rfl
  · rw [if_neg hl] at h; cases h
end Go.AX
/- Which seals may be: the document's answer. -/
namespace Go.AX
open Go.AM
set_option linter.unusedSimpArgs false
end Go.AX
/- The document's reader. -/
namespace Go.AX
open Go.AM
set_option linter.unusedSimpArgs false
theorem or64_nat {a c : Nat} (ha : a < 16777216) (hc : c < 256) : or64 (shl64 (a : Int) (((8 : UInt64).toNat : Nat) : Int)) (c : Int) = ((a * 256 + c : Nat) : Int) := by
  have e : shl64 (a : Int) (((8 : UInt64).toNat : Nat) : Int) = ((a * 256 : Nat) : Int) := by
    unfold shl64
    have : min (((8 : UInt64).toNat : Nat) : Int).toNat 64 = 8 := by decide
    rw [this]
    have h := wr_eq (x := (a : Int) * 2 ^ 8) (by omega) (by omega)
    unfold wr at h
    rw [h]
    omega
  rw [e]
  unfold or64 bitsI
  have hb : ∀ n : Nat, n < 18446744073709551616 → (BitVec.ofInt IntKind.i64.bits (n : Int)).toNat = n := by
    intro n hn
    show (BitVec.ofInt 64 (n : Int)).toNat = n
    simp
    omega
  simp only
  rw [BitVec.toNat_or, hb _ (by omega), hb _ (by omega), or_add hc]
  exact wr_eq (by omega) (by omega)
end Go.AX
/- The document's writer. -/
namespace Go.AX
open Go.AM
set_option linter.unusedSimpArgs false
theorem y_wint {n : Int} {b : List UInt8} (h0 : 0 ≤ n) (h1 : n < 4294967296) (hb : b.length ≤ 100000) : X.cartridgeref1_Writer_Int n b = some (b ++ w4 n.toNat) := by
  unfold X.cartridgeref1_Writer_Int
  rw [need_is (by simp only [List.length_cons, List.length_nil]; omega), bd_s]
  have e : (u64 n).toNat = n.toNat := by
    unfold u64
    rw [UInt64.toNat_ofNat']
    omega
  have s : ∀ k, (shru64 (u64 n) k).toNat = n.toNat / 2 ^ k := fun k => by
    unfold shru64
    rw [UInt64.toNat_ofNat', e]
    exact Nat.mod_eq_of_lt (Nat.lt_of_le_of_lt (Nat.div_le_self _ _) (by omega))
  have m : ∀ x : UInt64, u8 (((x &&& 255).toNat : Nat) : Int) = UInt8.ofNat x.toNat := fun x => by
    rw [u8_m, UInt64.toNat_and]
    apply UInt8.toNat_inj.1
    rw [UInt8.toNat_ofNat', UInt8.toNat_ofNat']
    have : x.toNat &&& (255 : UInt64).toNat = x.toNat % 256 := Nat.and_two_pow_sub_one_eq_mod x.toNat 8
    rw [this]
    omega
  rw [m, m, m, m, s, s, s, e]
  rfl
theorem y_wbyte {c : UInt8} {b : List UInt8} (hb : b.length ≤ 100000) : X.cartridgeref1_Writer_Byte c b = some (b ++ [c]) := by
  unfold X.cartridgeref1_Writer_Byte
  rw [need_is (by simp only [List.length_cons, List.length_nil]; omega), bd_s]
end Go.AX
/- Which heads may be: the document's answer. -/
namespace Go.AX
open Go.AM
set_option linter.unusedSimpArgs false
end Go.AX
/- The document's heads are the same. -/
namespace Go.AX
open Go.AM
set_option linter.unusedSimpArgs false
end Go.AX
/- Frames: their bytes, and what is read of bytes. -/
namespace Go.AX
open Go.AM
set_option linter.unusedSimpArgs false
set_option linter.unusedVariables false
def bitC (x : UInt32) : UInt32 := if (x &&& (1 : UInt32)) == (1 : UInt32) then (shr32 x 1) ^^^ (2197175160 : UInt32) else shr32 x 1
def bitsC : Nat → UInt32 → UInt32
  | 0, x => x
  | n + 1, x => bitC (bitsC n x)
def bytC (x : UInt32) (b : UInt8) : UInt32 := bitsC 8 (x ^^^ u32 (b.toNat : Int))
def crc (b : List UInt8) : UInt32 := (b.foldl bytC (4294967295 : UInt32)) ^^^ (4294967295 : UInt32)
theorem fold_succ {b : List UInt8} {i : Nat} (h : i < b.length) (x : UInt32) : (b.take (i + 1)).foldl bytC x = bytC ((b.take i).foldl bytC x) b[i] := by
  rw [List.take_add_one, List.getElem?_eq_getElem h, List.foldl_append]; rfl
theorem xor0 : ((0 : UInt32) ^^^ (4294967295 : UInt32)) = (4294967295 : UInt32) := by decide
theorem c_bits (x : UInt32) : run X.castagnoli_More_s19 (x, (0 : Int)) = some (bitsC 8 x) := by
  refine run_G0 (n := 8) (fun i => bitsC i x) (by omega) rfl (fun i hi => ?_) ?_
  · show X.castagnoli_More_s19 (bitsC i x, (i : Int)) = some (.inl (bitC (bitsC i x), _))
    unfold X.castagnoli_More_s19 bitC
    simp only []
    rw [if_pos (by simp; omega), wr_succ (by omega)]
    split <;> rfl
  · rfl
theorem c_crc {b : List UInt8} (hb : b.length ≤ 1000000) : X.castagnoli_Sum b = some (crc b) := by
  have hr : run (X.castagnoli_More_s7 b) ((4294967295 : UInt32), (0 : Int)) = some (b.foldl bytC (4294967295 : UInt32)) := by
    refine run_G0 (n := b.length) (fun i => (b.take i).foldl bytC (4294967295 : UInt32)) (by omega) rfl (fun i hi => ?_) ?_
    · show X.castagnoli_More_s7 b ((b.take i).foldl bytC (4294967295 : UInt32), (i : Int)) = some (.inl ((b.take (i + 1)).foldl bytC (4294967295 : UInt32), _))
      unfold X.castagnoli_More_s7
      simp only []
      rw [if_pos (by simp; omega), getI_nat hi, bd_s, c_bits, bd_s]
      unfold X.castagnoli_More_e19
      rw [wr_succ (by omega), fold_succ hi]
      rfl
    · unfold X.castagnoli_More_s7
      simp only []
      rw [if_neg (by simp), List.take_length]
  unfold X.castagnoli_Sum X.castagnoli_More
  rw [xor0, hr]
  rfl
theorem y_bits (x : UInt32) : run X.cartridgeref1_More_s18 (x, (0 : Int)) = some (bitsC 8 x) := by
  refine run_G0 (n := 8) (fun i => bitsC i x) (by omega) rfl (fun i hi => ?_) ?_
  · show X.cartridgeref1_More_s18 (bitsC i x, (i : Int)) = some (.inl (bitC (bitsC i x), _))
    unfold X.cartridgeref1_More_s18 bitC X.cartridgeref1_More_j24
    simp only []
    rw [if_pos (by simp; omega), wr_succ (by omega)]
    split <;> rfl
  · rfl
theorem y_crc {b : List UInt8} (hb : b.length ≤ 1000000) : X.cartridgeref1_Crc b = some (crc b) := by
  have hr : run (X.cartridgeref1_More_s7 b) ((4294967295 : UInt32), (0 : Int)) = some (b.foldl bytC (4294967295 : UInt32)) := by
    refine run_G0 (n := b.length) (fun i => (b.take i).foldl bytC (4294967295 : UInt32)) (by omega) rfl (fun i hi => ?_) ?_
    · show X.cartridgeref1_More_s7 b ((b.take i).foldl bytC (4294967295 : UInt32), (i : Int)) = some (.inl ((b.take (i + 1)).foldl bytC (4294967295 : UInt32), _))
      unfold X.cartridgeref1_More_s7
      simp only []
      rw [if_pos (by simp; omega), getI_nat hi, bd_s, y_bits, bd_s]
      unfold X.cartridgeref1_More_e18
      rw [wr_succ (by omega), fold_succ hi]
      rfl
    · unfold X.cartridgeref1_More_s7
      simp only []
      rw [if_neg (by simp), List.take_length]
  unfold X.cartridgeref1_Crc X.cartridgeref1_More
  rw [xor0, hr]
  rfl
def roomN (k : Int) : Nat := if k = 6 then 79 else 64
def OKU (u : Unit_api) : Prop := (1 ≤ u.Kind ∧ u.Kind ≤ 6) ∧ (1 ≤ u.Label ∧ u.Label ≤ 2147483647) ∧ (0 ≤ u.Number ∧ u.Number ≤ 2147483647)
instance (u : Unit_api) : Decidable (OKU u) := by unfold OKU; infer_instance
def bodyF (u : Unit_api) : List UInt8 := (UInt8.ofNat u.Kind.toNat :: (w4 u.Label.toNat ++ (w4 u.Number.toNat ++ (UInt8.ofNat (u.Load.length / 256) :: UInt8.ofNat u.Load.length :: (u.Load ++ List.replicate (roomN u.Kind - u.Load.length) 0)))))
def frameL (u : Unit_api) : List UInt8 := bodyF u ++ w4 (crc (bodyF u)).toNat
theorem room_le (k : Int) : roomN k ≤ 79 := by unfold roomN; split <;> omega
theorem body_len {u : Unit_api} (h : u.Load.length ≤ roomN u.Kind) : (bodyF u).length = 11 + roomN u.Kind := by
  unfold bodyF
  simp only [List.length_cons, List.length_append, w4_len, List.length_replicate]
  omega
theorem frame_len {u : Unit_api} (h : u.Load.length ≤ roomN u.Kind) : (frameL u).length = 15 + roomN u.Kind := by
  unfold frameL
  rw [List.length_append, body_len h, w4_len]; omega
def zeroU : Unit_api := ⟨0, 0, 0, []⟩
def putF (u : Unit_api) : List UInt8 × Int := if OKU u then if u.Load.length ≤ roomN u.Kind then (frameL u, 0) else ([], 4) else ([], 1)
theorem shr8F {n : Nat} (h : n ≤ 1000000) : u8 (shr64 (n : Int) ((8 : UInt64).toNat : Int)) = UInt8.ofNat (n / 256) := by
  have e : shr64 (n : Int) ((8 : UInt64).toNat : Int) = ((n / 256 : Nat) : Int) := by
    unfold shr64
    have : min (((8 : UInt64).toNat : Nat) : Int).toNat 64 = 8 := by decide
    rw [this]
    have h1 : (n : Int).fdiv (2 ^ 8) = ((n / 256 : Nat) : Int) := by rw [Int.fdiv_eq_ediv_of_nonneg _ (by decide)]; omega
    first
      | exact h1
      | (rw [h1]; exact wr_eq (by omega) (by omega))
  rw [e, u8_m]
theorem c_check (u : Unit_api) : X.frame_check u = some (if OKU u then if u.Load.length ≤ roomN u.Kind then 0 else 4 else 1) := by
  have hj : (1 ≤ u.Kind ∧ u.Kind ≤ 6) → X.frame_check_j8 u = some (if u.Load.length ≤ roomN u.Kind then 0 else 4) := by
    intro hk
    unfold X.frame_check_j8 X.frame_room roomN
    by_cases h : u.Kind = 6
    · rw [if_pos (by simp [h]), bd_s, if_pos h]
      by_cases hm : u.Load.length ≤ 79
      · rw [if_neg (by simp; omega), if_pos hm]
      · rw [if_pos (by simp; omega), if_neg hm]
    · rw [if_neg (by simp [h]), bd_s, if_neg h]
      by_cases hm : u.Load.length ≤ 64
      · rw [if_neg (by simp; omega), if_pos hm]
      · rw [if_pos (by simp; omega), if_neg hm]
  unfold X.frame_check
  by_cases hb : (1 ≤ u.Label ∧ u.Label ≤ 2147483647) ∧ (0 ≤ u.Number ∧ u.Number ≤ 2147483647)
  · rw [if_neg (by simp; omega)]
    by_cases hk : 1 ≤ u.Kind ∧ u.Kind ≤ 6
    · rw [if_pos (show OKU u from ⟨hk, hb⟩)]
      have := hj hk
      rw [this]
      repeat' split
      all_goals first
        | rfl
        | (exfalso; rename_i h1 h2 h3 h4 h5 h6; simp at h1 h2 h3 h4 h5 h6; omega)
        | (exfalso; simp_all; omega)
    · rw [if_neg (show ¬ OKU u from fun h => hk h.1)]
      rw [if_neg (by simp; omega), if_neg (by simp; omega), if_neg (by simp; omega), if_neg (by simp; omega), if_neg (by simp; omega), if_neg (by simp; omega)]
  · rw [if_neg (show ¬ OKU u from fun h => hb h.2), if_pos (by simp; omega)]
end Go.AX
/- Frames: what is read of bytes, and which blocks of tapes are good. -/
namespace Go.AX
open Go.AM
set_option linter.unusedSimpArgs false
set_option linter.unusedVariables false
theorem opt_t {α : Type} [Inhabited α] (o : Option α) : optG true o = o := by unfold optG; rw [if_pos rfl]
/-- What stands in the first places of bytes, and what is behind. -/
def p5 (b : List UInt8) : Unit_api × Option (List UInt8) :=
  let k := byA (some b); let l := inA k.2; let n := inA l.2; let h := byA n.2; let m := byA h.2; let t := tkA (h.1.toNat * 256 + m.1.toNat) m.2
  (⟨(k.1.toNat : Int), l.1, n.1, t.1⟩, t.2)
def getU (b : List UInt8) : Option Unit_api := if (p5 b).2.isSome = true ∧ OKU (p5 b).1 ∧ (p5 b).1.Load.length ≤ roomN (p5 b).1.Kind ∧ frameL (p5 b).1 = b then some (p5 b).1 else none
def getF (b : List UInt8) : Unit_api × Int := match getU b with | some u => (u, 0) | none => (zeroU, 2)
theorem of_get {b : List UInt8} {u : Unit_api} (h : getU b = some u) : OKU u ∧ u.Load.length ≤ roomN u.Kind ∧ frameL u = b := by
  unfold getU at h
  split at h
  · rename_i hc
    injection h with h
    subst h
    exact hc.2
  · cases h
theorem smallN {n : Nat} (h : n < 256) : (UInt8.ofNat n).toNat = n := by rw [UInt8.toNat_ofNat']; omega
theorem p5_frame {u : Unit_api} (h : OKU u) (hl : u.Load.length ≤ roomN u.Kind) : p5 (frameL u) = (u, some (List.replicate (roomN u.Kind - u.Load.length) 0 ++ w4 (crc (bodyF u)).toNat)) := by
  obtain ⟨⟨a1, a2⟩, ⟨a3, a4⟩, a5, a6⟩ := h
  have hr := room_le u.Kind
  have hf : frameL u = UInt8.ofNat u.Kind.toNat :: (w4 u.Label.toNat ++ (w4 u.Number.toNat ++ (UInt8.ofNat (u.Load.length / 256) :: UInt8.ofNat u.Load.length :: (u.Load ++ (List.replicate (roomN u.Kind - u.Load.length) 0 ++ w4 (crc (bodyF u)).toNat))))) := by
    unfold frameL
    conv => lhs; lhs; unfold bodyF
    simp [List.append_assoc]
  unfold p5
  rw [hf]
  simp only [by_app, in_app (show u.Label.toNat < 4294967296 by omega), in_app (show u.Number.toNat < 4294967296 by omega)]
  rw [smallN (n := u.Load.length / 256) (by omega), smallN (n := u.Kind.toNat) (by omega), UInt8.toNat_ofNat']
  have e : u.Load.length / 256 * 256 + u.Load.length % 2 ^ 8 = u.Load.length := by omega
  rw [e, tk_app]
  have e1 : ((u.Kind.toNat : Nat) : Int) = u.Kind := by omega
  have e2 : ((u.Label.toNat : Nat) : Int) = u.Label := by omega
  have e3 : ((u.Number.toNat : Nat) : Int) = u.Number := by omega
  rw [e1, e2, e3]
theorem get_frame {u : Unit_api} (h : OKU u) (hl : u.Load.length ≤ roomN u.Kind) : getU (frameL u) = some u := by
  unfold getU
  rw [p5_frame h hl, if_pos ⟨rfl, h, hl, rfl⟩]
theorem get_is {b : List UInt8} {u : Unit_api} : getU b = some u ↔ OKU u ∧ u.Load.length ≤ roomN u.Kind ∧ frameL u = b := by
  constructor
  · exact of_get
  · rintro ⟨h1, h2, rfl⟩
    exact get_frame h1 h2
theorem c_made {u : Unit_api} (h : OKU u) (hl : u.Load.length ≤ roomN u.Kind) : X.frame_made u = some (frameL u) := by
  obtain ⟨⟨a1, a2⟩, ⟨a3, a4⟩, a5, a6⟩ := h
  have hr := room_le u.Kind
  have hrm : X.frame_room u.Kind = some ((roomN u.Kind : Nat) : Int) := by
    unfold X.frame_room roomN
    by_cases h : u.Kind = 6
    · rw [if_pos (by simp [h]), if_pos h]; rfl
    · rw [if_neg (by simp [h]), if_neg h]; rfl
  have hcp : cpy (List.replicate (roomN u.Kind) (0 : UInt8)) u.Load = u.Load ++ List.replicate (roomN u.Kind - u.Load.length) 0 := by
    unfold cpy
    rw [List.length_replicate, List.take_of_length_le hl, List.drop_replicate]
  have hbo : ∀ b : List UInt8, b.length ≤ 100000 → X.code_Writer_Bytes_or b = some b := fun b hb => by
    unfold X.code_Writer_Bytes_or X.slices_Clone_Lbyte_byte_own_or
    have : nilU b (fun z6 => if z6 = true then some ([] : List UInt8) else (need (b.length * 1 ≤ 140737488355328)).bind fun u10 => some b) = some b := by
      refine nilU_same (fun e => ?_) ?_
      · rw [if_pos rfl, e]
      · rw [if_neg (by decide), need_is (by omega), bd_s]
    rw [this, bd_s]
  have hbody : ((((([] ++ [UInt8.ofNat u.Kind.toNat]) ++ w4 u.Label.toNat) ++ w4 u.Number.toNat) ++ [UInt8.ofNat (u.Load.length / 256)]) ++ [UInt8.ofNat u.Load.length]) ++ (u.Load ++ List.replicate (roomN u.Kind - u.Load.length) (0 : UInt8)) = bodyF u := by
    unfold bodyF
    simp
  unfold X.frame_made
  rw [c_wbyte (by simp), bd_s, c_wint (by omega) (by omega) (by simp), bd_s, c_wint (by omega) (by omega) (by simp [w4_len]), bd_s, shr8F (by omega), c_wbyte (by simp [w4_len]), bd_s, u8_m, c_wbyte (by simp [w4_len]), bd_s, hrm, bd_s]
  rw [need_is (by omega), bd_s, Int.toNat_natCast, hcp, hbo _ (by simp [w4_len]), bd_s, u8_i (by omega)]
  rw [hbody, need_is (by simp [w4_len]; omega), bd_s, c_crc (by rw [body_len hl]; omega), bd_s, c_wint (by omega) (by have := (crc (bodyF u)).toNat_lt; omega) (by simp), bd_s, Int.toNat_natCast, List.nil_append, c_bytes (by simp [w4_len]), bd_s]
  rw [need_is (by rw [body_len hl, w4_len]; omega), bd_s]
  rfl
theorem c_raw (n : Nat) (s : Option (List UInt8)) (hs : ∀ t, s = some t → t.length ≤ 100000) : X.code_Reader_Raw (n : Int) (conC s).1 (conC s).2 = some ((tkA n s).1, conC (tkA n s).2) := by
  unfold X.code_Reader_Raw
  rw [show max (0 : Int) (n : Int) = (n : Int) by omega, c_take, bd_s]
  have hl : (tkA n s).1.length ≤ 100000 := by
    cases s with
    | none => simp [tkA_none]
    | some b =>
      have := hs b rfl
      rw [tkA_some]
      split
      · simp; omega
      · simp
  have hc : X.slices_Clone_Lbyte_byte (tkA n s).1 = some (tkA n s).1 := by
    unfold X.slices_Clone_Lbyte_byte
    refine nilU_same (fun e => ?_) ?_
    · rw [if_pos rfl, e]
    · rw [if_neg (by decide), need_is (by omega), bd_s]
  rw [hc, bd_s]
theorem by_le {s : Option (List UInt8)} {N : Nat} (h : ∀ t, s = some t → t.length ≤ N) : ∀ t, (byA s).2 = some t → t.length ≤ N := by
  intro t ht
  cases s with
  | none => cases ht
  | some b =>
    have := h b rfl
    have := by_inv ht
    have h2 := congrArg List.length this
    simp at h2
    omega
theorem in_le {s : Option (List UInt8)} {N : Nat} (h : ∀ t, s = some t → t.length ≤ N) : ∀ t, (inA s).2 = some t → t.length ≤ N := by
  intro t ht
  cases s with
  | none => cases ht
  | some b =>
    have := h b rfl
    have := in_inv ht
    have h2 := congrArg List.length this
    simp at h2
    omega
theorem c_get (b : List UInt8) (hb : b.length ≤ 100000) : X.frame_Get b = some (getF b) := by
  unfold X.frame_Get
  rw [c_new b hb, bd_s, c_byte, bd_s, c_int, bd_s, c_int, bd_s, c_byte, bd_s, c_byte, bd_s]
  dsimp only
  rw [or64_nat (by have := (byA (inA (inA (byA (some b)).2).2).2).1.toNat_lt; omega) (byA (byA (inA (inA (byA (some b)).2).2).2).2).1.toNat_lt]
  have hlen : ∀ t, (byA (byA (inA (inA (byA (some b)).2).2).2).2).2 = some t → t.length ≤ 100000 := by_le (by_le (in_le (in_le (by_le (fun t e => by injection e with e; rw [← e]; exact hb)))))
  rw [c_raw _ _ hlen, bd_s]
  unfold X.code_Reader_Bad
  rw [bd_s, c_check]
  have hp : p5 b = (⟨((byA (some b)).1.toNat : Int), (inA (byA (some b)).2).1, (inA (inA (byA (some b)).2).2).1, (tkA ((byA (inA (inA (byA (some b)).2).2).2).1.toNat * 256 + (byA (byA (inA (inA (byA (some b)).2).2).2).2).1.toNat) (byA (byA (inA (inA (byA (some b)).2).2).2).2).2).1⟩,
    (tkA ((byA (inA (inA (byA (some b)).2).2).2).1.toNat * 256 + (byA (byA (inA (inA (byA (some b)).2).2).2).2).1.toNat) (byA (byA (inA (inA (byA (some b)).2).2).2).2).2).2) := rfl
  generalize hk : ((byA (some b)).1.toNat : Int) = k at hp ⊢
  generalize hl : (inA (byA (some b)).2).1 = l at hp ⊢
  generalize hn : (inA (inA (byA (some b)).2).2).1 = n at hp ⊢
  generalize ht : tkA ((byA (inA (inA (byA (some b)).2).2).2).1.toNat * 256 + (byA (byA (inA (inA (byA (some b)).2).2).2).2).1.toNat) (byA (byA (inA (inA (byA (some b)).2).2).2).2).2 = t at hp ⊢
  obtain ⟨d, s⟩ := t
  dsimp only at hp ⊢
  unfold getF getU
  rw [hp]
  simp only
  cases s with
  | none =>
    rw [if_neg (show ¬ ((none : Option (List UInt8)).isSome = true ∧ OKU ⟨k, l, n, d⟩ ∧ d.length ≤ roomN k ∧ frameL ⟨k, l, n, d⟩ = b) from fun h => by cases h.1)]
    rfl
  | some q =>
    show ((optG (!false) _).bind _) = _
    rw [show (conC (some q)).2 = false from rfl, Bool.not_false, opt_t, bd_s]
    by_cases h1 : OKU ⟨k, l, n, d⟩
    · by_cases h2 : d.length ≤ roomN k
      · rw [if_pos h1, if_pos h2, Bool.false_or, show ((0 : Int) != 0) = false from rfl, Bool.not_false, opt_t, c_made h1 h2, bd_s, opt_t, x_equal (by omega), bd_s]
        by_cases h3 : frameL ⟨k, l, n, d⟩ = b
        · rw [if_pos (show (some q).isSome = true ∧ OKU ⟨k, l, n, d⟩ ∧ d.length ≤ roomN k ∧ frameL ⟨k, l, n, d⟩ = b from ⟨rfl, h1, h2, h3⟩), if_neg (by rw [h3]; simp)]
        · rw [if_neg (show ¬ ((some q).isSome = true ∧ OKU ⟨k, l, n, d⟩ ∧ d.length ≤ roomN k ∧ frameL ⟨k, l, n, d⟩ = b) from fun h => h3 h.2.2.2), if_pos (by simp; exact fun e => h3 e.symm)]
          rfl
      · rw [if_pos h1, if_neg h2, if_neg (show ¬ ((some q).isSome = true ∧ OKU ⟨k, l, n, d⟩ ∧ d.length ≤ roomN k ∧ frameL ⟨k, l, n, d⟩ = b) from fun h => h2 h.2.2.1)]
        rfl
    · rw [if_neg h1, if_neg (show ¬ ((some q).isSome = true ∧ OKU ⟨k, l, n, d⟩ ∧ d.length ≤ roomN k ∧ frameL ⟨k, l, n, d⟩ = b) from fun h => h1 h.2.1)]
      rfl
theorem c_put (u : Unit_api) : X.frame_Put u = some (putF u) := by
  unfold X.frame_Put putF
  rw [c_check, bd_s]
  by_cases h : OKU u
  · by_cases hm : u.Load.length ≤ roomN u.Kind
    · simp only [if_pos h, if_pos hm]
      rw [if_neg (by decide), c_made h hm, bd_s]
    · simp only [if_pos h, if_neg hm]
      rw [if_pos (by decide)]
  · simp only [if_neg h]
    rw [if_pos (by decide)]
end Go.AX
/- Frames: what the document reads of bytes. -/
namespace Go.AX
open Go.AM
set_option linter.unusedSimpArgs false
set_option linter.unusedVariables false
def goodF (t : Tape_api) (n : Int) : Unit_api × Bool :=
  if t.Lost = false ∧ 0 ≤ n ∧ n < t.Blocks.length then
    match getU (t.Blocks.getD n.toNat []) with
    | some u => if u.Label = t.Label ∧ u.Number = n then (u, true) else (zeroU, false)
    | none => (zeroU, false)
  else (zeroU, false)
theorem c_good (t : Tape_api) (n : Int) (hb : ∀ b ∈ t.Blocks, b.length ≤ 100000) : X.volume_Good t n = some (goodF t n) := by
  unfold X.volume_Good goodF
  by_cases h : t.Lost = false ∧ 0 ≤ n ∧ n < t.Blocks.length
  · obtain ⟨h1, h2, h3⟩ := h
    obtain ⟨m, rfl⟩ : ∃ m : Nat, n = (m : Int) := ⟨n.toNat, by omega⟩
    have hm : m < t.Blocks.length := by omega
    rw [if_neg (by rw [h1]; simp; omega), if_pos ⟨h1, h2, h3⟩, getI_getD [] hm, bd_s, c_get _ (hb _ (by rw [List.getD_eq_getElem?_getD, List.getElem?_eq_getElem hm]; exact List.getElem_mem hm)), bd_s, Int.toNat_natCast]
    unfold getF
    cases hu : getU (t.Blocks.getD m []) with
    | none => rfl
    | some u =>
      dsimp only
      by_cases hc : u.Label = t.Label ∧ u.Number = (m : Int)
      · rw [if_pos hc, if_neg (by simp [hc])]
      · rw [if_neg hc, if_pos (by simp; omega)]
        rfl
  · rw [if_neg h, if_pos (by simp; cases hL : t.Lost <;> simp_all <;> omega)]
    rfl
end Go.AX
/- The blocks of a part. -/
namespace Go.AX
open Go.AM
set_option linter.unusedSimpArgs false
set_option linter.unusedVariables false
def chunk (b : List UInt8) (i : Nat) : Unit_api := ⟨3, 0, 0, (b.drop (64 * i)).take 64⟩
def nC (b : List UInt8) : Nat := (b.length + 63) / 64
def unitsF (h : Head_api) (b : List UInt8) : List Unit_api := ([⟨2, 0, 0, encH h⟩] ++ tab (nC b) (chunk b)) ++ [⟨4, 0, 0, []⟩]
theorem units_len (h : Head_api) (b : List UInt8) : (unitsF h b).length = nC b + 2 := by unfold unitsF; simp [tab]
def numF (a : Int) (i : Nat) : Int := if 2147483648 < a then 2147483648 else a + i
def stF (label a : Int) (i : Nat) (u : Unit_api) : Unit_api := ⟨u.Kind, label, numF a i, u.Load⟩
def zU : Unit_api := ⟨0, 0, 0, []⟩
def frI (us : List Unit_api) (label a : Int) (i : Nat) : List UInt8 × Int := putF (stF label a i (us.getD i zU))
/-- What is made of units: all their frames, or why the first of them that is wrong is none. -/
def BlkR (us : List Unit_api) (label a : Int) (r : List (List UInt8) × Int) : Prop :=
  (∃ i, i < us.length ∧ (∀ j, j < i → (frI us label a j).2 = 0) ∧ (frI us label a i).2 ≠ 0 ∧ r = ([], (frI us label a i).2)) ∨
  ((∀ j, j < us.length → (frI us label a j).2 = 0) ∧ r = (tab us.length fun i => (frI us label a i).1, 0))
theorem BlkR_uniq {us : List Unit_api} {label a : Int} {r r' : List (List UInt8) × Int} (h : BlkR us label a r) (h' : BlkR us label a r') : r = r' := by
  rcases h with ⟨i, h1, h2, h3, rfl⟩ | ⟨h1, rfl⟩ <;> rcases h' with ⟨i', h1', h2', h3', rfl⟩ | ⟨h1', rfl⟩
  · have : i = i' := by
      rcases Nat.lt_trichotomy i i' with hl | hl | hl
      · exact absurd (h2' i hl) h3
      · exact hl
      · exact absurd (h2 i' hl) h3'
    rw [this]
  · exact absurd (h1' i h1) h3
  · exact absurd (h1 i' h1') h3'
  · rfl
theorem put_none {k l n : Int} {d : List UInt8} (h : ¬ (0 ≤ n ∧ n ≤ 2147483647)) : putF ⟨k, l, n, d⟩ = ([], 1) := by
  unfold putF
  rw [if_neg (fun hh => h hh.2.2)]
theorem wr_is (x : Int) : wr x = if x % 18446744073709551616 ≥ 9223372036854775808 then x % 18446744073709551616 - 18446744073709551616 else x % 18446744073709551616 := by
  unfold wr IntKind.wrap
  simp [IntKind.signed, IntKind.bits]
theorem put_num {k l a : Int} {d : List UInt8} {i : Nat} (hi : i ≤ 1000000) (ha : -9223372036854775808 ≤ a ∧ a ≤ 9223372036854775807) : putF ⟨k, l, wr (a + (i : Int)), d⟩ = putF ⟨k, l, numF a i, d⟩ := by
  unfold numF
  by_cases h : 2147483648 < a
  · rw [if_pos h, put_none (n := 2147483648) (by omega), put_none]
    rw [wr_is]
    split <;> omega
  · rw [if_neg h, wr_eq (by omega) (by omega)]
theorem getI_us {us : List Unit_api} {i : Nat} (h : i < us.length) : getI us (i : Int) = some (us.getD i zU) := getI_getD zU h
theorem c_units (h : Head_api) (b : List UInt8) (hb : b.length ≤ 1000000) : run X.volume_Blocks_s14 (b, ([⟨2, 0, 0, encH h⟩] : List Unit_api)) = some ([⟨2, 0, 0, encH h⟩] ++ tab (nC b) (chunk b)) := by
  refine run_is _ (fun s => ∃ i, i ≤ nC b ∧ s = (b.drop (64 * i), [⟨2, 0, 0, encH h⟩] ++ tab i (chunk b))) (fun s => s.1.length) ⟨0, by omega, by simp [tab]⟩ (by simp; omega) ?_
  rintro s ⟨i, hi, rfl⟩
  unfold X.volume_Blocks_s14
  dsimp only
  unfold nC at hi
  by_cases hl : 0 < (b.drop (64 * i)).length
  · left
    have hl' : 64 * i < b.length := by rw [List.length_drop] at hl; omega
    rw [if_pos (by simp; omega), need_is (by omega), bd_s, need_is (by simp [tab]; omega), bd_s, need_is (by omega), bd_s]
    refine ⟨_, rfl, ⟨i + 1, by unfold nC; omega, ?_⟩, ?_⟩
    · have e1 : slc (b.drop (64 * i)) (0 : Int) (min ((b.drop (64 * i)).length : Int) 64) = (b.drop (64 * i)).take 64 := by
        rw [show min ((b.drop (64 * i)).length : Int) 64 = ((min (b.drop (64 * i)).length 64 : Nat) : Int) by omega, slc_0n]
        by_cases h64 : (b.drop (64 * i)).length ≤ 64
        · rw [Nat.min_eq_left h64, List.take_of_length_le (Nat.le_refl _), List.take_of_length_le h64]
        · rw [Nat.min_eq_right (by omega)]
      have e2 : slc (b.drop (64 * i)) (min ((b.drop (64 * i)).length : Int) 64) ((b.drop (64 * i)).length : Int) = b.drop (64 * (i + 1)) := by
        rw [show min ((b.drop (64 * i)).length : Int) 64 = ((min (b.drop (64 * i)).length 64 : Nat) : Int) by omega, slc_nn, List.take_of_length_le (by simp; omega)]
        rw [List.drop_drop]
        by_cases h64 : (b.drop (64 * i)).length ≤ 64
        · rw [Nat.min_eq_left h64, List.drop_eq_nil_of_le (by simp; omega), List.drop_eq_nil_of_le (by simp at h64; omega)]
        · rw [Nat.min_eq_right (by omega)]; congr 1
      rw [e1, e2, tab_succ, List.append_assoc]
      rfl
    · rw [show min ((b.drop (64 * i)).length : Int) 64 = ((min (b.drop (64 * i)).length 64 : Nat) : Int) by omega, slc_nn]
      simp at hl ⊢
      omega
  · right
    rw [if_neg (by simp at hl ⊢; omega)]
    rw [List.length_drop] at hl
    have : i = nC b := by unfold nC; omega
    rw [this]
theorem c_loop (h : Head_api) (b : List UInt8) (label a : Int) (ha : -9223372036854775808 ≤ a ∧ a ≤ 9223372036854775807) (hb : b.length ≤ 1000000) :
    ∃ q, run (X.volume_Blocks_s26 ([⟨2, 0, 0, encH h⟩] ++ tab (nC b) (chunk b)) label a) (([] : List (List UInt8)), (0 : Int)) = some q ∧ BlkR (unitsF h b) label a (match q with | .inl o => (o, 0) | .inr rv => rv) := by
  have hlen := units_len h b
  have hn : nC b ≤ 100000 := by unfold nC; omega
  refine run_ix0 (n := (unitsF h b).length) (fun i s => (∀ j, j < i → (frI (unitsF h b) label a j).2 = 0) ∧ s = tab i fun j => (frI (unitsF h b) label a j).1) (fun q : List (List UInt8) ⊕ (List (List UInt8) × Int) => BlkR (unitsF h b) label a (match q with | .inl o => (o, 0) | .inr rv => rv)) (by omega) ⟨fun j hj => by omega, rfl⟩ (fun i s hi hI => ?_) (fun s hI => ?_)
  · obtain ⟨h1, rfl⟩ := hI
    unfold X.volume_Blocks_s26
    dsimp only
    have hu : ([⟨2, 0, 0, encH h⟩] ++ tab (nC b) (chunk b)) ++ ([⟨4, 0, 0, []⟩] : List Unit_api) = unitsF h b := rfl
    rw [hu, if_pos (by simp; omega), getI_us hi, bd_s, c_put, bd_s, put_num (by omega) ha]
    have hf : putF ⟨((unitsF h b).getD i zU).Kind, label, numF a i, ((unitsF h b).getD i zU).Load⟩ = frI (unitsF h b) label a i := rfl
    rw [hf]
    by_cases h0 : (frI (unitsF h b) label a i).2 = 0
    · left
      rw [if_neg (by simp [h0]), need_is (by simp [tab]; omega), bd_s, wr_succ (by omega)]
      refine ⟨_, rfl, fun j hj => ?_, tab_succ.symm⟩
      rcases Nat.lt_or_eq_of_le (Nat.le_of_lt_succ hj) with hj | rfl
      · exact h1 j hj
      · exact h0
    · right
      rw [if_pos (by simp [h0])]
      exact ⟨_, rfl, .inl ⟨i, hi, h1, h0, rfl⟩⟩
  · obtain ⟨h1, rfl⟩ := hI
    unfold X.volume_Blocks_s26
    dsimp only
    have hu : ([⟨2, 0, 0, encH h⟩] ++ tab (nC b) (chunk b)) ++ ([⟨4, 0, 0, []⟩] : List Unit_api) = unitsF h b := rfl
    rw [hu, if_neg (by simp)]
    exact ⟨_, rfl, .inr ⟨h1, rfl⟩⟩
/-- What Blocks answers. -/
def BlocksR (h : Head_api) (b : List UInt8) (label a : Int) (r : List (List UInt8) × Int) : Prop :=
  if RH h ∧ (b.length : Int) = h.Len then BlkR (unitsF h b) label a r else r = ([], 1)
theorem BlocksR_uniq {h : Head_api} {b : List UInt8} {label a : Int} {r r' : List (List UInt8) × Int} (h1 : BlocksR h b label a r) (h2 : BlocksR h b label a r') : r = r' := by
  unfold BlocksR at h1 h2
  split at h1
  · rename_i hc
    rw [if_pos hc] at h2
    exact BlkR_uniq h1 h2
  · rename_i hc
    rw [if_neg hc] at h2
    rw [h1, h2]
theorem c_blocks (label a : Int) (h : Head_api) (b : List UInt8) (ha : -9223372036854775808 ≤ a ∧ a ≤ 9223372036854775807) (hb : b.length ≤ 1000000) : ∃ r, X.volume_Blocks label a h b = some r ∧ BlocksR h b label a r := by
  unfold X.volume_Blocks BlocksR
  rw [x_right, bd_s]
  by_cases hc : RH h ∧ (b.length : Int) = h.Len
  · rw [if_neg (by simp [hc.1, hc.2])]
    simp only [if_pos hc]
    rw [x_bytes, bd_s, if_pos hc.1, c_units h b hb, bd_s]
    unfold X.volume_Blocks_e14
    have hn : nC b ≤ 100000 := by unfold nC; omega
    rw [need_is (by simp [tab]; omega), bd_s]
    obtain ⟨q, h1, h2⟩ := c_loop h b label a ha hb
    rw [h1, bd_s]
    cases q with
    | inl o => exact ⟨_, rfl, h2⟩
    | inr rv => exact ⟨_, rfl, h2⟩
  · rw [if_pos (by simp only [Bool.or_eq_true, Bool.not_eq_true', decide_eq_false_iff_not, bne_iff_ne]; exact (Classical.not_and_iff_not_or_not.1 hc))]
    simp only [if_neg hc]
    exact ⟨_, rfl, rfl⟩
end Go.AX
/- The law of a part's blocks. -/
namespace Go.AX
open Go.AM
set_option linter.unusedSimpArgs false
set_option linter.unusedVariables false
end Go.AX
/- Frames of the reference, as own lists. -/
namespace Go.AX
open Go.AM
set_option linter.unusedSimpArgs false
theorem y_putO (u : Unit_api) (hl : u.Load.length ≤ 100000) : X.cartridgeref1_PutFrame_or u = some (putF u) := by
  have hj : X.cartridgeref1_PutFrame_or u = X.cartridgeref1_PutFrame_or_j4 u (roomN u.Kind : Nat) := by
    unfold X.cartridgeref1_PutFrame_or roomN
    by_cases h : u.Kind = 6
    · rw [if_pos (by simp [h]), if_pos h]; rfl
    · rw [if_neg (by simp [h]), if_neg h]; rfl
  rw [hj]
  unfold X.cartridgeref1_PutFrame_or_j4 putF
  have hr := room_le u.Kind
  by_cases h : OKU u
  · obtain ⟨⟨a1, a2⟩, ⟨a3, a4⟩, a5, a6⟩ := h
    rw [if_pos (show OKU u from ⟨⟨a1, a2⟩, ⟨a3, a4⟩, a5, a6⟩), if_neg (by simp; omega)]
    by_cases hm : u.Load.length ≤ roomN u.Kind
    · rw [if_neg (by simp; omega), if_pos hm, y_wbyte (by simp), bd_s, y_wint (by omega) (by omega) (by simp), bd_s, y_wint (by omega) (by omega) (by simp [w4_len]), bd_s]
      rw [need_is (by simp [w4_len]), bd_s, need_is (by simp [w4_len]; omega), bd_s]
      have hw : wr (((roomN u.Kind : Nat) : Int) - (u.Load.length : Int)) = ((roomN u.Kind - u.Load.length : Nat) : Int) := by
        rw [wr_eq (by omega) (by omega)]; omega
      have ha : u8 (and64 (u.Load.length : Int) (255 : Int)) = UInt8.ofNat u.Load.length := by
        unfold and64 bitsI
        have hb : ∀ n : Nat, n < 18446744073709551616 → (BitVec.ofInt IntKind.i64.bits (n : Int)).toNat = n := by
          intro n hn
          show (BitVec.ofInt 64 (n : Int)).toNat = n
          simp
          omega
        simp only
        rw [BitVec.toNat_and, hb _ (by omega), show (255 : Int) = ((255 : Nat) : Int) from rfl, hb _ (by omega)]
        have : u.Load.length &&& 255 = u.Load.length % 256 := Nat.and_two_pow_sub_one_eq_mod _ 8
        rw [this]
        have h2 := wr_eq (x := ((u.Load.length % 256 : Nat) : Int)) (by omega) (by omega)
        unfold wr at h2
        rw [h2, u8_m]
        apply UInt8.toNat_inj.1
        rw [UInt8.toNat_ofNat', UInt8.toNat_ofNat']
        omega
      rw [hw, need_is (by simp [w4_len]; omega), bd_s, shr8F (by omega), ha, Int.toNat_natCast, u8_i (by omega)]
      have hbody : ((((([] ++ [UInt8.ofNat u.Kind.toNat]) ++ w4 u.Label.toNat) ++ w4 u.Number.toNat) ++ ([UInt8.ofNat (u.Load.length / 256), UInt8.ofNat u.Load.length] : List UInt8)) ++ u.Load) ++ List.replicate (roomN u.Kind - u.Load.length) (0 : UInt8) = bodyF u := by
        unfold bodyF
        simp
      rw [hbody, y_crc (by rw [body_len hm]; omega), bd_s, y_wint (by omega) (by have := (crc (bodyF u)).toNat_lt; omega) (by rw [body_len hm]; omega), bd_s, Int.toNat_natCast]
      rfl
    · rw [if_pos (by simp; omega), if_neg hm]
  · rw [if_neg h, if_pos ?_]
    unfold OKU at h
    simp
    omega
end Go.AX
/- Rooms of tapes. -/
namespace Go.AX
open Go.AM
set_option linter.unusedSimpArgs false
set_option linter.unusedVariables false
def sW : Int := ((crc [120]).toNat : Int)
theorem sW_le : 0 ≤ sW ∧ sW ≤ 4294967295 := by
  unfold sW
  have := (crc [120]).toNat_lt
  omega
def hW : Head_api := ⟨Str.mk [97], 1, 1, 0, 1, 1, sW, false⟩
theorem hW_R : RH hW := ⟨by decide, ⟨by decide, by decide⟩, ⟨by decide, by decide⟩, ⟨by decide, by decide⟩, sW_le, ⟨by decide, by decide⟩, ⟨by decide, by decide⟩, by decide, .inl rfl⟩
def fW (i : Nat) : List UInt8 := (frI (unitsF hW [120]) 1 1 i).1
def lW : List UInt8 := (putF ⟨1, 1, 0, [68]⟩).1
def stW : List Step_api := [lW, fW 0, fW 1, fW 2].map fun x => ⟨0, x⟩
set_option maxRecDepth 100000 in
theorem w_blocks : X.volume_Blocks 1 1 hW [120] = some ([fW 0, fW 1, fW 2], 0) := by
  obtain ⟨r, e1, h1⟩ := c_blocks 1 1 hW [120] (by omega) (by simp)
  have h2 : BlocksR hW [120] 1 1 ([fW 0, fW 1, fW 2], 0) := by
    unfold BlocksR
    rw [if_pos ⟨hW_R, rfl⟩]
    exact .inr ⟨by
      rw [units_len]
      intro j hj
      have : j = 0 ∨ j = 1 ∨ j = 2 := by simp [nC] at hj; omega
      rcases this with rfl | rfl | rfl <;> decide +kernel, rfl⟩
  obtain rfl := BlocksR_uniq h1 h2
  exact e1
theorem w_rooms : X.write_Rooms [⟨1, 9, [], false⟩] [] = some [8] := by decide +kernel
theorem w_plan : X.span_Plan [8] 1 = some ([⟨0, 0, 1⟩], 0) := by decide +kernel
theorem w_put : X.frame_Put ⟨1, 1, 0, [68]⟩ = some (lW, 0) := by
  rw [c_put]
  rfl
theorem w_tail (a b c d : List UInt8) : run (X.write_File_s57 ([a, b, c, d], 0) ⟨0, 0, 1⟩) (([] : List Step_api), (0 : Int)) = some ([a, b, c, d].map fun x => ⟨0, x⟩) := by
  refine run_few 5 (by omega) ?_
  rfl
theorem w_piece : X.write_piece ⟨1, 9, [], false⟩ hW [120] = some ([lW, fW 0, fW 1, fW 2], 0) := by
  unfold X.write_piece
  rw [if_pos (by decide), w_put, bd_s, if_neg (by decide), need_is (by simp), bd_s]
  unfold X.write_piece_j7
  have e : wr ((((⟨1, 9, [], false⟩ : Tape_api).Blocks.length : Nat) : Int) + (((([] : List (List UInt8)) ++ [lW]).length : Nat) : Int)) = 1 := by
    rw [show ((([] : List (List UInt8)) ++ [lW]).length) = 1 from rfl]
    decide
  dsimp only at e ⊢
  rw [e, w_blocks, bd_s, need_is (by simp), bd_s]
  rfl
theorem w_e4 : X.record_RightHead ⟨Str.mk [97], 1, 1, 0, 1, 1, sW, false⟩ = some true := by
    have := x_right hW
    rw [decide_eq_true hW_R] at this
    exact this
theorem w_e2 : slc ([120] : List UInt8) 0 1 = [120] := by decide
theorem w_e3 : wr (0 + 1) = 1 := by decide
theorem w_s1 (a b c d : List UInt8) (s : Int) (h6 : run (X.write_File_s57 ([a, b, c, d], 0) ⟨0, 0, 1⟩) (([] : List Step_api), (0 : Int)) = some ([a, b, c, d].map fun x => ⟨0, x⟩)) (h4 : X.record_RightHead ⟨Str.mk [97], 1, 1, 0, 1, 1, s, false⟩ = some true)
 (h5 : X.write_piece ⟨1, 9, [], false⟩ ⟨Str.mk [97], 1, 1, 0, 1, 1, s, false⟩ [120] = some ([a, b, c, d], 0)) :     X.write_File_s22 ([⟨0, 0, 1⟩], 0) [⟨1, 9, [], false⟩] [120] (Str.mk [97], (1 : Int), (1 : Int), (0 : Int), (0 : Int), (1 : Int), s, false, ([] : List Step_api), (0 : Int)) = some (.inl (Str.mk [97], (1 : Int), (1 : Int), (0 : Int), (1 : Int), (1 : Int), s, false, [a, b, c, d].map fun x => ⟨0, x⟩, (1 : Int))) := by
  have h0 : getI ([⟨0, 0, 1⟩] : List Piece_api) 0 = some ⟨0, 0, 1⟩ := rfl
  have h1 : getI ([⟨1, 9, [], false⟩] : List Tape_api) 0 = some ⟨1, 9, [], false⟩ := rfl
  have h4' : X.record_RightHead (Head_api.mk (Str.mk [97]) 1 1 (⟨0, 0, 1⟩ : Piece_api).From (⟨0, 0, 1⟩ : Piece_api).Len 1 s false) = some true := h4
  have h5' : X.write_piece ⟨1, 9, [], false⟩ (Head_api.mk (Str.mk [97]) 1 1 (⟨0, 0, 1⟩ : Piece_api).From (⟨0, 0, 1⟩ : Piece_api).Len 1 s false) (slc ([120] : List UInt8) (⟨0, 0, 1⟩ : Piece_api).From (wr ((⟨0, 0, 1⟩ : Piece_api).From + (⟨0, 0, 1⟩ : Piece_api).Len))) = some ([a, b, c, d], 0) := by
    have : slc ([120] : List UInt8) (⟨0, 0, 1⟩ : Piece_api).From (wr ((⟨0, 0, 1⟩ : Piece_api).From + (⟨0, 0, 1⟩ : Piece_api).Len)) = [120] := by
      show slc ([120] : List UInt8) 0 (wr (0 + 1)) = [120]
      rw [w_e3, w_e2]
    rw [this]
    exact h5
  have h8 : 0 ≤ (⟨0, 0, 1⟩ : Piece_api).From ∧ (⟨0, 0, 1⟩ : Piece_api).From ≤ (wr ((⟨0, 0, 1⟩ : Piece_api).From + (⟨0, 0, 1⟩ : Piece_api).Len)) ∧ (wr ((⟨0, 0, 1⟩ : Piece_api).From + (⟨0, 0, 1⟩ : Piece_api).Len)) ≤ (([120] : List UInt8).length : Int) := by
    show 0 ≤ (0 : Int) ∧ (0 : Int) ≤ wr (0 + 1) ∧ wr (0 + 1) ≤ 1
    rw [w_e3]
    decide
  have h9 : getI ([⟨1, 9, [], false⟩] : List Tape_api) (⟨0, 0, 1⟩ : Piece_api).Tape = some ⟨1, 9, [], false⟩ := rfl
  have h7 : X.write_File_e57 (Str.mk [97]) 1 1 ⟨0, 0, 1⟩ 1 s false 0 ([a, b, c, d].map fun x => ⟨0, x⟩) = some (.inl (Str.mk [97], (1 : Int), (1 : Int), (0 : Int), (1 : Int), (1 : Int), s, false, [a, b, c, d].map fun x => ⟨0, x⟩, (1 : Int))) := by
    unfold X.write_File_e57
    rw [w_e3]
  unfold X.write_File_s22
  refine (if_pos (by decide)).trans ?_
  rw [h0, bd_s, h4', bd_s, if_neg (by decide), h9, bd_s, need_is h8, bd_s, h5', bd_s, if_neg (by simp), h6, bd_s]
  exact h7
theorem w_s2 (s : Int) (l : List Step_api) : X.write_File_s22 ([⟨0, 0, 1⟩], 0) [⟨1, 9, [], false⟩] [120] (Str.mk [97], (1 : Int), (1 : Int), (0 : Int), (1 : Int), (1 : Int), s, false, l, (1 : Int)) = some (.inr (.inl l)) := by
  unfold X.write_File_s22
  exact if_neg (by decide)
theorem w_loop (a b c d : List UInt8) (hp : X.write_piece ⟨1, 9, [], false⟩ hW [120] = some ([a, b, c, d], 0)) :
    run (X.write_File_s22 ([⟨0, 0, 1⟩], 0) [⟨1, 9, [], false⟩] [120]) (Str.mk [97], (1 : Int), (1 : Int), (0 : Int), (0 : Int), (1 : Int), sW, false, ([] : List Step_api), (0 : Int)) = some (.inl ([a, b, c, d].map fun x => ⟨0, x⟩)) := by
  refine run_few 2 (by omega) ?_
  have h1 := w_s1 a b c d sW (w_tail a b c d) w_e4 hp
  have it : ∀ (f : (Str × Int × Int × Int × Int × Int × Int × Bool × (List Step_api) × Int) → Option ((Str × Int × Int × Int × Int × Int × Int × Bool × (List Step_api) × Int) ⊕ (List Step_api ⊕ ((List Step_api) × Int)))) s1 s2 r, f s1 = some (.inl s2) → f s2 = some (.inr r) → iter f 2 s1 = some r := by
    intro f s1 s2 r e1 e2
    simp only [iter, e1, e2]
  exact it _ _ _ _ h1 (w_s2 _ _)
theorem w_file : X.write_File [⟨1, 9, [], false⟩] [] ⟨Str.mk [97], 1, 1, 0, 0, 1, 0, false⟩ [120] = some (stW, 0) := by
  unfold X.write_File
  rw [w_rooms, bd_s, show ((([120] : List UInt8).length : Nat) : Int) = 1 from rfl, w_plan, bd_s, if_neg (by decide), c_crc (by decide), bd_s, show ((crc [120]).toNat : Int) = sW from rfl, if_neg (by decide), w_loop _ _ _ _ w_piece]
  rfl
theorem w_do : ∃ t, X.write_Do [⟨1, 9, [], false⟩] stW (-1) 0 = some ([t], false) ∧ t.Blocks.length = 4 := by
  have : (match X.write_Do [⟨1, 9, [], false⟩] stW (-1) 0 with | some ([t], false) => t.Blocks.length == 4 | _ => false) = true := by decide +kernel
  split at this
  · rename_i t e
    exact ⟨t, e, by simpa using this⟩
  · cases this
theorem alive20 : X.cartridgelaw20_alive = some true := by
  unfold X.cartridgelaw20_alive
  obtain ⟨t, h1, h2⟩ := w_do
  have h3 : X.write_Rooms [] [] = some [] := by decide +kernel
  rw [w_file, bd_s]
  dsimp only
  rw [h1, bd_s, h3, bd_s]
  simp [optG, X.cartridgelaw20_num, getI, stW, h2]
theorem of_none (x : Int) : X.group_Of [] x = some (⟨0, 0, 0, 0, []⟩, false) := by
  unfold X.group_Of
  have : run (X.group_Of_s7 [] x) (0 : Int) = some (.inl ()) := by
    refine run_few 1 (by omega) ?_
    simp only [iter]
    unfold X.group_Of_s7
    simp only []
    rw [if_neg (by simp)]
  rw [this]
  rfl
theorem of_some : ∃ s, X.group_Of [⟨1, 0, 1, 1, [3, 4]⟩] 3 = some (s, true) := by
  have : (match X.group_Of [⟨1, 0, 1, 1, [3, 4]⟩] 3 with | some (_, b) => b | none => false) = true := by decide +kernel
  split at this
  · rename_i s b e
    exact ⟨s, by rw [e, this]⟩
  · cases this
theorem rooms_one {t : Tape_api} {s : List Seal_api} {r : Int} (h : X.write_room t s = some r) : X.write_Rooms [t] s = some [r] := by
  unfold X.write_Rooms
  have : run (X.write_Rooms_s8 [t] s) (([] : List Int), (0 : Int)) = some [r] := by
    refine run_G0 (n := 1) (fun i => if i = 0 then [] else [r]) (by omega) rfl (fun i hi => ?_) ?_
    · obtain rfl : i = 0 := by omega
      unfold X.write_Rooms_s8
      simp only []
      rw [if_pos (by simp), show getI [t] ((0 : Nat) : Int) = some t from rfl, bd_s, h, bd_s, need_is (by simp), bd_s, wr_succ (by omega)]
      rfl
    · unfold X.write_Rooms_s8
      simp only []
      rw [if_neg (by simp)]
      rfl
  rw [this]
  rfl
def frW (i : Nat) : List UInt8 := frameL ⟨4, 3, (i : Int), []⟩
theorem okW {i : Nat} (h : i ≤ 100) : OKU ⟨4, 3, (i : Int), []⟩ ∧ ([] : List UInt8).length ≤ roomN 4 := ⟨⟨by simp, by simp, by simp; omega⟩, by simp⟩
theorem frW_len {i : Nat} : (frW i).length = 79 := frame_len (u := ⟨4, 3, (i : Int), []⟩) (by simp)
theorem w_frames {m b : Nat} (hb : b ≤ 30) : run (X.cartridgelaw20_WriteRooms_s15 (b : Int)) ((3 : Int), (m : Int), ([] : List (List UInt8)), false, (0 : Int)) = some ((3 : Int), (m : Int), tab b frW, false) := by
  refine run_is _ (fun p => ∃ i : Nat, i ≤ b ∧ p = ((3 : Int), (m : Int), tab i frW, false, (i : Int))) (fun p => b - p.2.2.2.2.toNat) ⟨0, by omega, rfl⟩ (by simp only; omega) ?_
  rintro p ⟨i, hi, rfl⟩
  unfold X.cartridgelaw20_WriteRooms_s15
  dsimp only
  rcases Nat.lt_or_ge i b with hlt | hge
  · left
    have ho := okW (i := i) (by omega)
    rw [if_pos (by simp; omega), y_putO _ (by simp), bd_s]
    have e : putF ⟨4, 3, (i : Int), []⟩ = (frW i, 0) := by
      unfold putF
      rw [if_pos ho.1, if_pos ho.2]
      rfl
    rw [e, need_is (by simp [tab]; omega), bd_s]
    refine ⟨_, rfl, ⟨i + 1, by omega, by rw [wr_succ (by omega), tab_succ]⟩, by simp only [wr_succ (n := i) (by omega)]; omega⟩
  · right
    obtain rfl : i = b := by omega
    rw [if_neg (by simp)]
def tpW (m : Nat) (l : List (List UInt8)) (lost : Bool) : Tape_api := ⟨3, (m : Int), l, lost⟩
theorem room_of {t : Tape_api} {s : List Seal_api} {q : Seal_api} (h : X.group_Of s t.Label = some (q, true)) : X.write_room t s = some 0 := by
  unfold X.write_room
  rw [h, bd_s, if_pos (by simp)]
theorem room_lost {m : Nat} {l : List (List UInt8)} : X.write_room (tpW m l true) [] = some 0 := by
  unfold X.write_room
  rw [of_none, bd_s, if_pos (by simp [tpW])]
theorem room_blank {m : Nat} (hm : m ≤ 30) : X.write_room (tpW m [] false) [] = some ((max 1 m - 1 : Nat) : Int) := by
  unfold X.write_room
  rw [of_none, bd_s, if_neg (by simp [tpW]), if_pos (by simp [tpW])]
  show some (wr (max (1 : Int) (m : Int) - 1)) = _
  rw [wr_eq (by omega) (by omega)]
  congr 1
  omega
theorem room_is {m : Nat} {l : List (List UInt8)} (hm : m ≤ 30) (hl : l.length ≤ 30) (h0 : 0 < l.length) (hb : ∀ b ∈ l, b.length ≤ 100000) :
    X.write_room (tpW m l false) [] = some (if (goodF (tpW m l false) ((l.length - 1 : Nat) : Int)).2 = true then ((max l.length m - l.length : Nat) : Int) else 0) := by
  unfold X.write_room
  rw [of_none, bd_s, if_neg (by simp [tpW]), if_neg (by simp [tpW]; intro h; rw [h] at h0; simp at h0)]
  have e : wr (((tpW m l false).Blocks.length : Int) - 1) = ((l.length - 1 : Nat) : Int) := by
    show wr ((l.length : Int) - 1) = _
    rw [wr_eq (by omega) (by omega)]; omega
  rw [e, c_good _ _ hb, bd_s]
  cases hg : (goodF (tpW m l false) ((l.length - 1 : Nat) : Int)).2
  · rw [if_pos (by simp), if_neg (by simp)]
  · rw [if_neg (by simp), if_pos rfl]
    show some (wr (max (l.length : Int) (m : Int) - (l.length : Int))) = _
    rw [wr_eq (by omega) (by omega)]
    congr 1
    omega
theorem good_W {m b : Nat} (h0 : 0 < b) (hb : b ≤ 30) : (goodF (tpW m (tab b frW) false) (((tab b frW).length - 1 : Nat) : Int)).2 = true := by
  have hl : (tab b frW).length = b := by simp [tab]
  rw [hl]
  unfold goodF
  have ho := okW (i := b - 1) (by omega)
  have e : (tpW m (tab b frW) false).Blocks.getD ((b - 1 : Nat) : Int).toNat [] = frW (b - 1) := by
    show (tab b frW).getD _ [] = _
    rw [Int.toNat_natCast, tab_getD, if_pos (by omega)]
  rw [if_pos ⟨rfl, by omega, by simp [tpW, tab]; omega⟩, e]
  unfold frW
  rw [get_frame ho.1 ho.2]
  simp [tpW]
theorem bad_W {m b : Nat} (h0 : 0 < b) (hb : b ≤ 30) : (goodF (tpW m ((tab b frW).set (b - 1) ((frW (b - 1)).set 7 5)) false) ((((tab b frW).set (b - 1) ((frW (b - 1)).set 7 5)).length - 1 : Nat) : Int)).2 = false := by
  have hl : ((tab b frW).set (b - 1) ((frW (b - 1)).set 7 5)).length = b := by simp [tab]
  rw [hl]
  unfold goodF
  have e : (tpW m ((tab b frW).set (b - 1) ((frW (b - 1)).set 7 5)) false).Blocks.getD ((b - 1 : Nat) : Int).toNat [] = (frW (b - 1)).set 7 5 := by
    show ((tab b frW).set (b - 1) ((frW (b - 1)).set 7 5)).getD _ [] = _
    rw [Int.toNat_natCast, set_getD (by simp [tab]; omega), if_pos rfl]
  rw [if_pos ⟨rfl, by omega, by show ((b - 1 : Nat) : Int) < (((tab b frW).set (b - 1) ((frW (b - 1)).set 7 5)).length : Int); rw [hl]; omega⟩, e]
  cases hu : getU ((frW (b - 1)).set 7 5) with
  | none => rfl
  | some u =>
    dsimp only
    by_cases hc : u.Label = (tpW m ((tab b frW).set (b - 1) ((frW (b - 1)).set 7 5)) false).Label ∧ u.Number = ((b - 1 : Nat) : Int)
    · exfalso
      obtain ⟨h1, h2, h3⟩ := get_is.1 hu
      have e1 : ((frW (b - 1)).set 7 5)[7]? = some 5 := by
        rw [List.getElem?_set_self (by rw [frW_len]; omega)]
      rw [← h3] at e1
      have e2 : (frameL u)[7]? = some (UInt8.ofNat (u.Number.toNat / 256)) := by
        unfold frameL bodyF w4
        simp
      rw [e2, hc.2, Int.toNat_natCast, Nat.div_eq_of_lt (by omega)] at e1
      exact absurd e1 (by decide)
    · rw [if_neg hc]
theorem j35_W {m : Nat} {l : List (List UInt8)} {lost : Bool} {s : List Seal_api} {w : Int} (h : X.write_room (tpW m l lost) s = some w) : X.cartridgelaw20_WriteRooms_j35 3 (m : Int) l lost w s = some true := by
  unfold X.cartridgelaw20_WriteRooms_j35
  rw [rooms_one (t := ⟨3, (m : Int), l, lost⟩) h, bd_s]
  simp [optG, getI]
theorem write_rooms (most blocks which : Int) : X.cartridgelaw20_WriteRooms most blocks which = some true := by
  unfold X.cartridgelaw20_WriteRooms
  rw [alive20, bd_s]
  by_cases hc : (((((((!true) || (decide (most < (0 : Int)))) || (decide (most > (30 : Int)))) || (decide (blocks < (0 : Int)))) || (decide (blocks > most))) || (decide (which < (0 : Int)))) || (decide (which > (3 : Int)))) = true
  · rw [if_pos hc]
  rw [if_neg hc]
  simp at hc
  obtain ⟨m, rfl⟩ : ∃ m : Nat, most = (m : Int) := ⟨most.toNat, by omega⟩
  obtain ⟨b, rfl⟩ : ∃ b : Nat, blocks = (b : Int) := ⟨blocks.toNat, by omega⟩
  have hb : b ≤ 30 := by omega
  have hm : m ≤ 30 := by omega
  have hbm : b ≤ m := by omega
  rw [w_frames hb, bd_s]
  dsimp only
  have hl : (tab b frW).length = b := by simp [tab]
  have hlen : ∀ x ∈ tab b frW, x.length ≤ 100000 := by
    intro x hx
    obtain ⟨i, _, rfl⟩ := mem_tab.1 hx
    rw [frW_len]; omega
  -- what is wanted
  have hw : ∃ w : Int, X.cartridgelaw20_WriteRooms_e15 (b : Int) (m : Int) which 3 (m : Int) (tab b frW) false = X.cartridgelaw20_WriteRooms_j30 which 3 (m : Int) (tab b frW) false (b : Int) w ∧ X.write_room (tpW m (tab b frW) false) [] = some w := by
    unfold X.cartridgelaw20_WriteRooms_e15
    have e : wr ((m : Int) - (b : Int)) = ((m - b : Nat) : Int) := by rw [wr_eq (by omega) (by omega)]; omega
    rw [e]
    rcases Nat.eq_zero_or_pos b with h0 | h0
    · subst h0
      rw [tab_zero, room_blank hm]
      by_cases h1 : 0 < m
      · rw [if_pos (by simp; omega)]
        refine ⟨_, rfl, ?_⟩
        rw [wr_eq (by omega) (by omega)]
        congr 1
        omega
      · rw [if_neg (by simp; omega)]
        refine ⟨_, rfl, ?_⟩
        congr 1
        omega
    · rw [if_neg (by simp; omega)]
      refine ⟨_, rfl, ?_⟩
      rw [room_is hm (by omega) (by omega) hlen, if_pos (good_W h0 hb), hl]
      congr 1
      omega
  obtain ⟨w, e, hr⟩ := hw
  rw [e]
  unfold X.cartridgelaw20_WriteRooms_j30
  by_cases h1 : which = 1
  · rw [if_pos (by simp [h1])]
    exact j35_W room_lost
  rw [if_neg (by simp [h1])]
  by_cases h2 : which = 2
  · rw [if_pos (by simp [h2])]
    obtain ⟨q, hq⟩ := of_some
    exact j35_W (room_of (t := tpW m (tab b frW) false) hq)
  rw [if_neg (by simp [h2])]
  by_cases h3 : which = 3
  · rw [if_pos (by simp [h3])]
    by_cases h0 : 0 < b
    · rw [if_pos (by simp; omega)]
      have e1 : wr ((b : Int) - 1) = ((b - 1 : Nat) : Int) := by rw [wr_eq (by omega) (by omega)]; omega
      have e2 : getI (tab b frW) ((b - 1 : Nat) : Int) = some (frW (b - 1)) := getI_tab (by omega)
      have e3 : ∃ x, getI (frW (b - 1)) 7 = some x := ⟨_, getI_nat (i := 7) (by rw [frW_len]; omega)⟩
      obtain ⟨x, e3⟩ := e3
      rw [e1, e2, bd_s, bd_s, e3, bd_s, Int.toNat_natCast]
      refine j35_W ?_
      show X.write_room (tpW m ((tab b frW).set (b - 1) ((frW (b - 1)).set 7 5)) false) [] = some 0
      rw [room_is hm (by simp [tab]; omega) (by simp [tab]; omega) (fun y hy => by
        rcases List.mem_or_eq_of_mem_set hy with h | h
        · exact hlen y h
        · rw [h, List.length_set, frW_len]; omega), if_neg (by rw [bad_W h0 hb]; simp)]
    · rw [if_neg (by simp; omega)]
      exact j35_W hr
  · rw [if_neg (by simp [h3])]
    exact j35_W hr
end Go.AX
