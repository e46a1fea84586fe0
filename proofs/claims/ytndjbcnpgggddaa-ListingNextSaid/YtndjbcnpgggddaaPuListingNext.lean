import Derived.Test.YtndjbcnpgggddaaXFn
import Derived.Test.YtndjbcnpgggddaaLibC
/- Plain laws of counting loops and of lists that are filled place by place. -/
namespace Go.AX

theorem iter_more {σ ρ : Type} {f : σ → Option (σ ⊕ ρ)} : ∀ {n : Nat} {s : σ} {r : ρ} (k : Nat), iter f n s = some r → iter f (n + k) s = some r
  | 0, _, _, _, h => by simp [iter] at h
  | n + 1, s, r, k, h => by
    rw [Nat.add_right_comm]
    simp only [iter] at h ⊢
    cases hs : f s with
    | none => rw [hs] at h; cases h
    | some q =>
      rw [hs] at h
      cases q with
      | inl s' => exact iter_more k h
      | inr r' => exact h
theorem run_few {σ ρ : Type} {f : σ → Option (σ ⊕ ρ)} {s : σ} {r : ρ} (n : Nat) (hn : n ≤ 1000000) (h : iter f n s = some r) : run f s = some r := by
  unfold run
  rw [FUEL_eq, show (4611686018427387904 : Nat) = n + (4611686018427387904 - n) from by omega]
  exact iter_more _ h

/-- A loop over numbers. -/
theorem run_ix {σ ρ : Type} {f : σ × Int → Option ((σ × Int) ⊕ ρ)} {s0 : σ} {a n : Nat} (I : Nat → σ → Prop) (R : ρ → Prop) (han : a ≤ n) (hn : n ≤ 4000000000000000000) (h0 : I a s0)
    (step : ∀ i s, a ≤ i → i < n → I i s → (∃ s', f (s, (i : Int)) = some (.inl (s', ((i + 1 : Nat) : Int))) ∧ I (i + 1) s') ∨ ∃ r, f (s, (i : Int)) = some (.inr r) ∧ R r)
    (fin : ∀ s, I n s → ∃ r, f (s, (n : Int)) = some (.inr r) ∧ R r) : ∃ r, run f (s0, (a : Int)) = some r ∧ R r := by
  refine run_inv (fun p => ∃ i : Nat, p.2 = (i : Int) ∧ a ≤ i ∧ i ≤ n ∧ I i p.1) R (fun p => n - p.2.toNat) ⟨a, rfl, Nat.le_refl _, han, h0⟩ (by simp only; omega) ?_
  rintro ⟨s, x⟩ ⟨i, rfl, hai, hin, hI⟩
  rcases Nat.lt_or_ge i n with hlt | hge
  · rcases step i s hai hlt hI with ⟨s', h1, h2⟩ | h
    · exact .inl ⟨_, h1, ⟨i + 1, rfl, by omega, by omega, h2⟩, by simp only; omega⟩
    · exact .inr h
  · have : i = n := by omega
    subst this
    exact .inr (fin s hI)
/-- A loop over numbers, told as a function of them. -/
theorem run_G {σ ρ : Type} {f : σ × Int → Option ((σ × Int) ⊕ ρ)} (G : Nat → σ) {s0 : σ} {a n : Nat} {r : ρ} (han : a ≤ n) (hn : n ≤ 4000000000000000000) (h0 : s0 = G a)
    (step : ∀ i, a ≤ i → i < n → f (G i, (i : Int)) = some (.inl (G (i + 1), ((i + 1 : Nat) : Int)))) (fin : f (G n, (n : Int)) = some (.inr r)) : run f (s0, (a : Int)) = some r := by
  obtain ⟨r', h1, h2⟩ := run_ix (f := f) (s0 := s0) (a := a) (n := n) (fun i s => s = G i) (fun x => x = r) han hn h0 (fun i s hi hlt e => .inl ⟨_, by rw [e]; exact step i hi hlt, rfl⟩) (fun s e => ⟨r, by rw [e]; exact fin, rfl⟩)
  rw [h1, h2]
theorem run_G0 {σ ρ : Type} {f : σ × Int → Option ((σ × Int) ⊕ ρ)} (G : Nat → σ) {s0 : σ} {n : Nat} {r : ρ} (hn : n ≤ 4000000000000000000) (h0 : s0 = G 0)
    (step : ∀ i, i < n → f (G i, (i : Int)) = some (.inl (G (i + 1), ((i + 1 : Nat) : Int)))) (fin : f (G n, (n : Int)) = some (.inr r)) : run f (s0, (0 : Int)) = some r :=
  run_G (a := 0) G (Nat.zero_le _) hn h0 (fun i _ h => step i h) fin
theorem run_ix0 {σ ρ : Type} {f : σ × Int → Option ((σ × Int) ⊕ ρ)} {s0 : σ} {n : Nat} (I : Nat → σ → Prop) (R : ρ → Prop) (hn : n ≤ 4000000000000000000) (h0 : I 0 s0)
    (step : ∀ i s, i < n → I i s → (∃ s', f (s, (i : Int)) = some (.inl (s', ((i + 1 : Nat) : Int))) ∧ I (i + 1) s') ∨ ∃ r, f (s, (i : Int)) = some (.inr r) ∧ R r)
    (fin : ∀ s, I n s → ∃ r, f (s, (n : Int)) = some (.inr r) ∧ R r) : ∃ r, run f (s0, (0 : Int)) = some r ∧ R r :=
  run_ix (a := 0) I R (Nat.zero_le _) hn h0 (fun i s _ h k => step i s h k) fin
/-- A search over numbers, without other state. -/
theorem run_se {ρ : Type} {f : Int → Option (Int ⊕ ρ)} {a n : Nat} (R : ρ → Prop) (I : Nat → Prop) (han : a ≤ n) (hn : n ≤ 4000000000000000000) (h0 : I a)
    (step : ∀ i, a ≤ i → i < n → I i → (f (i : Int) = some (.inl ((i + 1 : Nat) : Int)) ∧ I (i + 1)) ∨ ∃ r, f (i : Int) = some (.inr r) ∧ R r)
    (fin : I n → ∃ r, f (n : Int) = some (.inr r) ∧ R r) : ∃ r, run f (a : Int) = some r ∧ R r := by
  refine run_inv (fun x => ∃ i : Nat, x = (i : Int) ∧ a ≤ i ∧ i ≤ n ∧ I i) R (fun x => n - x.toNat) ⟨a, rfl, Nat.le_refl _, han, h0⟩ (by omega) ?_
  rintro x ⟨i, rfl, hai, hin, hI⟩
  rcases Nat.lt_or_ge i n with hlt | hge
  · rcases step i hai hlt hI with ⟨h1, h2⟩ | h
    · exact .inl ⟨_, h1, ⟨i + 1, rfl, by omega, by omega, h2⟩, by omega⟩
    · exact .inr h
  · have : i = n := by omega
    subst this
    exact .inr (fin hI)

theorem run_seE {ρ : Type} {f : Int → Option (Int ⊕ ρ)} {a n : Nat} {r : ρ} (I : Nat → Prop) (han : a ≤ n) (hn : n ≤ 4000000000000000000) (h0 : I a)
    (step : ∀ i, a ≤ i → i < n → I i → (f (i : Int) = some (.inl ((i + 1 : Nat) : Int)) ∧ I (i + 1)) ∨ f (i : Int) = some (.inr r))
    (fin : I n → f (n : Int) = some (.inr r)) : run f (a : Int) = some r := by
  obtain ⟨r', h1, h2⟩ := run_se (f := f) (fun x => x = r) I han hn h0 (fun i h1 h2 h3 => (step i h1 h2 h3).imp id fun h => ⟨r, h, rfl⟩) (fun h => ⟨r, fin h, rfl⟩)
  rw [h1, h2]
theorem run_ixE {σ ρ : Type} {f : σ × Int → Option ((σ × Int) ⊕ ρ)} {s0 : σ} {n : Nat} {r : ρ} (I : Nat → σ → Prop) (hn : n ≤ 4000000000000000000) (h0 : I 0 s0)
    (step : ∀ i s, i < n → I i s → (∃ s', f (s, (i : Int)) = some (.inl (s', ((i + 1 : Nat) : Int))) ∧ I (i + 1) s') ∨ f (s, (i : Int)) = some (.inr r))
    (fin : ∀ s, I n s → f (s, (n : Int)) = some (.inr r)) : run f (s0, (0 : Int)) = some r := by
  obtain ⟨r', h1, h2⟩ := run_ix0 (f := f) (s0 := s0) I (fun x => x = r) hn h0 (fun i s h1 h2 => (step i s h1 h2).imp id fun h => ⟨r, h, rfl⟩) (fun s h => ⟨r, fin s h, rfl⟩)
  rw [h1, h2]

/-- A list told place by place. -/
def tab {α : Type} (n : Nat) (g : Nat → α) : List α := (List.range n).map g
section
variable {α : Type} {n : Nat} {g g' : Nat → α}
@[simp] theorem tab_len : (tab n g).length = n := by simp [tab]
theorem tab_get {i : Nat} (h : i < (tab n g).length) : (tab n g)[i] = g i := by simp [tab]
theorem tab_get? {i : Nat} (h : i < n) : (tab n g)[i]? = some (g i) := by simp [tab, h]
theorem tab_congr (h : ∀ i, i < n → g i = g' i) : tab n g = tab n g' := by
  unfold tab
  exact List.map_congr_left fun i hi => h i (List.mem_range.1 hi)
theorem tab_set {i : Nat} {y : α} : (tab n g).set i y = tab n (fun j => if j = i then y else g j) := by
  apply List.ext_getElem (by simp)
  intro j h1 h2
  rw [List.getElem_set, tab_get (by simpa using h2), tab_get h2]
  by_cases hij : i = j
  · rw [if_pos hij, if_pos hij.symm]
  · rw [if_neg hij, if_neg fun e => hij e.symm]
theorem tab_rep {z : α} : List.replicate n z = tab n (fun _ => z) := by
  apply List.ext_getElem?
  intro j
  by_cases hj : j < n <;> simp [tab, hj]
theorem getI_tab {i : Nat} (h : i < n) : getI (tab n g) (i : Int) = some (g i) := by rw [getI_nat (by simpa using h), tab_get]
theorem tab_succ : tab (n + 1) g = tab n g ++ [g n] := by simp [tab, List.range_succ]
theorem tab_zero : tab 0 g = [] := rfl
theorem tab_all (z : α) (xs : List α) : xs = tab xs.length (fun j => xs.getD j z) := by
  apply List.ext_getElem?
  intro j
  by_cases hj : j < xs.length
  · rw [tab_get? hj, List.getElem?_eq_getElem hj]; simp [List.getD_eq_getElem?_getD, hj]
  · rw [List.getElem?_eq_none (by omega), List.getElem?_eq_none (by simp; omega)]
theorem tab_getD {i : Nat} {z : α} : (tab n g).getD i z = if i < n then g i else z := by
  by_cases h : i < n
  · simp [tab, h, List.getD_eq_getElem?_getD]
  · rw [if_neg h, List.getD_eq_getElem?_getD, List.getElem?_eq_none (by simp; omega)]; rfl
theorem mem_tab {x : α} : x ∈ tab n g ↔ ∃ i, i < n ∧ g i = x := by simp [tab]
theorem getI_getD {xs : List α} (z : α) {i : Nat} (h : i < xs.length) : getI xs (i : Int) = some (xs.getD i z) := by
  rw [getI_nat h]; simp [List.getD_eq_getElem?_getD, h]
theorem set_getD {xs : List α} {z : α} {i j : Nat} {y : α} (h : i < xs.length) : (xs.set i y).getD j z = if j = i then y else xs.getD j z := by
  simp only [List.getD_eq_getElem?_getD, List.getElem?_set]
  by_cases e : i = j
  · subst e; simp [h]
  · rw [if_neg e, if_neg fun h : j = i => e h.symm]
theorem list_ext_getD (z : α) {xs ys : List α} (hl : xs.length = ys.length) (h : ∀ i, i < xs.length → xs.getD i z = ys.getD i z) : xs = ys := by
  rw [tab_all z xs, tab_all z ys, ← hl]
  exact tab_congr h
end
end Go.AX
/- Texts in order, each once. -/
namespace Go.AX
open Go.AM
set_option linter.unusedSimpArgs false
theorem bless_iff : ∀ (a b : List UInt8), Op.bytesLess a b = true ↔ a < b
  | a, [] => by cases a <;> simp [Op.bytesLess]
  | [], b :: y => by simp [Op.bytesLess]
  | a :: x, b :: y => by
    rw [Op.bytesLess, List.cons_lt_cons_iff, Bool.or_eq_true, Bool.and_eq_true, bless_iff x y]
    simp
theorem lt_irr (a : List UInt8) : ¬ a < a := List.lt_irrefl a
theorem rise_nodup {l : List (List UInt8)} (h : l.Pairwise (· < ·)) : l.Nodup := h.imp fun hab e => by subst e; exact lt_irr _ hab
/-- Rising lists of the same texts are one. -/
theorem rise_uniq : ∀ {xs ys : List (List UInt8)}, xs.Pairwise (· < ·) → ys.Pairwise (· < ·) → (∀ x, x ∈ xs ↔ x ∈ ys) → xs = ys
  | [], [], _, _, _ => rfl
  | [], y :: ys, _, _, h => by have := (h y).2 (by simp); cases this
  | x :: xs, [], _, _, h => by have := (h x).1 (by simp); cases this
  | x :: xs, y :: ys, hx, hy, h => by
    obtain ⟨hx1, hx2⟩ := List.pairwise_cons.1 hx
    obtain ⟨hy1, hy2⟩ := List.pairwise_cons.1 hy
    have e : x = y := by
      rcases List.mem_cons.1 ((h x).1 (by simp)) with e | h1
      · exact e
      · rcases List.mem_cons.1 ((h y).2 (by simp)) with e | h2
        · exact e.symm
        · exact absurd (List.lt_trans (hy1 x h1) (hx1 y h2)) (lt_irr _)
    subst e
    rw [rise_uniq hx2 hy2 fun z => ?_]
    constructor
    · intro hz
      rcases List.mem_cons.1 ((h z).1 (List.mem_cons_of_mem _ hz)) with e | h1
      · subst e; exact absurd (hx1 _ hz) (lt_irr _)
      · exact h1
    · intro hz
      rcases List.mem_cons.1 ((h z).2 (List.mem_cons_of_mem _ hz)) with e | h1
      · subst e; exact absurd (hy1 _ hz) (lt_irr _)
      · exact h1
theorem compact_rise (zs : List (List UInt8)) (hs : zs.Pairwise (· ≤ ·)) : (Lib.compact zs).Pairwise (· < ·) ∧ ∀ x, x ∈ Lib.compact zs ↔ x ∈ zs := by
  have get : ∀ {j : Nat} (h : j < zs.length), zs.toArray[j]! = zs[j] := fun {j} h => by simp [h]
  have key : ∀ m, m ≤ zs.length → (Lib.compactUpTo zs.toArray m).Pairwise (· < ·) ∧ ∀ x, x ∈ Lib.compactUpTo zs.toArray m ↔ x ∈ zs.take m := by
    intro m
    induction m with
    | zero => intro _; simp [Lib.compactUpTo]
    | succ m ih =>
      intro hm
      obtain ⟨h1, h2⟩ := ih (by omega)
      have hlt : m < zs.length := by omega
      rw [Lib.compactUpTo_succ, List.take_succ_eq_append_getElem hlt]
      have hle : ∀ j, (hj : j < m) → zs[j]'(by omega) ≤ zs[m] := fun j hj => List.pairwise_iff_getElem.1 hs j m (by omega) hlt hj
      by_cases hk : Lib.keeps zs.toArray m = true
      · rw [if_pos hk, get hlt]
        refine ⟨?_, fun x => by rw [List.mem_append, List.mem_append, h2 x]⟩
        rw [List.pairwise_append]
        refine ⟨h1, by simp, fun a ha b hb => ?_⟩
        simp at hb
        subst hb
        rw [h2] at ha
        obtain ⟨j, hj, rfl⟩ := List.mem_take_iff_getElem.1 ha
        have hj' : j < m := by omega
        have hne : zs[m - 1]'(by omega) ≠ zs[m] := by
          unfold Lib.keeps at hk
          rw [get hlt, get (by omega : m - 1 < zs.length)] at hk
          simp at hk
          rcases hk with hk | hk
          · omega
          · exact fun e => hk e.symm
        have hjm : zs[j]'(by omega) ≤ zs[m - 1]'(by omega) := by
          rcases Nat.eq_or_lt_of_le (by omega : j ≤ m - 1) with e | e
          · subst e; exact List.le_refl _
          · exact List.pairwise_iff_getElem.1 hs j (m - 1) (by omega) (by omega) e
        have hm1 := hle (m - 1) (by omega)
        have hlt1 : zs[m - 1]'(by omega) < zs[m] := by
          rcases List.le_iff_lt_or_eq.1 hm1 with h | h
          · exact h
          · exact absurd h hne
        exact List.lt_of_le_of_lt hjm hlt1
      · have hk : Lib.keeps zs.toArray m = false := by simpa using hk
        rw [hk]
        simp only [Bool.false_eq_true, if_false, List.append_nil]
        refine ⟨h1, fun x => ?_⟩
        rw [h2, List.mem_append]
        unfold Lib.keeps at hk
        rw [get hlt] at hk
        simp at hk
        obtain ⟨hm0, he⟩ := hk
        have hin : zs[m] ∈ zs.take m := by
          rw [List.mem_take_iff_getElem]
          refine ⟨m - 1, by omega, ?_⟩
          have : zs[m - 1]? = some (zs[m - 1]'(by omega)) := List.getElem?_eq_getElem (by omega)
          rw [this] at he
          simpa using he.symm
        constructor
        · exact .inl
        · rintro (h | h)
          · exact h
          · simp at h; rw [h]; exact hin
  have := key zs.length (Nat.le_refl _)
  rw [List.take_length] at this
  have e : zs.toArray.size = zs.length := by simp
  unfold Lib.compact
  exact this
theorem sorted_ms (zs : List (List UInt8)) : (zs.mergeSort fun x y => decide (x ≤ y)).Pairwise (· ≤ ·) := by
  have := List.pairwise_mergeSort (le := fun x y : List UInt8 => decide (x ≤ y)) (fun a b c h1 h2 => by simp only [decide_eq_true_eq] at *; exact List.le_trans h1 h2) (fun a b => by simp only [Bool.or_eq_true, decide_eq_true_eq]; exact List.le_total a b) zs
  exact this.imp fun h => of_decide_eq_true h
/-- Sorted, each once. -/
theorem names_rise (l : List Str) : ((compactS (sortS l)).map (·.l)).Pairwise (· < ·) ∧ ∀ p : Str, p ∈ compactS (sortS l) ↔ p ∈ l := by
  have e : (sortS l).map (·.l) = (l.map (·.l)).mergeSort fun x y => decide (x ≤ y) := by simp [sortS, Function.comp_def]
  obtain ⟨h1, h2⟩ := compact_rise _ (sorted_ms (l.map (·.l)))
  have e2 : (compactS (sortS l)).map (·.l) = Lib.compact ((l.map (·.l)).mergeSort fun x y => decide (x ≤ y)) := by
    unfold compactS
    rw [e]
    simp [Function.comp_def]
  refine ⟨by rw [e2]; exact h1, fun p => ?_⟩
  have h3 : p ∈ compactS (sortS l) ↔ p.l ∈ (compactS (sortS l)).map (·.l) := by
    rw [List.mem_map]
    constructor
    · intro h; exact ⟨p, h, rfl⟩
    · rintro ⟨⟨q⟩, h, rfl⟩; exact h
  rw [h3, e2, h2, List.mem_mergeSort, List.mem_map]
  constructor
  · rintro ⟨⟨q⟩, h, rfl⟩; exact h
  · intro h; exact ⟨p, h, rfl⟩
theorem names_len (l : List Str) : (compactS (sortS l)).length ≤ l.length := by
  unfold compactS
  rw [List.length_map]
  have := compact_le ((sortS l).map (·.l))
  rw [List.length_map, sortS_len] at this
  exact this
end Go.AX
/- The newest version of a path, names, what comes next. -/
namespace Go.AX
open Go.AM
set_option linter.unusedSimpArgs false
theorem bd_s {α β : Type} (a : α) (f : α → Option β) : (some a).bind f = f a := rfl
theorem str_l {s t : Str} : (s.l == t.l) = true ↔ s = t := by
  obtain ⟨a⟩ := s
  obtain ⟨b⟩ := t
  simp
def zeroF : File_api := ⟨⟨[]⟩, 0, 0, 0, 0, false, []⟩
def better (o : Option File_api) (f : File_api) : Bool := match o with | none => true | some g => decide (f.Version > g.Version)
def nwStep (p : Str) (o : Option File_api) (f : File_api) : Option File_api := if (f.Path.l == p.l && better o f) = true then some f else o
def nw (l : List File_api) (p : Str) : Option File_api := l.foldl (nwStep p) none
def CP (l : List File_api) : Prop := ∀ f ∈ l, f.Parts.length * 88 ≤ 140737488351232
theorem nw_app (l m : List File_api) (p : Str) : nw (l ++ m) p = m.foldl (nwStep p) (nw l p) := by unfold nw; rw [List.foldl_append]
theorem nw_succ {l : List File_api} {i : Nat} (h : i < l.length) (p : Str) : nw (l.take (i + 1)) p = nwStep p (nw (l.take i) p) l[i] := by
  rw [List.take_succ_eq_append_getElem h, nw_app]; rfl
theorem nw_mem {l : List File_api} {p : Str} {f : File_api} (h : nw l p = some f) : f ∈ l ∧ f.Path = p := by
  have key : ∀ (m : List File_api) (o : Option File_api), (∀ g, o = some g → g ∈ l ∧ g.Path = p) → (∀ g ∈ m, g ∈ l) → ∀ g, m.foldl (nwStep p) o = some g → g ∈ l ∧ g.Path = p := by
    intro m
    induction m with
    | nil => intro o ho _ g hg; exact ho g hg
    | cons a m ih =>
      intro o ho hm g hg
      refine ih _ ?_ (fun g hg => hm g (List.mem_cons_of_mem _ hg)) g hg
      intro q hq
      unfold nwStep at hq
      split at hq
      · rename_i hc
        injection hq with hq
        subst hq
        rw [Bool.and_eq_true] at hc
        exact ⟨hm _ (by simp), str_l.1 hc.1⟩
      · exact ho q hq
  exact key l none (fun g hg => by cases hg) (fun g hg => hg) f h
theorem nw_some {l : List File_api} {p : Str} {f : File_api} (hf : f ∈ l) (hp : f.Path = p) : ∃ g, nw l p = some g := by
  have step : ∀ (o : Option File_api) (a : File_api), (∃ g, o = some g) → ∃ g, nwStep p o a = some g := by
    rintro o a ⟨g, rfl⟩
    unfold nwStep
    split
    · exact ⟨_, rfl⟩
    · exact ⟨_, rfl⟩
  have keep : ∀ (m : List File_api) (o : Option File_api), (∃ g, o = some g) → ∃ g, m.foldl (nwStep p) o = some g := by
    intro m
    induction m with
    | nil => intro o ho; exact ho
    | cons a m ih => intro o ho; exact ih _ (step o a ho)
  obtain ⟨a, b, rfl⟩ := List.append_of_mem hf
  rw [nw_app]
  show ∃ g, b.foldl (nwStep p) (nwStep p (nw a p) f) = some g
  refine keep b _ ?_
  have hb : (f.Path.l == p.l) = true := str_l.2 hp
  unfold nwStep
  rw [hb]
  cases nw a p with
  | none => exact ⟨_, rfl⟩
  | some g =>
    simp only [Bool.true_and]
    split
    · exact ⟨_, rfl⟩
    · exact ⟨_, rfl⟩
/-- What is told of a file, gone or not. -/
def thereF : Option File_api → File_api × Bool
  | none => (zeroF, false)
  | some f => if f.Gone = true then (zeroF, false) else (f, true)
theorem x_new0 (l : List File_api) (p : Str) (hl : l.length ≤ 1000000) : X.listing_newest l p = some ((nw l p).getD zeroF, (nw l p).isSome) := by
  unfold X.listing_newest
  let tup : Option File_api → Nat → (Str × Int × Int × Int × Int × Bool × (List Part_api) × Bool × Int) := fun o i =>
    ((o.getD zeroF).Path, (o.getD zeroF).Version, (o.getD zeroF).Size, (o.getD zeroF).Sum, (o.getD zeroF).Serial, (o.getD zeroF).Gone, (o.getD zeroF).Parts, o.isSome, (i : Int))
  let res : Option File_api → (Str × Int × Int × Int × Int × Bool × (List Part_api) × Bool) := fun o =>
    ((o.getD zeroF).Path, (o.getD zeroF).Version, (o.getD zeroF).Size, (o.getD zeroF).Sum, (o.getD zeroF).Serial, (o.getD zeroF).Gone, (o.getD zeroF).Parts, o.isSome)
  have key : run (X.listing_newest_s10 l p) ((Str.mk []), (0 : Int), (0 : Int), (0 : Int), (0 : Int), false, ([] : (List Part_api)), false, (0 : Int)) = some (res (nw l p)) := by
    refine run_is _ (fun x => ∃ i : Nat, i ≤ l.length ∧ x = tup (nw (l.take i) p) i) (fun x => l.length - x.2.2.2.2.2.2.2.2.toNat) ⟨0, by omega, rfl⟩ (by simp only; omega) ?_
    rintro _ ⟨i, hi, rfl⟩
    rcases Nat.lt_or_ge i l.length with hlt | hge
    · left
      refine ⟨tup (nw (l.take (i + 1)) p) (i + 1), ?_, ⟨i + 1, by omega, rfl⟩, by simp only [tup]; omega⟩
      simp only [tup]
      unfold X.listing_newest_s10
      simp only
      rw [if_pos (by simpa using hlt), getI_nat hlt, bd_s, nw_succ hlt, wr_succ (by omega)]
      generalize nw (l.take i) p = o
      unfold nwStep
      cases o with
      | none =>
        simp only [Option.isSome_none, Bool.not_false, Bool.true_or, Bool.and_true]
        by_cases hc : (l[i].Path.l == p.l) = true
        · rw [if_pos hc, if_pos (by rw [hc]; rfl)]; rfl
        · rw [if_neg hc, if_neg (by simp only [better, Bool.and_true]; exact hc)]; rfl
      | some g =>
        simp only [Option.isSome_some, Bool.not_true, Bool.false_or, Option.getD_some]
        by_cases hc : (l[i].Path.l == p.l && decide (l[i].Version > g.Version)) = true
        · rw [if_pos hc, if_pos (by exact hc)]; rfl
        · rw [if_neg hc, if_neg (by exact hc)]; rfl
    · right
      obtain rfl : i = l.length := by omega
      simp only [tup]
      unfold X.listing_newest_s10
      simp only
      rw [if_neg (by simp), List.take_length]
  rw [key, bd_s]
  simp only [res]
  unfold X.listing_newest_e10
  rfl
theorem x_clone (f : File_api) (h : f.Parts.length * 88 ≤ 140737488351232) : X.listing_Clone f = some f := by
  unfold X.listing_Clone X.slices_Clone_Lapi_Part_api_Part
  rw [nilU_same (r := f.Parts) (fun e => by rw [e]; rfl) (by simp only [Bool.false_eq_true, if_false]; rw [need_is (by omega), bd_s]), bd_s]
theorem x_there (f : File_api) (h : f.Parts.length * 88 ≤ 140737488351232) : X.listing_there f true = some (thereF (some f)) := by
  unfold X.listing_there
  show _ = some (if f.Gone = true then (zeroF, false) else (f, true))
  cases hg : f.Gone
  · rw [if_neg (by simp), x_clone f h, bd_s, if_neg (by simp)]
  · rw [if_pos (by simp), if_pos rfl]; rfl
theorem x_Newest (l : List File_api) (p : Str) (hl : l.length ≤ 1000000) (hc : CP l) : X.listing_Newest l p = some (thereF (nw l p)) := by
  unfold X.listing_Newest
  rw [x_new0 l p hl, bd_s]
  cases h : nw l p with
  | none => rfl
  | some f =>
    show (X.listing_there f true).bind _ = _
    rw [x_there f (hc f (nw_mem h).1), bd_s]
def nextF (l : List File_api) (p : Str) : Int := match nw l p with | none => 1 | some f => wr (f.Version + 1)
theorem x_Next (l : List File_api) (p : Str) (hl : l.length ≤ 1000000) : X.listing_Next l p = some (nextF l p) := by
  unfold X.listing_Next nextF
  rw [x_new0 l p hl, bd_s]
  cases h : nw l p <;> rfl
def serF : List File_api → Int
  | [] => 1
  | f :: l => wr (l.foldl (fun n g => max n g.Serial) f.Serial + 1)
theorem fold_max : ∀ (l : List File_api) (m : Int), (l.foldl (fun n g => max n g.Serial) m = m ∨ ∃ g ∈ l, l.foldl (fun n g => max n g.Serial) m = g.Serial) ∧ m ≤ l.foldl (fun n g => max n g.Serial) m ∧ ∀ g ∈ l, g.Serial ≤ l.foldl (fun n g => max n g.Serial) m
  | [], m => ⟨.inl rfl, by simp, fun g hg => by cases hg⟩
  | f :: l, m => by
    obtain ⟨h1, h2, h3⟩ := fold_max l (max m f.Serial)
    simp only [List.foldl_cons]
    refine ⟨?_, by omega, fun g hg => ?_⟩
    · rcases h1 with h1 | ⟨g, hg, h1⟩
      · rw [h1]
        rcases Int.le_total m f.Serial with h | h
        · right; exact ⟨f, by simp, by omega⟩
        · left; omega
      · right; exact ⟨g, List.mem_cons_of_mem _ hg, h1⟩
    · rcases List.mem_cons.1 hg with rfl | hg
      · omega
      · exact h3 g hg
theorem serF_is {l : List File_api} {s : Int} (h1 : ∃ f ∈ l, f.Serial = s) (h2 : ∀ f ∈ l, f.Serial ≤ s) : serF l = wr (s + 1) := by
  cases l with
  | nil => obtain ⟨f, hf, _⟩ := h1; cases hf
  | cons f m =>
    obtain ⟨g1, g2, g3⟩ := fold_max m f.Serial
    have e : m.foldl (fun n g => max n g.Serial) f.Serial = s := by
      apply Int.le_antisymm
      · rcases g1 with g1 | ⟨g, hg, g1⟩
        · rw [g1]; exact h2 f (by simp)
        · rw [g1]; exact h2 g (List.mem_cons_of_mem _ hg)
      · obtain ⟨g, hg, rfl⟩ := h1
        rcases List.mem_cons.1 hg with h | h
        · rw [h]; exact g2
        · exact g3 g h
    show wr (m.foldl (fun n g => max n g.Serial) f.Serial + 1) = _
    rw [e]
theorem x_Serial (l : List File_api) (hl : l.length ≤ 1000000) : X.listing_Serial l = some (serF l) := by
  unfold X.listing_Serial
  cases l with
  | nil => rfl
  | cons f l =>
    rw [if_neg (by simp; omega)]
    have e0 : getI (f :: l) (0 : Int) = some f := rfl
    rw [e0, bd_s]
    have key : run (X.listing_Serial_s10 (f :: l)) (f.Serial, (0 : Int)) = some (l.foldl (fun n g => max n g.Serial) f.Serial) := by
      refine run_G0 (n := (f :: l).length) (fun i => ((f :: l).take i).foldl (fun n g => max n g.Serial) f.Serial) (by omega) rfl ?_ ?_
      · intro i hi
        unfold X.listing_Serial_s10
        simp only
        rw [if_pos (by simp only [decide_eq_true_eq]; omega), getI_nat hi, bd_s, wr_succ (by omega), List.take_succ_eq_append_getElem hi, List.foldl_append]
        rfl
      · unfold X.listing_Serial_s10
        simp only
        rw [if_neg (by simp), List.take_length]
        simp [List.foldl_cons]
    rw [key, bd_s]
    rfl
/-- The names. -/
def NamesOK (l : List File_api) (n : List Str) : Prop := (n.map (·.l)).Pairwise (· < ·) ∧ ∀ p : Str, p ∈ n ↔ ((∃ f ∈ l, f.Path = p) ∧ (thereF (nw l p)).2 = true)
theorem names_uniq {l : List File_api} {n m : List Str} (h1 : NamesOK l n) (h2 : NamesOK l m) : n = m := by
  have e : n.map (·.l) = m.map (·.l) := rise_uniq h1.1 h2.1 fun x => by
    have a : ∀ (k : List Str), x ∈ k.map (·.l) ↔ Str.mk x ∈ k := fun k => by
      rw [List.mem_map]
      constructor
      · rintro ⟨⟨q⟩, h, rfl⟩; exact h
      · intro h; exact ⟨_, h, rfl⟩
    rw [a, a, h1.2, h2.2]
  have inj : ∀ {a b : List Str}, a.map (·.l) = b.map (·.l) → a = b := by
    intro a
    induction a with
    | nil => intro b hb; cases b with | nil => rfl | cons y b => cases hb
    | cons x a ih =>
      intro b hb
      cases b with
      | nil => cases hb
      | cons y b =>
        simp only [List.map_cons, List.cons.injEq] at hb
        have e1 : x = y := by
          cases x; cases y; simp at hb; rw [hb.1]
        rw [e1, ih hb.2]
  exact inj e
theorem x_Names (l : List File_api) (hl : l.length ≤ 1000000) (hc : CP l) : ∃ n, X.listing_Names l = some n ∧ NamesOK l n ∧ n.length ≤ l.length := by
  unfold X.listing_Names
  have key : run (X.listing_Names_s7 l) (([] : List Str), (0 : Int)) = some ((l.filter fun f => (thereF (nw l f.Path)).2).map (·.Path)) := by
    refine run_G0 (n := l.length) (fun i => ((l.take i).filter fun f => (thereF (nw l f.Path)).2).map (·.Path)) (by omega) rfl ?_ ?_
    · intro i hi
      unfold X.listing_Names_s7
      simp only
      rw [if_pos (by simpa using hi), getI_nat hi, bd_s, x_Newest l _ hl hc, bd_s, wr_succ (by omega), List.take_succ_eq_append_getElem hi, List.filter_append, List.map_append]
      have hlen : ((List.filter (fun f => (thereF (nw l f.Path)).2) (List.take i l)).map (·.Path)).length ≤ i := by
        rw [List.length_map]
        exact Nat.le_trans (List.length_filter_le _ _) (by simp; omega)
      by_cases hg : (thereF (nw l l[i].Path)).2 = true
      · rw [if_pos hg, need_is (by simp only [List.length_singleton]; omega), bd_s]
        simp [List.filter, hg]
      · rw [if_neg hg]
        simp [List.filter, hg]
    · unfold X.listing_Names_s7
      simp only
      rw [if_neg (by simp), List.take_length]
  rw [key, bd_s]
  simp only
  unfold X.listing_Names_e7 X.slices_Sort_Lstring_string X.slices_Compact_Lstring_string
  generalize hm : (l.filter fun f => (thereF (nw l f.Path)).2).map (·.Path) = m
  have hml : m.length ≤ l.length := by rw [← hm, List.length_map]; exact List.length_filter_le _ _
  rw [if_pos (by omega), bd_s, if_pos (by rw [sortS_len]; omega), bd_s]
  obtain ⟨h1, h2⟩ := names_rise m
  refine ⟨_, rfl, ⟨h1, fun p => ?_⟩, Nat.le_trans (names_len m) hml⟩
  rw [h2, ← hm, List.mem_map]
  constructor
  · rintro ⟨f, hf, rfl⟩
    rw [List.mem_filter] at hf
    exact ⟨⟨f, hf.1, rfl⟩, hf.2⟩
  · rintro ⟨⟨f, hf, rfl⟩, h⟩
    exact ⟨f, List.mem_filter.2 ⟨hf, h⟩, rfl⟩
theorem alive18 : X.cartridgelaw18_alive = some true := by
  unfold X.cartridgelaw18_alive
  rw [x_Newest _ _ (by simp) (by intro f hf; simp at hf; subst hf; simp), bd_s, x_Next _ _ (by simp), bd_s, x_Serial _ (by simp)]
  obtain ⟨n, h1, _, h3⟩ := x_Names [] (by simp) (by intro f hf; cases hf)
  rw [h1]
  have e : n = [] := List.length_eq_zero_iff.1 (by simpa using h3)
  subst e
  decide +kernel
end Go.AX
/- A version of a path. -/
namespace Go.AX
open Go.AM
set_option linter.unusedSimpArgs false
def isV (p : Str) (v : Int) (f : File_api) : Bool := f.Path.l == p.l && f.Version == v
def getF (l : List File_api) (p : Str) (v : Int) : File_api × Bool := if v = 0 then thereF (nw l p) else thereF (l.find? (isV p v))
theorem find_take {l : List File_api} {p : Str} {v : Int} {i : Nat} (hi : i < l.length) (h : (l.take i).find? (isV p v) = none) (hv : isV p v l[i] = true) : l.find? (isV p v) = some l[i] := by
  conv => lhs; rw [← List.take_append_drop i l]
  rw [List.find?_append, h, List.drop_eq_getElem_cons hi, List.find?_cons, hv]; rfl
theorem find_more {l : List File_api} {p : Str} {v : Int} {i : Nat} (hi : i < l.length) (h : (l.take i).find? (isV p v) = none) (hv : isV p v l[i] = false) : (l.take (i + 1)).find? (isV p v) = none := by
  rw [List.take_succ_eq_append_getElem hi, List.find?_append, h, List.find?_cons, hv]; rfl
theorem x_Get (l : List File_api) (p : Str) (v : Int) (hl : l.length ≤ 1000000) (hc : CP l) : X.listing_Get l p v = some (getF l p v) := by
  unfold X.listing_Get getF
  by_cases h0 : v = 0
  · rw [if_pos (by simp [h0]), if_pos h0, x_Newest l p hl hc, bd_s]
  · rw [if_neg (by simp [h0]), if_neg h0]
    have key : ∃ o, X.slices_IndexFunc_Lapi_File_api_File l (fun a1 => X.listing_Get_c1 a1 p v) = some o ∧ ((o = -1 ∧ l.find? (isV p v) = none) ∨ ∃ k : Nat, ∃ h : k < l.length, o = (k : Int) ∧ l.find? (isV p v) = some l[k]) := by
      unfold X.slices_IndexFunc_Lapi_File_api_File
      obtain ⟨o, h1, h2⟩ := run_se (f := X.slices_IndexFunc_Lapi_File_api_File_s6 l (fun a1 => X.listing_Get_c1 a1 p v)) (a := 0) (n := l.length)
        (fun o => (o = .inl () ∧ l.find? (isV p v) = none) ∨ ∃ k : Nat, ∃ h : k < l.length, o = .inr (k : Int) ∧ l.find? (isV p v) = some l[k]) (fun i => (l.take i).find? (isV p v) = none) (Nat.zero_le _) (by omega) (by simp)
        (fun i _ hi hI => by
          unfold X.slices_IndexFunc_Lapi_File_api_File_s6
          simp only
          rw [if_pos (by simpa using hi), getI_nat hi, bd_s]
          have e : X.listing_Get_c1 l[i] p v = some (isV p v l[i]) := rfl
          rw [e, bd_s]
          cases hv : isV p v l[i]
          · left
            rw [if_neg (by simp), wr_succ (by omega)]
            exact ⟨rfl, find_more hi hI hv⟩
          · right
            rw [if_pos rfl]
            exact ⟨_, rfl, .inr ⟨i, hi, rfl, find_take hi hI hv⟩⟩)
        (fun hI => by
          unfold X.slices_IndexFunc_Lapi_File_api_File_s6
          simp only
          rw [if_neg (by simp)]
          exact ⟨_, rfl, .inl ⟨rfl, by rwa [List.take_length] at hI⟩⟩)
      have h1' : run (X.slices_IndexFunc_Lapi_File_api_File_s6 l (fun a1 => X.listing_Get_c1 a1 p v)) (0 : Int) = some o := h1
      rw [h1', bd_s]
      rcases h2 with ⟨rfl, h3⟩ | ⟨k, hk, rfl, h3⟩
      · exact ⟨_, rfl, .inl ⟨rfl, h3⟩⟩
      · exact ⟨_, rfl, .inr ⟨k, hk, rfl, h3⟩⟩
    obtain ⟨o, h1, h2⟩ := key
    rw [h1, bd_s]
    rcases h2 with ⟨rfl, h3⟩ | ⟨k, hk, rfl, h3⟩
    · rw [if_pos (by simp), h3]; rfl
    · rw [if_neg (by simp), getI_nat hk, bd_s, h3, x_there _ (hc _ (List.getElem_mem hk)), bd_s]
end Go.AX
/- Versions and serials rise. -/
namespace Go.AX
open Go.AM
set_option linter.unusedSimpArgs false
def fA (n : Nat) (gone : Bool) (i : Nat) : File_api := ⟨⟨[97]⟩, ((i + 1 : Nat) : Int), 0, 0, ((2 * i + 1 : Nat) : Int), gone && (i == n - 1), []⟩
def fB (i : Nat) : File_api := ⟨⟨[98]⟩, ((i + 1 : Nat) : Int), 0, 0, ((2 * i + 2 : Nat) : Int), false, []⟩
theorem fold_no {m : List File_api} {p : Str} (h : ∀ f ∈ m, f.Path ≠ p) : ∀ o, m.foldl (nwStep p) o = o := by
  induction m with
  | nil => intro o; rfl
  | cons f m ih =>
    intro o
    have hf : (f.Path.l == p.l) = false := by
      rw [Bool.eq_false_iff]
      intro e
      exact h f (by simp) (str_l.1 e)
    have : nwStep p o f = o := by unfold nwStep; rw [hf]; rfl
    rw [List.foldl_cons, this]
    exact ih (fun g hg => h g (List.mem_cons_of_mem _ hg)) o
theorem nw_rise {p : Str} (g : Nat → File_api) (hp : ∀ i, (g i).Path = p) (hv : ∀ i, (g i).Version = ((i + 1 : Nat) : Int)) : ∀ k, nw (tab (k + 1) g) p = some (g k)
  | 0 => by
    have e : (g 0).Path.l == p.l := str_l.2 (hp 0)
    show nwStep p none (g 0) = _
    unfold nwStep better
    rw [e]; rfl
  | k + 1 => by
    have e : (g (k + 1)).Path.l == p.l := str_l.2 (hp _)
    rw [tab_succ, nw_app, nw_rise g hp hv k]
    show nwStep p (some (g k)) (g (k + 1)) = _
    unfold nwStep better
    simp only [e, hv, Bool.true_and]
    rw [if_pos (by simp; omega)]
theorem find_none {n : Nat} {gone : Bool} : ∀ k, k < n → (tab k (fA n gone)).find? (isV ⟨[97]⟩ (n : Int)) = none := by
  intro k hk
  rw [List.find?_eq_none]
  intro f hf
  obtain ⟨i, hi, rfl⟩ := mem_tab.1 hf
  have : ((fA n gone i).Version == (n : Int)) = false := by
    rw [beq_eq_false_iff_ne]
    show ((i + 1 : Nat) : Int) ≠ (n : Int)
    omega
  unfold isV
  rw [this]
  simp
theorem listing_next (n m : Int) (gone : Bool) : X.cartridgelaw18_ListingNext n m gone = some true := by
  unfold X.cartridgelaw18_ListingNext
  rw [alive18, bd_s]
  split
  · rfl
  · rename_i hg
    simp at hg
    obtain ⟨N, rfl⟩ : ∃ N : Nat, n = (N : Int) := ⟨n.toNat, by omega⟩
    obtain ⟨M, rfl⟩ : ∃ M : Nat, m = (M : Int) := ⟨m.toNat, by omega⟩
    have hN : 1 ≤ N ∧ N ≤ 20 := by omega
    have hM : 1 ≤ M ∧ M ≤ 20 := by omega
    clear hg
    have k1 : run (X.cartridgelaw18_ListingNext_s14 (N : Int) gone) (([] : List File_api), (0 : Int)) = some (tab N (fA N gone)) := by
      refine run_G0 (n := N) (fun i => tab i (fA N gone)) (by omega) rfl ?_ ?_
      · intro i hi
        unfold X.cartridgelaw18_ListingNext_s14
        simp only
        have w1 : wr ((i : Int) + (1 : Int)) = ((i + 1 : Nat) : Int) := wr_succ (by omega)
        have w2 : wr ((wr ((2 : Int) * (i : Int))) + (1 : Int)) = ((2 * i + 1 : Nat) : Int) := by rw [wr_eq (x := 2 * (i : Int)) (by omega) (by omega), wr_eq (by omega) (by omega)]; omega
        have w3 : wr ((N : Int) - (1 : Int)) = ((N - 1 : Nat) : Int) := by rw [wr_eq (by omega) (by omega)]; omega
        have w4 : ((i : Int) == ((N - 1 : Nat) : Int)) = (i == N - 1) := by
          rw [Bool.eq_iff_iff, beq_iff_eq, beq_iff_eq]; omega
        rw [w1, w2, w3, w4, if_pos (by simpa using hi), need_is (by simp; omega), bd_s, tab_succ]
        rfl
      · unfold X.cartridgelaw18_ListingNext_s14
        simp only
        rw [if_neg (by simp)]
    rw [k1, bd_s]
    simp only
    unfold X.cartridgelaw18_ListingNext_e14
    have k2 : run (X.cartridgelaw18_ListingNext_s22 (M : Int)) (tab N (fA N gone), (0 : Int)) = some (tab N (fA N gone) ++ tab M fB) := by
      refine run_G0 (n := M) (fun i => tab N (fA N gone) ++ tab i fB) (by omega) (by simp [tab]) ?_ ?_
      · intro i hi
        unfold X.cartridgelaw18_ListingNext_s22
        simp only
        have w1 : wr ((i : Int) + (1 : Int)) = ((i + 1 : Nat) : Int) := wr_succ (by omega)
        have w2 : wr ((wr ((2 : Int) * (i : Int))) + (2 : Int)) = ((2 * i + 2 : Nat) : Int) := by rw [wr_eq (x := 2 * (i : Int)) (by omega) (by omega), wr_eq (by omega) (by omega)]; omega
        rw [w1, w2, if_pos (by simpa using hi), need_is (by simp; omega), bd_s, tab_succ, ← List.append_assoc]
        rfl
      · unfold X.cartridgelaw18_ListingNext_s22
        simp only
        rw [if_neg (by simp)]
    rw [k2, bd_s]
    simp only
    unfold X.cartridgelaw18_ListingNext_e22
    generalize hl : tab N (fA N gone) ++ tab M fB = l
    have hlen : l.length = N + M := by rw [← hl]; simp
    have hmem : ∀ f, f ∈ l ↔ ((∃ i, i < N ∧ fA N gone i = f) ∨ ∃ i, i < M ∧ fB i = f) := fun f => by rw [← hl, List.mem_append, mem_tab, mem_tab]
    have hc : CP l := fun f hf => by
      rcases (hmem f).1 hf with ⟨i, _, rfl⟩ | ⟨i, _, rfl⟩ <;> simp [fA, fB]
    have nA : nw l ⟨[97]⟩ = some (fA N gone (N - 1)) := by
      rw [← hl, nw_app, fold_no (fun f hf => by obtain ⟨i, _, rfl⟩ := mem_tab.1 hf; simp [fB])]
      have := nw_rise (p := ⟨[97]⟩) (fA N gone) (fun _ => rfl) (fun _ => rfl) (N - 1)
      rwa [show N - 1 + 1 = N by omega] at this
    have nB : nw l ⟨[98]⟩ = some (fB (M - 1)) := by
      rw [← hl, nw_app]
      have h0 : nw (tab N (fA N gone)) ⟨[98]⟩ = none := fold_no (fun f hf => by obtain ⟨i, _, rfl⟩ := mem_tab.1 hf; simp [fA]) none
      rw [h0]
      have := nw_rise (p := ⟨[98]⟩) fB (fun _ => rfl) (fun _ => rfl) (M - 1)
      rwa [show M - 1 + 1 = M by omega] at this
    have nO : ∀ p : Str, p ≠ ⟨[97]⟩ → p ≠ ⟨[98]⟩ → nw l p = none := fun p h1 h2 => fold_no (fun f hf => by
      rcases (hmem f).1 hf with ⟨i, _, rfl⟩ | ⟨i, _, rfl⟩
      · exact fun e => h1 e.symm
      · exact fun e => h2 e.symm) none
    have gA : (fA N gone (N - 1)).Gone = gone := by simp [fA]
    have tA : thereF (some (fA N gone (N - 1))) = if gone = true then (zeroF, false) else (fA N gone (N - 1), true) := by
      show (if (fA N gone (N - 1)).Gone = true then _ else _) = _
      rw [gA]
    have getA : getF l ⟨[97]⟩ (N : Int) = thereF (some (fA N gone (N - 1))) := by
      unfold getF
      rw [if_neg (by omega)]
      have hf : l.find? (isV ⟨[97]⟩ (N : Int)) = some (fA N gone (N - 1)) := by
        have e : tab N (fA N gone) = tab (N - 1) (fA N gone) ++ [fA N gone (N - 1)] := by
          have := tab_succ (n := N - 1) (g := fA N gone)
          rwa [show N - 1 + 1 = N by omega] at this
        have hv : isV ⟨[97]⟩ (N : Int) (fA N gone (N - 1)) = true := by
          have : ((fA N gone (N - 1)).Version == (N : Int)) = true := by
            rw [beq_iff_eq]
            show ((N - 1 + 1 : Nat) : Int) = (N : Int)
            omega
          unfold isV
          rw [this]; rfl
        rw [← hl, e, List.append_assoc, List.find?_append, find_none (N - 1) (by omega)]
        simp [hv]
      rw [hf]
    have s1 : ∃ s : Int, s = (if M ≥ N then ((2 * M : Nat) : Int) else ((2 * N - 1 : Nat) : Int)) ∧ serF l = wr (s + 1) := by
      refine ⟨_, rfl, serF_is ?_ ?_⟩
      · by_cases h : M ≥ N
        · rw [if_pos h]
          exact ⟨fB (M - 1), (hmem _).2 (.inr ⟨M - 1, by omega, rfl⟩), by show ((2 * (M - 1) + 2 : Nat) : Int) = _; omega⟩
        · rw [if_neg h]
          exact ⟨fA N gone (N - 1), (hmem _).2 (.inl ⟨N - 1, by omega, rfl⟩), by show ((2 * (N - 1) + 1 : Nat) : Int) = _; omega⟩
      · intro f hf
        rcases (hmem f).1 hf with ⟨i, hi, rfl⟩ | ⟨i, hi, rfl⟩
        · show ((2 * i + 1 : Nat) : Int) ≤ _
          split <;> omega
        · show ((2 * i + 2 : Nat) : Int) ≤ _
          split <;> omega
    obtain ⟨s, hs, hser⟩ := s1
    obtain ⟨nm, q1, q2, _⟩ := x_Names l (by omega) hc
    have hnm : nm.length = if gone = true then 1 else 2 := by
      have hB : (thereF (nw l ⟨[98]⟩)).2 = true := by rw [nB]; rfl
      have hA : (thereF (nw l ⟨[97]⟩)).2 = !gone := by rw [nA, tA]; cases gone <;> rfl
      have hO : ∀ p : Str, p ≠ ⟨[97]⟩ → p ≠ ⟨[98]⟩ → (thereF (nw l p)).2 = false := fun p h1 h2 => by rw [nO p h1 h2]; rfl
      have inA : ∃ f ∈ l, f.Path = ⟨[97]⟩ := ⟨fA N gone 0, (hmem _).2 (.inl ⟨0, by omega, rfl⟩), rfl⟩
      have inB : ∃ f ∈ l, f.Path = ⟨[98]⟩ := ⟨fB 0, (hmem _).2 (.inr ⟨0, by omega, rfl⟩), rfl⟩
      have hE : NamesOK l (if gone = true then [⟨[98]⟩] else [⟨[97]⟩, ⟨[98]⟩]) := by
        refine ⟨?_, fun p => ?_⟩
        · cases gone <;> decide +kernel
        · by_cases h1 : p = ⟨[97]⟩
          · subst h1
            rw [hA]
            cases gone
            · simp [inA]
            · simp
          · by_cases h2 : p = ⟨[98]⟩
            · subst h2
              rw [hB]
              cases gone <;> simp [inB]
            · rw [hO p h1 h2]
              cases gone <;> simp [h1, h2]
      rw [names_uniq q2 hE]
      cases gone <;> rfl
    rw [x_Newest l _ (by omega) hc, bd_s, x_Get l _ _ (by omega) hc, bd_s, getA, nA, tA]
    have fin : ∀ want : Int, want = wr (s + 1) → X.cartridgelaw18_ListingNext_j35 gone l (N : Int) (M : Int) (if gone = true then (zeroF, false) else (fA N gone (N - 1), true)) (if gone = true then (zeroF, false) else (fA N gone (N - 1), true)) want = some true := by
      intro want hw
      unfold X.cartridgelaw18_ListingNext_j35 X.cartridgelaw18_ListingNext_j38
      have hl2 : l.length ≤ 1000000 := by omega
      have x1 : nextF l ⟨[97]⟩ = wr ((N : Int) + (1 : Int)) := by
        unfold nextF; rw [nA]
        show wr (((N - 1 + 1 : Nat) : Int) + 1) = _
        rw [show N - 1 + 1 = N by omega]
      have x2 : nextF l ⟨[98]⟩ = wr ((M : Int) + (1 : Int)) := by
        unfold nextF; rw [nB]
        show wr (((M - 1 + 1 : Nat) : Int) + 1) = _
        rw [show M - 1 + 1 = M by omega]
      have x3 : nextF l ⟨[99]⟩ = 1 := by
        unfold nextF; rw [nO _ (by decide) (by decide)]
      simp only [x_Next l _ hl2, x_Serial l hl2, hser, x1, x2, x3, ← hw, beq_self_eq_true, Bool.and_self, optG_true, bd_s]
      cases gone
      · simp only [Bool.false_eq_true, if_false, Bool.not_false, beq_self_eq_true, Bool.and_self, optG_true, q1, bd_s, hnm]
        rfl
      · simp only [if_true, Bool.not_true, beq_self_eq_true, Bool.and_self, optG_true, q1, bd_s, hnm]
        rfl
    by_cases h : M ≥ N
    · rw [if_pos (by simp; omega)]
      refine fin _ ?_
      rw [hs, if_pos h, wr_eq (x := 2 * (M : Int)) (by omega) (by omega)]
      congr 1
    · rw [if_neg (by simp; omega)]
      refine fin _ ?_
      rw [hs, if_neg h]
      congr 1
      omega
end Go.AX
