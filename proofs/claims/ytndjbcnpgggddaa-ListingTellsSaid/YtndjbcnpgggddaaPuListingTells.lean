import Derived.Test.YtndjbcnpgggddaaXFn
import Derived.Test.YtndjbcnpgggddaaLibC
/- Plain laws of counting loops and of lists that are filled place by place. -/
namespace Go.AX

theorem iter_more {σ ρ : Type} {f : σ → Option (σ ⊕ ρ)} : ∀ {n : Nat} {s : σ} {r : ρ} (k : Nat), iter f n s = some r → iter f (n + k) s = some r
  | 0, _, _, _, h => by simp [iter] at h
  | n + 1, s, r, k, h => by
    rw [Nat.add_right_comm]
    simp only [iter] at h ⊢
    cases hs : f s with
    | none => rw [hs] at h; cases h
    | some q =>
      rw [hs] at h
      cases q with
      | inl s' => exact iter_more k h
      | inr r' => exact h
theorem run_few {σ ρ : Type} {f : σ → Option (σ ⊕ ρ)} {s : σ} {r : ρ} (n : Nat) (hn : n ≤ 1000000) (h : iter f n s = some r) : run f s = some r := by
  unfold run
  rw [FUEL_eq, show (4611686018427387904 : Nat) = n + (4611686018427387904 - n) from by omega]
  exact iter_more _ h

/-- A loop over numbers. -/
theorem run_ix {σ ρ : Type} {f : σ × Int → Option ((σ × Int) ⊕ ρ)} {s0 : σ} {a n : Nat} (I : Nat → σ → Prop) (R : ρ → Prop) (han : a ≤ n) (hn : n ≤ 4000000000000000000) (h0 : I a s0)
    (step : ∀ i s, a ≤ i → i < n → I i s → (∃ s', f (s, (i : Int)) = some (.inl (s', ((i + 1 : Nat) : Int))) ∧ I (i + 1) s') ∨ ∃ r, f (s, (i : Int)) = some (.inr r) ∧ R r)
    (fin : ∀ s, I n s → ∃ r, f (s, (n : Int)) = some (.inr r) ∧ R r) : ∃ r, run f (s0, (a : Int)) = some r ∧ R r := by
  refine run_inv (fun p => ∃ i : Nat, p.2 = (i : Int) ∧ a ≤ i ∧ i ≤ n ∧ I i p.1) R (fun p => n - p.2.toNat) ⟨a, rfl, Nat.le_refl _, han, h0⟩ (by simp only; omega) ?_
  rintro ⟨s, x⟩ ⟨i, rfl, hai, hin, hI⟩
  rcases Nat.lt_or_ge i n with hlt | hge
  · rcases step i s hai hlt hI with ⟨s', h1, h2⟩ | h
    · exact .inl ⟨_, h1, ⟨i + 1, rfl, by omega, by omega, h2⟩, by simp only; omega⟩
    · exact .inr h
  · have : i = n := by omega
    subst this
    exact .inr (fin s hI)
/-- A loop over numbers, told as a function of them. -/
theorem run_G {σ ρ : Type} {f : σ × Int → Option ((σ × Int) ⊕ ρ)} (G : Nat → σ) {s0 : σ} {a n : Nat} {r : ρ} (han : a ≤ n) (hn : n ≤ 4000000000000000000) (h0 : s0 = G a)
    (step : ∀ i, a ≤ i → i < n → f (G i, (i : Int)) = some (.inl (G (i + 1), ((i + 1 : Nat) : Int)))) (fin : f (G n, (n : Int)) = some (.inr r)) : run f (s0, (a : Int)) = some r := by
  obtain ⟨r', h1, h2⟩ := run_ix (f := f) (s0 := s0) (a := a) (n := n) (fun i s => s = G i) (fun x => x = r) han hn h0 (fun i s hi hlt e => .inl ⟨_, by rw [e]; exact step i hi hlt, rfl⟩) (fun s e => ⟨r, by rw [e]; exact fin, rfl⟩)
  rw [h1, h2]
theorem run_G0 {σ ρ : Type} {f : σ × Int → Option ((σ × Int) ⊕ ρ)} (G : Nat → σ) {s0 : σ} {n : Nat} {r : ρ} (hn : n ≤ 4000000000000000000) (h0 : s0 = G 0)
    (step : ∀ i, i < n → f (G i, (i : Int)) = some (.inl (G (i + 1), ((i + 1 : Nat) : Int)))) (fin : f (G n, (n : Int)) = some (.inr r)) : run f (s0, (0 : Int)) = some r :=
  run_G (a := 0) G (Nat.zero_le _) hn h0 (fun i _ h => step i h) fin
theorem run_ix0 {σ ρ : Type} {f : σ × Int → Option ((σ × Int) ⊕ ρ)} {s0 : σ} {n : Nat} (I : Nat → σ → Prop) (R : ρ → Prop) (hn : n ≤ 4000000000000000000) (h0 : I 0 s0)
    (step : ∀ i s, i < n → I i s → (∃ s', f (s, (i : Int)) = some (.inl (s', ((i + 1 : Nat) : Int))) ∧ I (i + 1) s') ∨ ∃ r, f (s, (i : Int)) = some (.inr r) ∧ R r)
    (fin : ∀ s, I n s → ∃ r, f (s, (n : Int)) = some (.inr r) ∧ R r) : ∃ r, run f (s0, (0 : Int)) = some r ∧ R r :=
  run_ix (a := 0) I R (Nat.zero_le _) hn h0 (fun i s _ h k => step i s h k) fin
/-- A search over numbers, without other state. -/
theorem run_se {ρ : Type} {f : Int → Option (Int ⊕ ρ)} {a n : Nat} (R : ρ → Prop) (I : Nat → Prop) (han : a ≤ n) (hn : n ≤ 4000000000000000000) (h0 : I a)
    (step : ∀ i, a ≤ i → i < n → I i → (f (i : Int) = some (.inl ((i + 1 : Nat) : Int)) ∧ I (i + 1)) ∨ ∃ r, f (i : Int) = some (.inr r) ∧ R r)
    (fin : I n → ∃ r, f (n : Int) = some (.inr r) ∧ R r) : ∃ r, run f (a : Int) = some r ∧ R r := by
  refine run_inv (fun x => ∃ i : Nat, x = (i : Int) ∧ a ≤ i ∧ i ≤ n ∧ I i) R (fun x => n - x.toNat) ⟨a, rfl, Nat.le_refl _, han, h0⟩ (by omega) ?_
  rintro x ⟨i, rfl, hai, hin, hI⟩
  rcases Nat.lt_or_ge i n with hlt | hge
  · rcases step i hai hlt hI with ⟨h1, h2⟩ | h
    · exact .inl ⟨_, h1, ⟨i + 1, rfl, by omega, by omega, h2⟩, by omega⟩
    · exact .inr h
  · have : i = n := by omega
    subst this
    exact .inr (fin hI)

theorem run_seE {ρ : Type} {f : Int → Option (Int ⊕ ρ)} {a n : Nat} {r : ρ} (I : Nat → Prop) (han : a ≤ n) (hn : n ≤ 4000000000000000000) (h0 : I a)
    (step : ∀ i, a ≤ i → i < n → I i → (f (i : Int) = some (.inl ((i + 1 : Nat) : Int)) ∧ I (i + 1)) ∨ f (i : Int) = some (.inr r))
    (fin : I n → f (n : Int) = some (.inr r)) : run f (a : Int) = some r := by
  obtain ⟨r', h1, h2⟩ := run_se (f := f) (fun x => x = r) I han hn h0 (fun i h1 h2 h3 => (step i h1 h2 h3).imp id fun h => ⟨r, h, rfl⟩) (fun h => ⟨r, fin h, rfl⟩)
  rw [h1, h2]
theorem run_ixE {σ ρ : Type} {f : σ × Int → Option ((σ × Int) ⊕ ρ)} {s0 : σ} {n : Nat} {r : ρ} (I : Nat → σ → Prop) (hn : n ≤ 4000000000000000000) (h0 : I 0 s0)
    (step : ∀ i s, i < n → I i s → (∃ s', f (s, (i : Int)) = some (.inl (s', ((i + 1 : Nat) : Int))) ∧ I (i + 1) s') ∨ f (s, (i : Int)) = some (.inr r))
    (fin : ∀ s, I n s → f (s, (n : Int)) = some (.inr r)) : run f (s0, (0 : Int)) = some r := by
  obtain ⟨r', h1, h2⟩ := run_ix0 (f := f) (s0 := s0) I (fun x => x = r) hn h0 (fun i s h1 h2 => (step i s h1 h2).imp id fun h => ⟨r, h, rfl⟩) (fun s h => ⟨r, fin s h, rfl⟩)
  rw [h1, h2]

/-- A list told place by place. -/
def tab {α : Type} (n : Nat) (g : Nat → α) : List α := (List.range n).map g
section
variable {α : Type} {n : Nat} {g g' : Nat → α}
@[simp] theorem tab_len : (tab n g).length = n := by simp [tab]
theorem tab_get {i : Nat} (h : i < (tab n g).length) : (tab n g)[i] = g i := by simp [tab]
theorem tab_get? {i : Nat} (h : i < n) : (tab n g)[i]? = some (g i) := by simp [tab, h]
theorem tab_congr (h : ∀ i, i < n → g i = g' i) : tab n g = tab n g' := by
  unfold tab
  exact List.map_congr_left fun i hi => h i (List.mem_range.1 hi)
theorem tab_set {i : Nat} {y : α} : (tab n g).set i y = tab n (fun j => if j = i then y else g j) := by
  apply List.ext_getElem (by simp)
  intro j h1 h2
  rw [List.getElem_set, tab_get (by simpa using h2), tab_get h2]
  by_cases hij : i = j
  · rw [if_pos hij, if_pos hij.symm]
  · rw [if_neg hij, if_neg fun e => hij e.symm]
theorem tab_rep {z : α} : List.replicate n z = tab n (fun _ => z) := by
  apply List.ext_getElem?
  intro j
  by_cases hj : j < n <;> simp [tab, hj]
theorem getI_tab {i : Nat} (h : i < n) : getI (tab n g) (i : Int) = some (g i) := by rw [getI_nat (by simpa using h), tab_get]
theorem tab_succ : tab (n + 1) g = tab n g ++ [g n] := by simp [tab, List.range_succ]
theorem tab_zero : tab 0 g = [] := rfl
theorem tab_all (z : α) (xs : List α) : xs = tab xs.length (fun j => xs.getD j z) := by
  apply List.ext_getElem?
  intro j
  by_cases hj : j < xs.length
  · rw [tab_get? hj, List.getElem?_eq_getElem hj]; simp [List.getD_eq_getElem?_getD, hj]
  · rw [List.getElem?_eq_none (by omega), List.getElem?_eq_none (by simp; omega)]
theorem tab_getD {i : Nat} {z : α} : (tab n g).getD i z = if i < n then g i else z := by
  by_cases h : i < n
  · simp [tab, h, List.getD_eq_getElem?_getD]
  · rw [if_neg h, List.getD_eq_getElem?_getD, List.getElem?_eq_none (by simp; omega)]; rfl
theorem mem_tab {x : α} : x ∈ tab n g ↔ ∃ i, i < n ∧ g i = x := by simp [tab]
theorem getI_getD {xs : List α} (z : α) {i : Nat} (h : i < xs.length) : getI xs (i : Int) = some (xs.getD i z) := by
  rw [getI_nat h]; simp [List.getD_eq_getElem?_getD, h]
theorem set_getD {xs : List α} {z : α} {i j : Nat} {y : α} (h : i < xs.length) : (xs.set i y).getD j z = if j = i then y else xs.getD j z := by
  simp only [List.getD_eq_getElem?_getD, List.getElem?_set]
  by_cases e : i = j
  · subst e; simp [h]
  · rw [if_neg e, if_neg fun h : j = i => e h.symm]
theorem list_ext_getD (z : α) {xs ys : List α} (hl : xs.length = ys.length) (h : ∀ i, i < xs.length → xs.getD i z = ys.getD i z) : xs = ys := by
  rw [tab_all z xs, tab_all z ys, ← hl]
  exact tab_congr h
end
end Go.AX
/- Texts in order, each once. -/
namespace Go.AX
open Go.AM
set_option linter.unusedSimpArgs false
theorem bless_iff : ∀ (a b : List UInt8), Op.bytesLess a b = true ↔ a < b
  | a, [] => by cases a <;> simp [Op.bytesLess]
  | [], b :: y => by simp [Op.bytesLess]
  | a :: x, b :: y => by
    rw [Op.bytesLess, List.cons_lt_cons_iff, Bool.or_eq_true, Bool.and_eq_true, bless_iff x y]
    simp
theorem lt_irr (a : List UInt8) : ¬ a < a := List.lt_irrefl a
theorem rise_nodup {l : List (List UInt8)} (h : l.Pairwise (· < ·)) : l.Nodup := h.imp fun hab e => by subst e; exact lt_irr _ hab
/-- Rising lists of the same texts are one. -/
theorem rise_uniq : ∀ {xs ys : List (List UInt8)}, xs.Pairwise (· < ·) → ys.Pairwise (· < ·) → (∀ x, x ∈ xs ↔ x ∈ ys) → xs = ys
  | [], [], _, _, _ => rfl
  | [], y :: ys, _, _, h => by have := (h y).2 (by simp); cases this
  | x :: xs, [], _, _, h => by have := (h x).1 (by simp); cases this
  | x :: xs, y :: ys, hx, hy, h => by
    obtain ⟨hx1, hx2⟩ := List.pairwise_cons.1 hx
    obtain ⟨hy1, hy2⟩ := List.pairwise_cons.1 hy
    have e : x = y := by
      rcases List.mem_cons.1 ((h x).1 (by simp)) with e | h1
      · exact e
      · rcases List.mem_cons.1 ((h y).2 (by simp)) with e | h2
        · exact e.symm
        · exact absurd (List.lt_trans (hy1 x h1) (hx1 y h2)) (lt_irr _)
    subst e
    rw [rise_uniq hx2 hy2 fun z => ?_]
    constructor
    · intro hz
      rcases List.mem_cons.1 ((h z).1 (List.mem_cons_of_mem _ hz)) with e | h1
      · subst e; exact absurd (hx1 _ hz) (lt_irr _)
      · exact h1
    · intro hz
      rcases List.mem_cons.1 ((h z).2 (List.mem_cons_of_mem _ hz)) with e | h1
      · subst e; exact absurd (hy1 _ hz) (lt_irr _)
      · exact h1
theorem compact_rise (zs : List (List UInt8)) (hs : zs.Pairwise (· ≤ ·)) : (Lib.compact zs).Pairwise (· < ·) ∧ ∀ x, x ∈ Lib.compact zs ↔ x ∈ zs := by
  have get : ∀ {j : Nat} (h : j < zs.length), zs.toArray[j]! = zs[j] := fun {j} h => by simp [h]
  have key : ∀ m, m ≤ zs.length → (Lib.compactUpTo zs.toArray m).Pairwise (· < ·) ∧ ∀ x, x ∈ Lib.compactUpTo zs.toArray m ↔ x ∈ zs.take m := by
    intro m
    induction m with
    | zero => intro _; simp [Lib.compactUpTo]
    | succ m ih =>
      intro hm
      obtain ⟨h1, h2⟩ := ih (by omega)
      have hlt : m < zs.length := by omega
      rw [Lib.compactUpTo_succ, List.take_succ_eq_append_getElem hlt]
      have hle : ∀ j, (hj : j < m) → zs[j]'(by omega) ≤ zs[m] := fun j hj => List.pairwise_iff_getElem.1 hs j m (by omega) hlt hj
      by_cases hk : Lib.keeps zs.toArray m = true
      · rw [if_pos hk, get hlt]
        refine ⟨?_, fun x => by rw [List.mem_append, List.mem_append, h2 x]⟩
        rw [List.pairwise_append]
        refine ⟨h1, by simp, fun a ha b hb => ?_⟩
        simp at hb
        subst hb
        rw [h2] at ha
        obtain ⟨j, hj, rfl⟩ := List.mem_take_iff_getElem.1 ha
        have hj' : j < m := by omega
        have hne : zs[m - 1]'(by omega) ≠ zs[m] := by
          unfold Lib.keeps at hk
          rw [get hlt, get (by omega : m - 1 < zs.length)] at hk
          simp at hk
          rcases hk with hk | hk
          · omega
          · exact fun e => hk e.symm
        have hjm : zs[j]'(by omega) ≤ zs[m - 1]'(by omega) := by
          rcases Nat.eq_or_lt_of_le (by omega : j ≤ m - 1) with e | e
          · subst e; exact List.le_refl _
          · exact List.pairwise_iff_getElem.1 hs j (m - 1) (by omega) (by omega) e
        have hm1 := hle (m - 1) (by omega)
        have hlt1 : zs[m - 1]'(by omega) < zs[m] := by
          rcases List.le_iff_lt_or_eq.1 hm1 with h | h
          · exact h
          · exact absurd h hne
        exact List.lt_of_le_of_lt hjm hlt1
      · have hk : Lib.keeps zs.toArray m = false := by simpa using hk
        rw [hk]
        simp only [Bool.false_eq_true, if_false, List.append_nil]
        refine ⟨h1, fun x => ?_⟩
        rw [h2, List.mem_append]
        unfold Lib.keeps at hk
        rw [get hlt] at hk
        simp at hk
        obtain ⟨hm0, he⟩ := hk
        have hin : zs[m] ∈ zs.take m := by
          rw [List.mem_take_iff_getElem]
          refine ⟨m - 1, by omega, ?_⟩
          have : zs[m - 1]? = some (zs[m - 1]'(by omega)) := List.getElem?_eq_getElem (by omega)
          rw [this] at he
          simpa using he.symm
        constructor
        · exact .inl
        · rintro (h | h)
          · exact h
          · simp at h; rw [h]; exact hin
  have := key zs.length (Nat.le_refl _)
  rw [List.take_length] at this
  have e : zs.toArray.size = zs.length := by simp
  unfold Lib.compact
  exact this
theorem sorted_ms (zs : List (List UInt8)) : (zs.mergeSort fun x y => decide (x ≤ y)).Pairwise (· ≤ ·) := by
  have := List.pairwise_mergeSort (le := fun x y : List UInt8 => decide (x ≤ y)) (fun a b c h1 h2 => by simp only [decide_eq_true_eq] at *; exact List.le_trans h1 h2) (fun a b => by simp only [Bool.or_eq_true, decide_eq_true_eq]; exact List.le_total a b) zs
  exact this.imp fun h => of_decide_eq_true h
/-- Sorted, each once. -/
theorem names_rise (l : List Str) : ((compactS (sortS l)).map (·.l)).Pairwise (· < ·) ∧ ∀ p : Str, p ∈ compactS (sortS l) ↔ p ∈ l := by
  have e : (sortS l).map (·.l) = (l.map (·.l)).mergeSort fun x y => decide (x ≤ y) := by simp [sortS, Function.comp_def]
  obtain ⟨h1, h2⟩ := compact_rise _ (sorted_ms (l.map (·.l)))
  have e2 : (compactS (sortS l)).map (·.l) = Lib.compact ((l.map (·.l)).mergeSort fun x y => decide (x ≤ y)) := by
    unfold compactS
    rw [e]
    simp [Function.comp_def]
  refine ⟨by rw [e2]; exact h1, fun p => ?_⟩
  have h3 : p ∈ compactS (sortS l) ↔ p.l ∈ (compactS (sortS l)).map (·.l) := by
    rw [List.mem_map]
    constructor
    · intro h; exact ⟨p, h, rfl⟩
    · rintro ⟨⟨q⟩, h, rfl⟩; exact h
  rw [h3, e2, h2, List.mem_mergeSort, List.mem_map]
  constructor
  · rintro ⟨⟨q⟩, h, rfl⟩; exact h
  · intro h; exact ⟨p, h, rfl⟩
theorem names_len (l : List Str) : (compactS (sortS l)).length ≤ l.length := by
  unfold compactS
  rw [List.length_map]
  have := compact_le ((sortS l).map (·.l))
  rw [List.length_map, sortS_len] at this
  exact this
end Go.AX
/- The newest version of a path, names, what comes next. -/
namespace Go.AX
open Go.AM
set_option linter.unusedSimpArgs false
theorem bd_s {α β : Type} (a : α) (f : α → Option β) : (some a).bind f = f a := rfl
theorem str_l {s t : Str} : (s.l == t.l) = true ↔ s = t := by
  obtain ⟨a⟩ := s
  obtain ⟨b⟩ := t
  simp
def zeroF : File_api := ⟨⟨[]⟩, 0, 0, 0, 0, false, []⟩
def better (o : Option File_api) (f : File_api) : Bool := match o with | none => true | some g => decide (f.Version > g.Version)
def nwStep (p : Str) (o : Option File_api) (f : File_api) : Option File_api := if (f.Path.l == p.l && better o f) = true then some f else o
def nw (l : List File_api) (p : Str) : Option File_api := l.foldl (nwStep p) none
def CP (l : List File_api) : Prop := ∀ f ∈ l, f.Parts.length * 88 ≤ 140737488351232
theorem nw_app (l m : List File_api) (p : Str) : nw (l ++ m) p = m.foldl (nwStep p) (nw l p) := by unfold nw; rw [List.foldl_append]
theorem nw_succ {l : List File_api} {i : Nat} (h : i < l.length) (p : Str) : nw (l.take (i + 1)) p = nwStep p (nw (l.take i) p) l[i] := by
  rw [List.take_succ_eq_append_getElem h, nw_app]; rfl
theorem nw_mem {l : List File_api} {p : Str} {f : File_api} (h : nw l p = some f) : f ∈ l ∧ f.Path = p := by
  have key : ∀ (m : List File_api) (o : Option File_api), (∀ g, o = some g → g ∈ l ∧ g.Path = p) → (∀ g ∈ m, g ∈ l) → ∀ g, m.foldl (nwStep p) o = some g → g ∈ l ∧ g.Path = p := by
    intro m
    induction m with
    | nil => intro o ho _ g hg; exact ho g hg
    | cons a m ih =>
      intro o ho hm g hg
      refine ih _ ?_ (fun g hg => hm g (List.mem_cons_of_mem _ hg)) g hg
      intro q hq
      unfold nwStep at hq
      split at hq
      · rename_i hc
        injection hq with hq
        subst hq
        rw [Bool.and_eq_true] at hc
        exact ⟨hm _ (by simp), str_l.1 hc.1⟩
      · exact ho q hq
  exact key l none (fun g hg => by cases hg) (fun g hg => hg) f h
theorem nw_some {l : List File_api} {p : Str} {f : File_api} (hf : f ∈ l) (hp : f.Path = p) : ∃ g, nw l p = some g := by
  have step : ∀ (o : Option File_api) (a : File_api), (∃ g, o = some g) → ∃ g, nwStep p o a = some g := by
    rintro o a ⟨g, rfl⟩
    unfold nwStep
    split
    · exact ⟨_, rfl⟩
    · exact ⟨_, rfl⟩
  have keep : ∀ (m : List File_api) (o : Option File_api), (∃ g, o = some g) → ∃ g, m.foldl (nwStep p) o = some g := by
    intro m
    induction m with
    | nil => intro o ho; exact ho
    | cons a m ih => intro o ho; exact ih _ (step o a ho)
  obtain ⟨a, b, rfl⟩ := List.append_of_mem hf
  rw [nw_app]
  show ∃ g, b.foldl (nwStep p) (nwStep p (nw a p) f) = some g
  refine keep b _ ?_
  have hb : (f.Path.l == p.l) = true := str_l.2 hp
  unfold nwStep
  rw [hb]
  cases nw a p with
  | none => exact ⟨_, rfl⟩
  | some g =>
    simp only [Bool.true_and]
    split
    · exact ⟨_, rfl⟩
    · exact ⟨_, rfl⟩
/-- What is told of a file, gone or not. -/
def thereF : Option File_api → File_api × Bool
  | none => (zeroF, false)
  | some f => if f.Gone = true then (zeroF, false) else (f, true)
theorem x_new0 (l : List File_api) (p : Str) (hl : l.length ≤ 1000000) : X.listing_newest l p = some ((nw l p).getD zeroF, (nw l p).isSome) := by
  unfold X.listing_newest
  let tup : Option File_api → Nat → (Str × Int × Int × Int × Int × Bool × (List Part_api) × Bool × Int) := fun o i =>
    ((o.getD zeroF).Path, (o.getD zeroF).Version, (o.getD zeroF).Size, (o.getD zeroF).Sum, (o.getD zeroF).Serial, (o.getD zeroF).Gone, (o.getD zeroF).Parts, o.isSome, (i : Int))
  let res : Option File_api → (Str × Int × Int × Int × Int × Bool × (List Part_api) × Bool) := fun o =>
    ((o.getD zeroF).Path, (o.getD zeroF).Version, (o.getD zeroF).Size, (o.getD zeroF).Sum, (o.getD zeroF).Serial, (o.getD zeroF).Gone, (o.getD zeroF).Parts, o.isSome)
  have key : run (X.listing_newest_s10 l p) ((Str.mk []), (0 : Int), (0 : Int), (0 : Int), (0 : Int), false, ([] : (List Part_api)), false, (0 : Int)) = some (res (nw l p)) := by
    refine run_is _ (fun x => ∃ i : Nat, i ≤ l.length ∧ x = tup (nw (l.take i) p) i) (fun x => l.length - x.2.2.2.2.2.2.2.2.toNat) ⟨0, by omega, rfl⟩ (by simp only; omega) ?_
    rintro _ ⟨i, hi, rfl⟩
    rcases Nat.lt_or_ge i l.length with hlt | hge
    · left
      refine ⟨tup (nw (l.take (i + 1)) p) (i + 1), ?_, ⟨i + 1, by omega, rfl⟩, by simp only [tup]; omega⟩
      simp only [tup]
      unfold X.listing_newest_s10
      simp only
      rw [if_pos (by simpa using hlt), getI_nat hlt, bd_s, nw_succ hlt, wr_succ (by omega)]
      generalize nw (l.take i) p = o
      unfold nwStep
      cases o with
      | none =>
        simp only [Option.isSome_none, Bool.not_false, Bool.true_or, Bool.and_true]
        by_cases hc : (l[i].Path.l == p.l) = true
        · rw [if_pos hc, if_pos (by rw [hc]; rfl)]; rfl
        · rw [if_neg hc, if_neg (by simp only [better, Bool.and_true]; exact hc)]; rfl
      | some g =>
        simp only [Option.isSome_some, Bool.not_true, Bool.false_or, Option.getD_some]
        by_cases hc : (l[i].Path.l == p.l && decide (l[i].Version > g.Version)) = true
        · rw [if_pos hc, if_pos (by exact hc)]; rfl
        · rw [if_neg hc, if_neg (by exact hc)]; rfl
    · right
      obtain rfl : i = l.length := by omega
      simp only [tup]
      unfold X.listing_newest_s10
      simp only
      rw [if_neg (by simp), List.take_length]
  rw [key, bd_s]
  simp only [res]
  unfold X.listing_newest_e10
  rfl
theorem x_clone (f : File_api) (h : f.Parts.length * 88 ≤ 140737488351232) : X.listing_Clone f = some f := by
  unfold X.listing_Clone X.slices_Clone_Lapi_Part_api_Part
  rw [nilU_same (r := f.Parts) (fun e => by rw [e]; rfl) (by simp only [Bool.false_eq_true, if_false]; rw [need_is (by omega), bd_s]), bd_s]
theorem x_there (f : File_api) (h : f.Parts.length * 88 ≤ 140737488351232) : X.listing_there f true = some (thereF (some f)) := by
  unfold X.listing_there
  show _ = some (if f.Gone = true then (zeroF, false) else (f, true))
  cases hg : f.Gone
  · rw [if_neg (by simp), x_clone f h, bd_s, if_neg (by simp)]
  · rw [if_pos (by simp), if_pos rfl]; rfl
theorem x_Newest (l : List File_api) (p : Str) (hl : l.length ≤ 1000000) (hc : CP l) : X.listing_Newest l p = some (thereF (nw l p)) := by
  unfold X.listing_Newest
  rw [x_new0 l p hl, bd_s]
  cases h : nw l p with
  | none => rfl
  | some f =>
    show (X.listing_there f true).bind _ = _
    rw [x_there f (hc f (nw_mem h).1), bd_s]
def nextF (l : List File_api) (p : Str) : Int := match nw l p with | none => 1 | some f => wr (f.Version + 1)
theorem x_Next (l : List File_api) (p : Str) (hl : l.length ≤ 1000000) : X.listing_Next l p = some (nextF l p) := by
  unfold X.listing_Next nextF
  rw [x_new0 l p hl, bd_s]
  cases h : nw l p <;> rfl
def serF : List File_api → Int
  | [] => 1
  | f :: l => wr (l.foldl (fun n g => max n g.Serial) f.Serial + 1)
theorem fold_max : ∀ (l : List File_api) (m : Int), (l.foldl (fun n g => max n g.Serial) m = m ∨ ∃ g ∈ l, l.foldl (fun n g => max n g.Serial) m = g.Serial) ∧ m ≤ l.foldl (fun n g => max n g.Serial) m ∧ ∀ g ∈ l, g.Serial ≤ l.foldl (fun n g => max n g.Serial) m
  | [], m => ⟨.inl rfl, by simp, fun g hg => by cases hg⟩
  | f :: l, m => by
    obtain ⟨h1, h2, h3⟩ := fold_max l (max m f.Serial)
    simp only [List.foldl_cons]
    refine ⟨?_, by omega, fun g hg => ?_⟩
    · rcases h1 with h1 | ⟨g, hg, h1⟩
      · rw [h1]
        rcases Int.le_total m f.Serial with h | h
        · right; exact ⟨f, by simp, by omega⟩
        · left; omega
      · right; exact ⟨g, List.mem_cons_of_mem _ hg, h1⟩
    · rcases List.mem_cons.1 hg with rfl | hg
      · omega
      · exact h3 g hg
theorem serF_is {l : List File_api} {s : Int} (h1 : ∃ f ∈ l, f.Serial = s) (h2 : ∀ f ∈ l, f.Serial ≤ s) : serF l = wr (s + 1) := by
  cases l with
  | nil => obtain ⟨f, hf, _⟩ := h1; cases hf
  | cons f m =>
    obtain ⟨g1, g2, g3⟩ := fold_max m f.Serial
    have e : m.foldl (fun n g => max n g.Serial) f.Serial = s := by
      apply Int.le_antisymm
      · rcases g1 with g1 | ⟨g, hg, g1⟩
        · rw [g1]; exact h2 f (by simp)
        · rw [g1]; exact h2 g (List.mem_cons_of_mem _ hg)
      · obtain ⟨g, hg, rfl⟩ := h1
        rcases List.mem_cons.1 hg with h | h
        · rw [h]; exact g2
        · exact g3 g h
    show wr (m.foldl (fun n g => max n g.Serial) f.Serial + 1) = _
    rw [e]
theorem x_Serial (l : List File_api) (hl : l.length ≤ 1000000) : X.listing_Serial l = some (serF l) := by
  unfold X.listing_Serial
  cases l with
  | nil => rfl
  | cons f l =>
    rw [if_neg (by simp; omega)]
    have e0 : getI (f :: l) (0 : Int) = some f := rfl
    rw [e0, bd_s]
    have key : run (X.listing_Serial_s10 (f :: l)) (f.Serial, (0 : Int)) = some (l.foldl (fun n g => max n g.Serial) f.Serial) := by
      refine run_G0 (n := (f :: l).length) (fun i => ((f :: l).take i).foldl (fun n g => max n g.Serial) f.Serial) (by omega) rfl ?_ ?_
      · intro i hi
        unfold X.listing_Serial_s10
        simp only
        rw [if_pos (by simp only [decide_eq_true_eq]; omega), getI_nat hi, bd_s, wr_succ (by omega), List.take_succ_eq_append_getElem hi, List.foldl_append]
        rfl
      · unfold X.listing_Serial_s10
        simp only
        rw [if_neg (by simp), List.take_length]
        simp [List.foldl_cons]
    rw [key, bd_s]
    rfl
/-- The names. -/
def NamesOK (l : List File_api) (n : List Str) : Prop := (n.map (·.l)).Pairwise (· < ·) ∧ ∀ p : Str, p ∈ n ↔ ((∃ f ∈ l, f.Path = p) ∧ (thereF (nw l p)).2 = true)
theorem names_uniq {l : List File_api} {n m : List Str} (h1 : NamesOK l n) (h2 : NamesOK l m) : n = m := by
  have e : n.map (·.l) = m.map (·.l) := rise_uniq h1.1 h2.1 fun x => by
    have a : ∀ (k : List Str), x ∈ k.map (·.l) ↔ Str.mk x ∈ k := fun k => by
      rw [List.mem_map]
      constructor
      · rintro ⟨⟨q⟩, h, rfl⟩; exact h
      · intro h; exact ⟨_, h, rfl⟩
    rw [a, a, h1.2, h2.2]
  have inj : ∀ {a b : List Str}, a.map (·.l) = b.map (·.l) → a = b := by
    intro a
    induction a with
    | nil => intro b hb; cases b with | nil => rfl | cons y b => cases hb
    | cons x a ih =>
      intro b hb
      cases b with
      | nil => cases hb
      | cons y b =>
        simp only [List.map_cons, List.cons.injEq] at hb
        have e1 : x = y := by
          cases x; cases y; simp at hb; rw [hb.1]
        rw [e1, ih hb.2]
  exact inj e
theorem x_Names (l : List File_api) (hl : l.length ≤ 1000000) (hc : CP l) : ∃ n, X.listing_Names l = some n ∧ NamesOK l n ∧ n.length ≤ l.length := by
  unfold X.listing_Names
  have key : run (X.listing_Names_s7 l) (([] : List Str), (0 : Int)) = some ((l.filter fun f => (thereF (nw l f.Path)).2).map (·.Path)) := by
    refine run_G0 (n := l.length) (fun i => ((l.take i).filter fun f => (thereF (nw l f.Path)).2).map (·.Path)) (by omega) rfl ?_ ?_
    · intro i hi
      unfold X.listing_Names_s7
      simp only
      rw [if_pos (by simpa using hi), getI_nat hi, bd_s, x_Newest l _ hl hc, bd_s, wr_succ (by omega), List.take_succ_eq_append_getElem hi, List.filter_append, List.map_append]
      have hlen : ((List.filter (fun f => (thereF (nw l f.Path)).2) (List.take i l)).map (·.Path)).length ≤ i := by
        rw [List.length_map]
        exact Nat.le_trans (List.length_filter_le _ _) (by simp; omega)
      by_cases hg : (thereF (nw l l[i].Path)).2 = true
      · rw [if_pos hg, need_is (by simp only [List.length_singleton]; omega), bd_s]
        simp [List.filter, hg]
      · rw [if_neg hg]
        simp [List.filter, hg]
    · unfold X.listing_Names_s7
      simp only
      rw [if_neg (by simp), List.take_length]
  rw [key, bd_s]
  simp only
  unfold X.listing_Names_e7 X.slices_Sort_Lstring_string X.slices_Compact_Lstring_string
  generalize hm : (l.filter fun f => (thereF (nw l f.Path)).2).map (·.Path) = m
  have hml : m.length ≤ l.length := by rw [← hm, List.length_map]; exact List.length_filter_le _ _
  rw [if_pos (by omega), bd_s, if_pos (by rw [sortS_len]; omega), bd_s]
  obtain ⟨h1, h2⟩ := names_rise m
  refine ⟨_, rfl, ⟨h1, fun p => ?_⟩, Nat.le_trans (names_len m) hml⟩
  rw [h2, ← hm, List.mem_map]
  constructor
  · rintro ⟨f, hf, rfl⟩
    rw [List.mem_filter] at hf
    exact ⟨⟨f, hf.1, rfl⟩, hf.2⟩
  · rintro ⟨⟨f, hf, rfl⟩, h⟩
    exact ⟨f, List.mem_filter.2 ⟨hf, h⟩, rfl⟩
theorem alive18 : X.cartridgelaw18_alive = some true := by
  unfold X.cartridgelaw18_alive
  rw [x_Newest _ _ (by simp) (by intro f hf; simp at hf; subst hf; simp), bd_s, x_Next _ _ (by simp), bd_s, x_Serial _ (by simp)]
  obtain ⟨n, h1, _, h3⟩ := x_Names [] (by simp) (by intro f hf; cases hf)
  rw [h1]
  have e : n = [] := List.length_eq_zero_iff.1 (by simpa using h3)
  subst e
  decide +kernel
end Go.AX
/- A version of a path. -/
namespace Go.AX
open Go.AM
set_option linter.unusedSimpArgs false
def isV (p : Str) (v : Int) (f : File_api) : Bool := f.Path.l == p.l && f.Version == v
def getF (l : List File_api) (p : Str) (v : Int) : File_api × Bool := if v = 0 then thereF (nw l p) else thereF (l.find? (isV p v))
theorem find_take {l : List File_api} {p : Str} {v : Int} {i : Nat} (hi : i < l.length) (h : (l.take i).find? (isV p v) = none) (hv : isV p v l[i] = true) : l.find? (isV p v) = some l[i] := by
  conv => lhs; rw [← List.take_append_drop i l]
  rw [List.find?_append, h, List.drop_eq_getElem_cons hi, List.find?_cons, hv]; rfl
theorem find_more {l : List File_api} {p : Str} {v : Int} {i : Nat} (hi : i < l.length) (h : (l.take i).find? (isV p v) = none) (hv : isV p v l[i] = false) : (l.take (i + 1)).find? (isV p v) = none := by
  rw [List.take_succ_eq_append_getElem hi, List.find?_append, h, List.find?_cons, hv]; rfl
theorem x_Get (l : List File_api) (p : Str) (v : Int) (hl : l.length ≤ 1000000) (hc : CP l) : X.listing_Get l p v = some (getF l p v) := by
  unfold X.listing_Get getF
  by_cases h0 : v = 0
  · rw [if_pos (by simp [h0]), if_pos h0, x_Newest l p hl hc, bd_s]
  · rw [if_neg (by simp [h0]), if_neg h0]
    have key : ∃ o, X.slices_IndexFunc_Lapi_File_api_File l (fun a1 => X.listing_Get_c1 a1 p v) = some o ∧ ((o = -1 ∧ l.find? (isV p v) = none) ∨ ∃ k : Nat, ∃ h : k < l.length, o = (k : Int) ∧ l.find? (isV p v) = some l[k]) := by
      unfold X.slices_IndexFunc_Lapi_File_api_File
      obtain ⟨o, h1, h2⟩ := run_se (f := X.slices_IndexFunc_Lapi_File_api_File_s6 l (fun a1 => X.listing_Get_c1 a1 p v)) (a := 0) (n := l.length)
        (fun o => (o = .inl () ∧ l.find? (isV p v) = none) ∨ ∃ k : Nat, ∃ h : k < l.length, o = .inr (k : Int) ∧ l.find? (isV p v) = some l[k]) (fun i => (l.take i).find? (isV p v) = none) (Nat.zero_le _) (by omega) (by simp)
        (fun i _ hi hI => by
          unfold X.slices_IndexFunc_Lapi_File_api_File_s6
          simp only
          rw [if_pos (by simpa using hi), getI_nat hi, bd_s]
          have e : X.listing_Get_c1 l[i] p v = some (isV p v l[i]) := rfl
          rw [e, bd_s]
          cases hv : isV p v l[i]
          · left
            rw [if_neg (by simp), wr_succ (by omega)]
            exact ⟨rfl, find_more hi hI hv⟩
          · right
            rw [if_pos rfl]
            exact ⟨_, rfl, .inr ⟨i, hi, rfl, find_take hi hI hv⟩⟩)
        (fun hI => by
          unfold X.slices_IndexFunc_Lapi_File_api_File_s6
          simp only
          rw [if_neg (by simp)]
          exact ⟨_, rfl, .inl ⟨rfl, by rwa [List.take_length] at hI⟩⟩)
      have h1' : run (X.slices_IndexFunc_Lapi_File_api_File_s6 l (fun a1 => X.listing_Get_c1 a1 p v)) (0 : Int) = some o := h1
      rw [h1', bd_s]
      rcases h2 with ⟨rfl, h3⟩ | ⟨k, hk, rfl, h3⟩
      · exact ⟨_, rfl, .inl ⟨rfl, h3⟩⟩
      · exact ⟨_, rfl, .inr ⟨k, hk, rfl, h3⟩⟩
    obtain ⟨o, h1, h2⟩ := key
    rw [h1, bd_s]
    rcases h2 with ⟨rfl, h3⟩ | ⟨k, hk, rfl, h3⟩
    · rw [if_pos (by simp), h3]; rfl
    · rw [if_neg (by simp), getI_nat hk, bd_s, h3, x_there _ (hc _ (List.getElem_mem hk)), bd_s]
end Go.AX
/- The document's own answers on files are the same. -/
namespace Go.AX
open Go.AM
set_option linter.unusedSimpArgs false
/-- What a place tells. -/
def atF (l : List File_api) (i : Int) (o : Option File_api) : Prop := (i = -1 ∧ o = none) ∨ ∃ k : Nat, ∃ h : k < l.length, i = (k : Int) ∧ o = some l[k]
theorem y_new_loop (l : List File_api) (p : Str) (f : (Int × Int) → Option ((Int × Int) ⊕ Int)) (hl : l.length ≤ 1000000)
    (hf : ∀ (a : Int) (i : Nat) (hi : i < l.length), f (a, (i : Int)) = (((optG ((((l[i].Path.l == p.l)) && (!((decide (a < (0 : Int)))))) ) (getI l (i : Int)))).bind fun e27 => ((optG (((l[i].Path.l == p.l)) && (!((decide (a < (0 : Int)))))) (getI l a))).bind fun e28 =>
      if ((l[i].Path.l == p.l) && ((decide (a < (0 : Int))) || (decide (e27.Version > e28.Version)))) then some (.inl ((i : Int), ((i + 1 : Nat) : Int))) else some (.inl (a, ((i + 1 : Nat) : Int)))))
    (hend : ∀ a : Int, f (a, (l.length : Int)) = some (.inr a)) : ∃ a, run f (((-1) : Int), (0 : Int)) = some a ∧ atF l a (nw l p) := by
  refine run_ix0 (n := l.length) (fun i a => atF l a (nw (l.take i) p)) _ (by omega) (.inl ⟨rfl, rfl⟩) ?_ ?_
  · intro i a hi hI
    left
    rw [hf a i hi, nw_succ hi, getI_nat hi]
    rcases hI with ⟨rfl, h2⟩ | ⟨k, hk, rfl, h2⟩
    · rw [h2]
      have hd : decide ((-1 : Int) < 0) = true := by decide
      rw [hd]
      simp only [Bool.not_true, Bool.and_false, optG_false, bd_s, Bool.true_or, Bool.and_true]
      unfold nwStep better
      cases hp : (l[i].Path.l == p.l)
      · exact ⟨_, rfl, .inl ⟨rfl, rfl⟩⟩
      · exact ⟨_, rfl, .inr ⟨i, hi, rfl, rfl⟩⟩
    · rw [h2]
      have hd : decide ((k : Int) < 0) = false := by simp
      rw [hd, getI_nat hk]
      unfold nwStep better
      cases hp : (l[i].Path.l == p.l)
      · exact ⟨_, rfl, .inr ⟨k, hk, rfl, rfl⟩⟩
      · simp only [Bool.not_false, Bool.and_true, optG_true, bd_s, Bool.false_or, Bool.true_and]
        cases hv : decide (l[i].Version > l[k].Version)
        · exact ⟨_, rfl, .inr ⟨k, hk, rfl, rfl⟩⟩
        · exact ⟨_, rfl, .inr ⟨i, hi, rfl, rfl⟩⟩
  · intro a hI
    rw [List.take_length] at hI
    exact ⟨a, hend a, hI⟩
theorem y_Newest (l : List File_api) (p : Str) (hl : l.length ≤ 1000000) : X.cartridgeref10_Newest l p = some (thereF (nw l p)) := by
  unfold X.cartridgeref10_Newest
  obtain ⟨a, h1, h2⟩ := y_new_loop l p (X.cartridgeref10_Newest_s8 l p) hl (fun a i hi => by
    unfold X.cartridgeref10_Newest_s8 X.cartridgeref10_Newest_j22
    simp only
    rw [if_pos (by simpa using hi), getI_nat hi, bd_s, wr_succ (by omega)]) (fun a => by
    unfold X.cartridgeref10_Newest_s8
    simp only
    rw [if_neg (by simp)])
  rw [h1, bd_s]
  unfold X.cartridgeref10_Newest_e8
  rcases h2 with ⟨rfl, h2⟩ | ⟨k, hk, rfl, h2⟩
  · rw [h2]; rfl
  · rw [h2]
    have hd : decide ((k : Int) < 0) = false := by simp
    simp only [hd, getI_nat hk, Bool.not_false, optG_true, bd_s, Bool.false_or]
    show _ = some (if l[k].Gone = true then (zeroF, false) else (l[k], true))
    cases l[k].Gone <;> rfl
theorem y_Next (l : List File_api) (p : Str) (hl : l.length ≤ 1000000) : X.cartridgeref10_Next l p = some (nextF l p) := by
  unfold X.cartridgeref10_Next
  obtain ⟨a, h1, h2⟩ := y_new_loop l p (X.cartridgeref10_Next_s7 l p) hl (fun a i hi => by
    unfold X.cartridgeref10_Next_s7 X.cartridgeref10_Next_j18
    simp only
    rw [if_pos (by simpa using hi), getI_nat hi, bd_s, wr_succ (by omega)]) (fun a => by
    unfold X.cartridgeref10_Next_s7
    simp only
    rw [if_neg (by simp)])
  rw [h1, bd_s]
  unfold X.cartridgeref10_Next_e7 nextF
  rcases h2 with ⟨rfl, h2⟩ | ⟨k, hk, rfl, h2⟩
  · rw [h2]; rfl
  · rw [h2, if_neg (by simp), getI_nat hk, bd_s]
theorem y_Get (l : List File_api) (p : Str) (v : Int) (hl : l.length ≤ 1000000) : X.cartridgeref10_GetFile l p v = some (getF l p v) := by
  unfold X.cartridgeref10_GetFile getF
  by_cases h0 : v = 0
  · rw [if_pos (by simp [h0]), if_pos h0, y_Newest l p hl, bd_s]
  · rw [if_neg (by simp [h0]), if_neg h0]
    obtain ⟨o, h1, h2⟩ := run_se (f := X.cartridgeref10_GetFile_s12 l p v) (a := 0) (n := l.length)
      (fun o => (o = .inl () ∧ l.find? (isV p v) = none) ∨ ∃ f, o = .inr (thereF (some f)) ∧ l.find? (isV p v) = some f) (fun i => (l.take i).find? (isV p v) = none) (Nat.zero_le _) (by omega) (by simp)
      (fun i _ hi hI => by
        unfold X.cartridgeref10_GetFile_s12
        simp only
        rw [if_pos (by simpa using hi), getI_nat hi, bd_s]
        have e : (l[i].Path.l == p.l && l[i].Version == v) = isV p v l[i] := rfl
        cases hp : (l[i].Path.l == p.l)
        · left
          rw [optG_false, bd_s, if_neg (by simp), wr_succ (by omega)]
          exact ⟨rfl, find_more hi hI (by rw [← e, hp]; rfl)⟩
        · rw [optG_true, bd_s]
          cases hv : (l[i].Version == v)
          · left
            rw [if_neg (by simp), wr_succ (by omega)]
            exact ⟨rfl, find_more hi hI (by rw [← e, hp, hv]; rfl)⟩
          · right
            rw [if_pos (by simp), bd_s]
            refine ⟨.inr (thereF (some l[i])), ?_, .inr ⟨_, rfl, find_take hi hI (by rw [← e, hp, hv]; rfl)⟩⟩
            show _ = some (Sum.inr (Sum.inr (if l[i].Gone = true then (zeroF, false) else (l[i], true))))
            cases hg : l[i].Gone
            · rw [if_neg (by simp), bd_s]; rfl
            · rw [if_pos rfl]; rfl)
      (fun hI => by
        unfold X.cartridgeref10_GetFile_s12
        simp only
        rw [if_neg (by simp)]
        exact ⟨_, rfl, .inl ⟨rfl, by rwa [List.take_length] at hI⟩⟩)
    have h1' : run (X.cartridgeref10_GetFile_s12 l p v) (0 : Int) = some o := h1
    rw [h1', bd_s]
    rcases h2 with ⟨rfl, h3⟩ | ⟨f, rfl, h3⟩
    · rw [h3]; rfl
    · rw [h3]
theorem max_fold : ∀ (l : List File_api) (a b : Int), l.foldl (fun n g => max n g.Serial) (max a b) = max a (l.foldl (fun n g => max n g.Serial) b)
  | [], _, _ => rfl
  | f :: l, a, b => by
    simp only [List.foldl_cons]
    rw [show max (max a b) f.Serial = max a (max b f.Serial) by omega, max_fold l]
/-- The greatest serial so far, and where. -/
def serAt (l : List File_api) (i : Nat) (a : Int) : Prop := (i = 0 ∧ a = -1) ∨ (0 < i ∧ ∃ k : Nat, ∃ h : k < l.length, a = (k : Int) ∧ k < i ∧ ∀ j, (hj : j < l.length) → j < i → l[j].Serial ≤ l[k].Serial)
theorem y_Serial (l : List File_api) (hl : l.length ≤ 1000000) : X.cartridgeref10_Serial l = some (serF l) := by
  unfold X.cartridgeref10_Serial
  obtain ⟨a, h1, h2⟩ := run_ix0 (f := X.cartridgeref10_Serial_s6 l) (s0 := ((-1) : Int)) (n := l.length) (fun i a => serAt l i a) (fun a => serAt l l.length a) (by omega) (.inl ⟨rfl, rfl⟩)
    (fun i a hi hI => by
      left
      unfold X.cartridgeref10_Serial_s6 X.cartridgeref10_Serial_j17
      simp only
      rw [if_pos (by simpa using hi), wr_succ (by omega), getI_nat hi]
      rcases hI with ⟨rfl, rfl⟩ | ⟨h0, k, hk, rfl, hki, hmax⟩
      · have hd : decide ((-1 : Int) < 0) = true := by decide
        rw [hd]
        refine ⟨((0 : Nat) : Int), rfl, .inr ⟨by omega, 0, hi, rfl, by omega, fun j hj hj1 => ?_⟩⟩
        obtain rfl : j = 0 := by omega
        exact Int.le_refl _
      · have hd : decide ((k : Int) < 0) = false := by simp
        rw [hd, getI_nat hk]
        simp only [Bool.not_false, optG_true, bd_s, Bool.false_or]
        by_cases hv : l[i].Serial > l[k].Serial
        · rw [if_pos (by simpa using hv)]
          refine ⟨(i : Int), rfl, .inr ⟨by omega, i, hi, rfl, by omega, fun j hj hj1 => ?_⟩⟩
          rcases Nat.lt_or_ge j i with h | h
          · have := hmax j hj h; omega
          · obtain rfl : j = i := by omega
            exact Int.le_refl _
        · rw [if_neg (by simpa using hv)]
          refine ⟨(k : Int), rfl, .inr ⟨by omega, k, hk, rfl, by omega, fun j hj hj1 => ?_⟩⟩
          rcases Nat.lt_or_ge j i with h | h
          · exact hmax j hj h
          · obtain rfl : j = i := by omega
            omega)
    (fun a hI => by
      unfold X.cartridgeref10_Serial_s6
      simp only
      rw [if_neg (by simp)]
      exact ⟨a, rfl, hI⟩)
  rw [h1, bd_s]
  unfold X.cartridgeref10_Serial_e6
  rcases h2 with ⟨h0, rfl⟩ | ⟨h0, k, hk, rfl, _, hmax⟩
  · have : l = [] := List.length_eq_zero_iff.1 h0
    subst this; rfl
  · rw [if_neg (by simp), getI_nat hk, bd_s]
    cases l with
    | nil => simp at h0
    | cons f m =>
      obtain ⟨g1, g2, g3⟩ := fold_max m f.Serial
      have e : m.foldl (fun n g => max n g.Serial) f.Serial = ((f :: m)[k]).Serial := by
        apply Int.le_antisymm
        · rcases g1 with g1 | ⟨g, hg, g1⟩
          · rw [g1]; exact hmax 0 (by simp) (by simp)
          · rw [g1]
            obtain ⟨j, hj, rfl⟩ := List.mem_iff_getElem.1 hg
            have := hmax (j + 1) (by simp; omega) (by simp; omega)
            simpa using this
        · rcases List.mem_cons.1 (List.getElem_mem hk) with h | h
          · rw [h]; exact g2
          · exact g3 _ h
      show _ = some (wr (m.foldl (fun n g => max n g.Serial) f.Serial + 1))
      rw [e]
theorem same_file (f : File_api) (h : f.Parts.length ≤ 100000) : X.cartridgeref10_SameFile f f = some true := by
  unfold X.cartridgeref10_SameFile
  rw [if_neg (by simp)]
  have : run (X.cartridgeref10_SameFile_s9 f f) (0 : Int) = some (.inl ()) :=
    run_seE (a := 0) (n := f.Parts.length) (fun _ => True) (Nat.zero_le _) (by omega) trivial (fun i _ hi _ => .inl ⟨by
      unfold X.cartridgeref10_SameFile_s9
      simp only
      rw [if_pos (by simpa using hi), getI_nat hi, bd_s, bd_s, if_neg (by simp), wr_succ (by omega)], trivial⟩) (fun _ => by
      unfold X.cartridgeref10_SameFile_s9
      simp only
      rw [if_neg (by simp)])
  rw [this, bd_s]; rfl
theorem same_texts (l : List Str) (hl : l.length ≤ 100000) : X.cartridgeref1_SameTexts l l = some true := by
  unfold X.cartridgeref1_SameTexts
  rw [if_neg (by simp)]
  have : run (X.cartridgeref1_SameTexts_s9 l l) (0 : Int) = some (.inl ()) :=
    run_seE (a := 0) (n := l.length) (fun _ => True) (Nat.zero_le _) (by omega) trivial (fun i _ hi _ => .inl ⟨by
      unfold X.cartridgeref1_SameTexts_s9
      simp only
      rw [if_pos (by simpa using hi), getI_nat hi, bd_s, bd_s, if_neg (by simp), wr_succ (by omega)], trivial⟩) (fun _ => by
      unfold X.cartridgeref1_SameTexts_s9
      simp only
      rw [if_neg (by simp)])
  rw [this, bd_s]; rfl
end Go.AX
/- What any files say of any path. -/
namespace Go.AX
open Go.AM
set_option linter.unusedSimpArgs false
theorem lt_tri {a b : List UInt8} (h1 : ¬ a < b) (h2 : a ≠ b) : b < a := by
  rcases List.le_iff_lt_or_eq.1 (List.not_lt.1 h1) with h | h
  · exact h
  · exact absurd h.symm h2
theorem y_ins (l : List File_api) (out : List Str) (i : Nat) (hi : i < l.length) (ho : out.length ≤ 100000) : ∃ k : Nat, k ≤ out.length ∧ run (X.cartridgeref10_Names_s21 out l (i : Int)) (0 : Int) = some (k : Int) ∧ (∀ j, (hj : j < out.length) → j < k → out[j].l < l[i].Path.l) ∧
    (∀ hk : k < out.length, ¬ out[k].l < l[i].Path.l) := by
  obtain ⟨o, h1, k, rfl, h2, h3, h4⟩ := run_se (f := X.cartridgeref10_Names_s21 out l (i : Int)) (a := 0) (n := out.length)
    (fun o => ∃ k : Nat, o = (k : Int) ∧ k ≤ out.length ∧ (∀ j, (hj : j < out.length) → j < k → out[j].l < l[i].Path.l) ∧ (∀ hk : k < out.length, ¬ out[k].l < l[i].Path.l))
    (fun k => ∀ j, (hj : j < out.length) → j < k → out[j].l < l[i].Path.l) (Nat.zero_le _) (by omega) (fun j _ h => by omega)
    (fun k _ hk hI => by
      unfold X.cartridgeref10_Names_s21
      simp only
      have hd : decide ((k : Int) < (out.length : Int)) = true := by simpa using hk
      rw [hd, optG_true, optG_true, getI_nat hk, getI_nat hi, bd_s, bd_s]
      cases hb : Op.bytesLess out[k].l l[i].Path.l
      · right
        rw [if_neg (by simp)]
        refine ⟨_, rfl, k, rfl, by omega, hI, fun _ h => ?_⟩
        rw [(bless_iff _ _).2 h] at hb
        cases hb
      · left
        rw [if_pos (by simp), wr_succ (by omega)]
        refine ⟨rfl, fun j hj hj1 => ?_⟩
        rcases Nat.lt_or_ge j k with h | h
        · exact hI j hj h
        · obtain rfl : j = k := by omega
          exact (bless_iff _ _).1 hb)
    (fun hI => by
      unfold X.cartridgeref10_Names_s21
      simp only
      have hd : decide ((out.length : Int) < (out.length : Int)) = false := by simp
      rw [hd, optG_false, optG_false, bd_s, bd_s, if_neg (by simp)]
      exact ⟨_, rfl, out.length, rfl, Nat.le_refl _, hI, fun h => by omega⟩)
  exact ⟨k, h2, h1, h3, h4⟩
theorem y_Names (l : List File_api) (hl : l.length ≤ 1000) : ∃ n, X.cartridgeref10_Names l = some n ∧ NamesOK l n := by
  unfold X.cartridgeref10_Names
  obtain ⟨n, h1, h2, h3⟩ := run_ix0 (f := X.cartridgeref10_Names_s6 l) (s0 := ([] : List Str)) (n := l.length)
    (fun i out => out.length ≤ i ∧ (out.map (·.l)).Pairwise (· < ·) ∧ ∀ p : Str, p ∈ out ↔ ((∃ f ∈ l.take i, f.Path = p) ∧ (thereF (nw l p)).2 = true))
    (fun out => (out.map (·.l)).Pairwise (· < ·) ∧ ∀ p : Str, p ∈ out ↔ ((∃ f ∈ l, f.Path = p) ∧ (thereF (nw l p)).2 = true)) (by omega) ⟨by simp, by simp, fun p => by simp⟩
    (fun i out hi hI => by
      obtain ⟨q1, q2, q3⟩ := hI
      left
      unfold X.cartridgeref10_Names_s6
      simp only
      rw [if_pos (by simpa using hi), getI_nat hi, bd_s, y_Newest l _ (by omega), bd_s]
      obtain ⟨k, k1, k2, k3, k4⟩ := y_ins l out i hi (by omega)
      rw [k2, bd_s]
      unfold X.cartridgeref10_Names_e21 X.cartridgeref10_Names_j13
      have memS : ∀ p : Str, (∃ f ∈ l.take (i + 1), f.Path = p) ↔ ((∃ f ∈ l.take i, f.Path = p) ∨ l[i].Path = p) := fun p => by
        rw [List.take_succ_eq_append_getElem hi]
        constructor
        · rintro ⟨f, hf, e⟩
          rcases List.mem_append.1 hf with h | h
          · exact .inl ⟨f, h, e⟩
          · simp at h; subst h; exact .inr e
        · rintro (⟨f, hf, e⟩ | e)
          · exact ⟨f, List.mem_append_left _ hf, e⟩
          · exact ⟨l[i], List.mem_append_right _ (by simp), e⟩
      cases hok : (thereF (nw l l[i].Path)).2
      · simp only [Bool.not_false, Bool.not_true, Bool.false_and, optG_false, bd_s, Bool.true_or, if_true]
        rw [wr_succ (by omega)]
        refine ⟨_, rfl, by omega, q2, fun p => ?_⟩
        rw [q3, memS]
        constructor
        · rintro ⟨h, h'⟩; exact ⟨.inl h, h'⟩
        · rintro ⟨h | h, h'⟩
          · exact ⟨h, h'⟩
          · subst h; rw [hok] at h'; cases h'
      · by_cases hk : k < out.length
        · have hd : decide ((k : Int) < (out.length : Int)) = true := by simpa using hk
          simp only [Bool.not_true, Bool.not_false, hd, Bool.true_and, optG_true, getI_nat hk, getI_nat hi, bd_s, Bool.false_or]
          by_cases he : (out[k].l == l[i].Path.l) = true
          · rw [if_pos he, wr_succ (by omega)]
            refine ⟨_, rfl, by omega, q2, fun p => ?_⟩
            have hmem : l[i].Path ∈ out := by rw [← str_l.1 he]; exact List.getElem_mem hk
            rw [q3, memS]
            constructor
            · rintro ⟨h, h'⟩; exact ⟨.inl h, h'⟩
            · rintro ⟨h | h, h'⟩
              · exact ⟨h, h'⟩
              · subst h; exact (q3 _).1 hmem
          · rw [if_neg he, need_is (by omega), bd_s, need_is (by omega), bd_s]
            have s1 : slc out (0 : Int) (k : Int) = out.take k := by simp [slc]
            have s2 : slc out (k : Int) (out.length : Int) = out.drop k := by
              unfold slc
              rw [Int.toNat_natCast, List.take_of_length_le (by simp)]
            rw [s1, s2, need_is (by simp; omega), bd_s, need_is (by simp; omega), bd_s, need_is (by simp; omega), bd_s, wr_succ (by omega)]
            refine ⟨_, rfl, by simp; omega, ?_, fun p => ?_⟩
            · have hne : out[k].l ≠ l[i].Path.l := fun e => he (beq_iff_eq.2 e)
              have hgt := lt_tri (k4 hk) hne
              rw [List.map_append, List.map_append]
              have hq : (out.map (·.l)) = (out.take k).map (·.l) ++ (out.drop k).map (·.l) := by rw [← List.map_append, List.take_append_drop]
              have q2' := q2
              rw [hq, List.pairwise_append] at q2
              rw [List.append_assoc, List.pairwise_append]
              refine ⟨q2.1, ?_, ?_⟩
              · show (l[i].Path.l :: (out.drop k).map (·.l)).Pairwise (· < ·)
                rw [List.pairwise_cons]
                refine ⟨fun x hx => ?_, q2.2.1⟩
                obtain ⟨y, hy, rfl⟩ := List.mem_map.1 hx
                obtain ⟨j, hj, rfl⟩ := List.mem_iff_getElem.1 hy
                rw [List.getElem_drop]
                rcases Nat.eq_zero_or_pos j with h0 | h0
                · subst h0; exact hgt
                · have := List.pairwise_iff_getElem.1 q2' k (k + j) (by simpa using hk) (by simp at hj ⊢; omega) (by omega)
                  simp only [List.getElem_map] at this
                  exact List.lt_trans hgt this
              · intro x hx y hy
                obtain ⟨x', hx', rfl⟩ := List.mem_map.1 hx
                obtain ⟨j, hj, rfl⟩ := List.mem_take_iff_getElem.1 hx'
                rcases List.mem_append.1 hy with hy | hy
                · simp at hy; subst hy
                  exact k3 j (by omega) (by omega)
                · exact q2.2.2 _ hx _ hy
            · rw [List.mem_append, List.mem_append, memS]
              have hpart : p ∈ out ↔ (p ∈ out.take k ∨ p ∈ out.drop k) := by rw [← List.mem_append, List.take_append_drop]
              constructor
              · rintro ((h | h) | h)
                · have := (q3 p).1 (hpart.2 (.inl h)); exact ⟨.inl this.1, this.2⟩
                · simp at h; subst h; exact ⟨.inr rfl, hok⟩
                · have := (q3 p).1 (hpart.2 (.inr h)); exact ⟨.inl this.1, this.2⟩
              · rintro ⟨h | h, h'⟩
                · rcases hpart.1 ((q3 p).2 ⟨h, h'⟩) with h | h
                  · exact .inl (.inl h)
                  · exact .inr h
                · subst h; exact .inl (.inr (by simp))
        · have hkl : k = out.length := by omega
          have hd : decide ((k : Int) < (out.length : Int)) = false := by simp; omega
          simp only [Bool.not_true, Bool.not_false, hd, Bool.true_and, Bool.false_and, optG_false, bd_s, Bool.false_or, Bool.false_eq_true, if_false]
          rw [need_is (by omega), bd_s, getI_nat hi, bd_s, need_is (by omega), bd_s]
          have s1 : slc out (0 : Int) (k : Int) = out := by subst hkl; simp [slc]
          have s2 : slc out (k : Int) (out.length : Int) = [] := by
            subst hkl
            unfold slc
            simp
          rw [s1, s2, need_is (by omega), bd_s, need_is (by simp; omega), bd_s, need_is (by simp; omega), bd_s, wr_succ (by omega), List.append_nil]
          refine ⟨_, rfl, by simp; omega, ?_, fun p => ?_⟩
          · rw [List.map_append, List.pairwise_append]
            refine ⟨q2, by simp, fun x hx y hy => ?_⟩
            simp at hy
            subst hy
            obtain ⟨x', hx', rfl⟩ := List.mem_map.1 hx
            obtain ⟨j, hj, rfl⟩ := List.mem_iff_getElem.1 hx'
            exact k3 j hj (by omega)
          · rw [List.mem_append, memS, q3]
            constructor
            · rintro (⟨h, h'⟩ | h)
              · exact ⟨.inl h, h'⟩
              · simp at h; subst h; exact ⟨.inr rfl, hok⟩
            · rintro ⟨h | h, h'⟩
              · exact .inl ⟨h, h'⟩
              · subst h; exact .inr (by simp))
    (fun out hI => by
      obtain ⟨q1, q2, q3⟩ := hI
      unfold X.cartridgeref10_Names_s6
      simp only
      rw [if_neg (by simp)]
      rw [List.take_length] at q3
      exact ⟨_, rfl, q2, q3⟩)
  rw [h1, bd_s]
  exact ⟨n, rfl, h2, h3⟩
theorem there_parts {l : List File_api} (h : ∀ f ∈ l, f.Parts.length ≤ 20) {o : Option File_api} (ho : ∀ f, o = some f → f ∈ l) : (thereF o).1.Parts.length ≤ 100000 := by
  cases o with
  | none => show ([] : List Part_api).length ≤ _; simp
  | some f =>
    show (if f.Gone = true then (zeroF, false) else (f, true)).1.Parts.length ≤ 100000
    split
    · show ([] : List Part_api).length ≤ _; simp
    · have := h f (ho f rfl); simp only; omega
theorem listing_tells (l : List File_api) (p : Str) (v : Int) : X.cartridgelaw18_ListingTells l p v = some true := by
  unfold X.cartridgelaw18_ListingTells
  rw [alive18, bd_s]
  by_cases h40 : l.length ≤ 40
  · rw [if_neg (by simp; omega)]
    obtain ⟨o, h1, h2⟩ := run_se (f := X.cartridgelaw18_ListingTells_s12 l) (a := 0) (n := l.length) (fun o => o = .inr true ∨ (o = .inl () ∧ ∀ f ∈ l, f.Parts.length ≤ 20)) (fun i => ∀ f ∈ l.take i, f.Parts.length ≤ 20) (Nat.zero_le _) (by omega) (fun f hf => by simp at hf)
      (fun i _ hi hI => by
        unfold X.cartridgelaw18_ListingTells_s12
        simp only
        rw [if_pos (by simpa using hi), getI_nat hi, bd_s]
        by_cases hp : l[i].Parts.length ≤ 20
        · have hd : decide ((l[i].Parts.length : Int) > (20 : Int)) = false := by simp; omega
          simp only [hd, Bool.not_false, optG_true, bd_s, Bool.false_or]
          cases hv : decide (l[i].Version > (1099511627776 : Int))
          · simp only [Bool.not_false, optG_true, bd_s, Bool.false_or]
            cases hs : decide (l[i].Serial > (1099511627776 : Int))
            · left
              rw [if_neg (by simp), wr_succ (by omega)]
              refine ⟨rfl, fun f hf => ?_⟩
              rw [List.take_succ_eq_append_getElem hi] at hf
              rcases List.mem_append.1 hf with h | h
              · exact hI f h
              · simp at h; subst h; exact hp
            · right; exact ⟨_, rfl, .inl rfl⟩
          · right
            simp only [Bool.not_true, optG_false, bd_s, Bool.true_or, if_true]
            exact ⟨_, rfl, .inl rfl⟩
        · right
          have hd : decide ((l[i].Parts.length : Int) > (20 : Int)) = true := by simp; omega
          simp only [hd, Bool.not_true, optG_false, bd_s, Bool.true_or, if_true]
          exact ⟨_, rfl, .inl rfl⟩)
      (fun hI => by
        unfold X.cartridgelaw18_ListingTells_s12
        simp only
        rw [if_neg (by simp)]
        exact ⟨_, rfl, .inr ⟨rfl, by rwa [List.take_length] at hI⟩⟩)
    have h1' : run (X.cartridgelaw18_ListingTells_s12 l) (0 : Int) = some o := h1
    rw [h1', bd_s]
    rcases h2 with rfl | ⟨rfl, hP⟩
    · rfl
    · simp only
      unfold X.cartridgelaw18_ListingTells_e12
      have hc : CP l := fun f hf => by have := hP f hf; omega
      obtain ⟨n, n1, n2, _⟩ := x_Names l (by omega) hc
      obtain ⟨m, m1, m2⟩ := y_Names l (by omega)
      have hnm := names_uniq n2 m2
      subst hnm
      have hlen : n.length ≤ 100000 := by
        have := n2
        rename_i hle
        omega
      have g1 : (thereF (nw l p)).1.Parts.length ≤ 100000 := there_parts hP fun f hf => (nw_mem hf).1
      have g2 : (getF l p v).1.Parts.length ≤ 100000 := by
        unfold getF
        split
        · exact g1
        · exact there_parts hP fun f hf => List.mem_of_find?_eq_some hf
      rw [x_Newest l p (by omega) hc, bd_s, y_Newest l p (by omega), bd_s, x_Get l p v (by omega) hc, bd_s, y_Get l p v (by omega), bd_s, same_file _ g1, bd_s]
      simp only [beq_self_eq_true, Bool.and_self, optG_true, same_file _ g2, bd_s, x_Next l p (show l.length ≤ 1000000 by omega), y_Next l p (show l.length ≤ 1000000 by omega), x_Serial l (show l.length ≤ 1000000 by omega), y_Serial l (show l.length ≤ 1000000 by omega), n1, m1, same_texts n hlen]
  · rw [if_pos (by simp; omega)]
end Go.AX
