import Derived.Test.YtgkbjnhpmlfgdaaXFn
import Derived.Test.YtgkbjnhpmlfgdaaXN
/- Plain laws of counting loops and of lists that are filled place by place. -/
namespace Go.AX

theorem iter_more {σ ρ : Type} {f : σ → Option (σ ⊕ ρ)} : ∀ {n : Nat} {s : σ} {r : ρ} (k : Nat), iter f n s = some r → iter f (n + k) s = some r
  | 0, _, _, _, h => by simp [iter] at h
  | n + 1, s, r, k, h => by
    rw [Nat.add_right_comm]
    simp only [iter] at h ⊢
    cases hs : f s with
    | none => rw [hs] at h; cases h
    | some q =>
      rw [hs] at h
      cases q with
      | inl s' => exact iter_more k h
      | inr r' => exact h
theorem run_few {σ ρ : Type} {f : σ → Option (σ ⊕ ρ)} {s : σ} {r : ρ} (n : Nat) (hn : n ≤ 1000000) (h : iter f n s = some r) : run f s = some r := by
  unfold run
  rw [FUEL_eq, show (4611686018427387904 : Nat) = n + (4611686018427387904 - n) from by omega]
  exact iter_more _ h

/-- A loop over numbers. -/
theorem run_ix {σ ρ : Type} {f : σ × Int → Option ((σ × Int) ⊕ ρ)} {s0 : σ} {a n : Nat} (I : Nat → σ → Prop) (R : ρ → Prop) (han : a ≤ n) (hn : n ≤ 4000000000000000000) (h0 : I a s0)
    (step : ∀ i s, a ≤ i → i < n → I i s → (∃ s', f (s, (i : Int)) = some (.inl (s', ((i + 1 : Nat) : Int))) ∧ I (i + 1) s') ∨ ∃ r, f (s, (i : Int)) = some (.inr r) ∧ R r)
    (fin : ∀ s, I n s → ∃ r, f (s, (n : Int)) = some (.inr r) ∧ R r) : ∃ r, run f (s0, (a : Int)) = some r ∧ R r := by
  refine run_inv (fun p => ∃ i : Nat, p.2 = (i : Int) ∧ a ≤ i ∧ i ≤ n ∧ I i p.1) R (fun p => n - p.2.toNat) ⟨a, rfl, Nat.le_refl _, han, h0⟩ (by simp only; omega) ?_
  rintro ⟨s, x⟩ ⟨i, rfl, hai, hin, hI⟩
  rcases Nat.lt_or_ge i n with hlt | hge
  · rcases step i s hai hlt hI with ⟨s', h1, h2⟩ | h
    · exact .inl ⟨_, h1, ⟨i + 1, rfl, by omega, by omega, h2⟩, by simp only; omega⟩
    · exact .inr h
  · have : i = n := by omega
    subst this
    exact .inr (fin s hI)
/-- A loop over numbers, told as a function of them. -/
theorem run_G {σ ρ : Type} {f : σ × Int → Option ((σ × Int) ⊕ ρ)} (G : Nat → σ) {s0 : σ} {a n : Nat} {r : ρ} (han : a ≤ n) (hn : n ≤ 4000000000000000000) (h0 : s0 = G a)
    (step : ∀ i, a ≤ i → i < n → f (G i, (i : Int)) = some (.inl (G (i + 1), ((i + 1 : Nat) : Int)))) (fin : f (G n, (n : Int)) = some (.inr r)) : run f (s0, (a : Int)) = some r := by
  obtain ⟨r', h1, h2⟩ := run_ix (f := f) (s0 := s0) (a := a) (n := n) (fun i s => s = G i) (fun x => x = r) han hn h0 (fun i s hi hlt e => .inl ⟨_, by rw [e]; exact step i hi hlt, rfl⟩) (fun s e => ⟨r, by rw [e]; exact fin, rfl⟩)
  rw [h1, h2]
theorem run_G0 {σ ρ : Type} {f : σ × Int → Option ((σ × Int) ⊕ ρ)} (G : Nat → σ) {s0 : σ} {n : Nat} {r : ρ} (hn : n ≤ 4000000000000000000) (h0 : s0 = G 0)
    (step : ∀ i, i < n → f (G i, (i : Int)) = some (.inl (G (i + 1), ((i + 1 : Nat) : Int)))) (fin : f (G n, (n : Int)) = some (.inr r)) : run f (s0, (0 : Int)) = some r :=
  run_G (a := 0) G (Nat.zero_le _) hn h0 (fun i _ h => step i h) fin
theorem run_ix0 {σ ρ : Type} {f : σ × Int → Option ((σ × Int) ⊕ ρ)} {s0 : σ} {n : Nat} (I : Nat → σ → Prop) (R : ρ → Prop) (hn : n ≤ 4000000000000000000) (h0 : I 0 s0)
    (step : ∀ i s, i < n → I i s → (∃ s', f (s, (i : Int)) = some (.inl (s', ((i + 1 : Nat) : Int))) ∧ I (i + 1) s') ∨ ∃ r, f (s, (i : Int)) = some (.inr r) ∧ R r)
    (fin : ∀ s, I n s → ∃ r, f (s, (n : Int)) = some (.inr r) ∧ R r) : ∃ r, run f (s0, (0 : Int)) = some r ∧ R r :=
  run_ix (a := 0) I R (Nat.zero_le _) hn h0 (fun i s _ h k => step i s h k) fin
/-- A search over numbers, without other state. -/
theorem run_se {ρ : Type} {f : Int → Option (Int ⊕ ρ)} {a n : Nat} (R : ρ → Prop) (I : Nat → Prop) (han : a ≤ n) (hn : n ≤ 4000000000000000000) (h0 : I a)
    (step : ∀ i, a ≤ i → i < n → I i → (f (i : Int) = some (.inl ((i + 1 : Nat) : Int)) ∧ I (i + 1)) ∨ ∃ r, f (i : Int) = some (.inr r) ∧ R r)
    (fin : I n → ∃ r, f (n : Int) = some (.inr r) ∧ R r) : ∃ r, run f (a : Int) = some r ∧ R r := by
  refine run_inv (fun x => ∃ i : Nat, x = (i : Int) ∧ a ≤ i ∧ i ≤ n ∧ I i) R (fun x => n - x.toNat) ⟨a, rfl, Nat.le_refl _, han, h0⟩ (by omega) ?_
  rintro x ⟨i, rfl, hai, hin, hI⟩
  rcases Nat.lt_or_ge i n with hlt | hge
  · rcases step i hai hlt hI with ⟨h1, h2⟩ | h
    · exact .inl ⟨_, h1, ⟨i + 1, rfl, by omega, by omega, h2⟩, by omega⟩
    · exact .inr h
  · have : i = n := by omega
    subst this
    exact .inr (fin hI)

theorem run_seE {ρ : Type} {f : Int → Option (Int ⊕ ρ)} {a n : Nat} {r : ρ} (I : Nat → Prop) (han : a ≤ n) (hn : n ≤ 4000000000000000000) (h0 : I a)
    (step : ∀ i, a ≤ i → i < n → I i → (f (i : Int) = some (.inl ((i + 1 : Nat) : Int)) ∧ I (i + 1)) ∨ f (i : Int) = some (.inr r))
    (fin : I n → f (n : Int) = some (.inr r)) : run f (a : Int) = some r := by
  obtain ⟨r', h1, h2⟩ := run_se (f := f) (fun x => x = r) I han hn h0 (fun i h1 h2 h3 => (step i h1 h2 h3).imp id fun h => ⟨r, h, rfl⟩) (fun h => ⟨r, fin h, rfl⟩)
  rw [h1, h2]
theorem run_ixE {σ ρ : Type} {f : σ × Int → Option ((σ × Int) ⊕ ρ)} {s0 : σ} {n : Nat} {r : ρ} (I : Nat → σ → Prop) (hn : n ≤ 4000000000000000000) (h0 : I 0 s0)
    (step : ∀ i s, i < n → I i s → (∃ s', f (s, (i : Int)) = some (.inl (s', ((i + 1 : Nat) : Int))) ∧ I (i + 1) s') ∨ f (s, (i : Int)) = some (.inr r))
    (fin : ∀ s, I n s → f (s, (n : Int)) = some (.inr r)) : run f (s0, (0 : Int)) = some r := by
  obtain ⟨r', h1, h2⟩ := run_ix0 (f := f) (s0 := s0) I (fun x => x = r) hn h0 (fun i s h1 h2 => (step i s h1 h2).imp id fun h => ⟨r, h, rfl⟩) (fun s h => ⟨r, fin s h, rfl⟩)
  rw [h1, h2]

/-- A list told place by place. -/
def tab {α : Type} (n : Nat) (g : Nat → α) : List α := (List.range n).map g
section
variable {α : Type} {n : Nat} {g g' : Nat → α}
@[simp] theorem tab_len : (tab n g).length = n := by simp [tab]
theorem tab_get {i : Nat} (h : i < (tab n g).length) : (tab n g)[i] = g i := by simp [tab]
theorem tab_get? {i : Nat} (h : i < n) : (tab n g)[i]? = some (g i) := by simp [tab, h]
theorem tab_congr (h : ∀ i, i < n → g i = g' i) : tab n g = tab n g' := by
  unfold tab
  exact List.map_congr_left fun i hi => h i (List.mem_range.1 hi)
theorem tab_set {i : Nat} {y : α} : (tab n g).set i y = tab n (fun j => if j = i then y else g j) := by
  apply List.ext_getElem (by simp)
  intro j h1 h2
  rw [List.getElem_set, tab_get (by simpa using h2), tab_get h2]
  by_cases hij : i = j
  · rw [if_pos hij, if_pos hij.symm]
  · rw [if_neg hij, if_neg fun e => hij e.symm]
theorem tab_rep {z : α} : List.replicate n z = tab n (fun _ => z) := by
  apply List.ext_getElem?
  intro j
  by_cases hj : j < n <;> simp [tab, hj]
theorem getI_tab {i : Nat} (h : i < n) : getI (tab n g) (i : Int) = some (g i) := by rw [getI_nat (by simpa using h), tab_get]
theorem tab_succ : tab (n + 1) g = tab n g ++ [g n] := by simp [tab, List.range_succ]
theorem tab_zero : tab 0 g = [] := rfl
theorem tab_all (z : α) (xs : List α) : xs = tab xs.length (fun j => xs.getD j z) := by
  apply List.ext_getElem?
  intro j
  by_cases hj : j < xs.length
  · rw [tab_get? hj, List.getElem?_eq_getElem hj]; simp [List.getD_eq_getElem?_getD, hj]
  · rw [List.getElem?_eq_none (by omega), List.getElem?_eq_none (by simp; omega)]
theorem tab_getD {i : Nat} {z : α} : (tab n g).getD i z = if i < n then g i else z := by
  by_cases h : i < n
  · simp [tab, h, List.getD_eq_getElem?_getD]
  · rw [if_neg h, List.getD_eq_getElem?_getD, List.getElem?_eq_none (by simp; omega)]; rfl
theorem mem_tab {x : α} : x ∈ tab n g ↔ ∃ i, i < n ∧ g i = x := by simp [tab]
theorem getI_getD {xs : List α} (z : α) {i : Nat} (h : i < xs.length) : getI xs (i : Int) = some (xs.getD i z) := by
  rw [getI_nat h]; simp [List.getD_eq_getElem?_getD, h]
theorem set_getD {xs : List α} {z : α} {i j : Nat} {y : α} (h : i < xs.length) : (xs.set i y).getD j z = if j = i then y else xs.getD j z := by
  simp only [List.getD_eq_getElem?_getD, List.getElem?_set]
  by_cases e : i = j
  · subst e; simp [h]
  · rw [if_neg e, if_neg fun h : j = i => e h.symm]
theorem list_ext_getD (z : α) {xs ys : List α} (hl : xs.length = ys.length) (h : ∀ i, i < xs.length → xs.getD i z = ys.getD i z) : xs = ys := by
  rw [tab_all z xs, tab_all z ys, ← hl]
  exact tab_congr h
end
end Go.AX
/- The field of 256 elements: its product is bilinear, commutative and associative, and each element but 0 has an inverse. -/
namespace Go.AX
namespace Gf

def all8 (p : UInt8 → Bool) : Bool := (List.range 256).all fun n => p (UInt8.ofNat n)
theorem all8_ok {p : UInt8 → Bool} (h : all8 p = true) (a : UInt8) : p a = true := by
  unfold all8 at h
  rw [List.all_eq_true] at h
  have := h a.toNat (List.mem_range.2 a.toNat_lt)
  simpa using this
theorem all8_eq {f g : UInt8 → UInt8} (h : all8 (fun a => f a == g a) = true) (a : UInt8) : f a = g a := by simpa using all8_ok h a

/-- Times x. -/
def xt (a : UInt8) : UInt8 := if (a &&& 128 != 0) = true then (a <<< 1) ^^^ 29 else a <<< 1
def bit (a : UInt8) (i : Nat) : Bool := (a >>> UInt8.ofNat i) &&& 1 == 1
def sel (c : Bool) (v : UInt8) : UInt8 := if c then v else 0
/-- n steps of the product. -/
def gmN : Nat → UInt8 → UInt8 → UInt8
  | 0, _, _ => 0
  | n + 1, a, b => sel (b &&& 1 == 1) a ^^^ gmN n (xt a) (b >>> 1)
/-- The product. -/
def gm (a b : UInt8) : UInt8 := gmN 8 a b

/-- Additive. -/
def Add (f : UInt8 → UInt8) : Prop := ∀ x y, f (x ^^^ y) = f x ^^^ f y
theorem Add.zero {f : UInt8 → UInt8} (h : Add f) : f 0 = 0 := by
  have := h 0 0
  simpa using this
theorem x4 (a b c d : UInt8) : (a ^^^ b) ^^^ (c ^^^ d) = (a ^^^ c) ^^^ (b ^^^ d) := by
  rw [UInt8.xor_assoc, UInt8.xor_assoc, ← UInt8.xor_assoc b c d, ← UInt8.xor_assoc c b d, UInt8.xor_comm b c]
theorem Add.comp {f g : UInt8 → UInt8} (h : Add f) (k : Add g) : Add (fun x => f (g x)) := fun x y => by
  show f (g (x ^^^ y)) = _
  rw [k x y, h]
theorem Add.xor {f g : UInt8 → UInt8} (h : Add f) (k : Add g) : Add (fun x => f x ^^^ g x) := fun x y => by
  show f (x ^^^ y) ^^^ g (x ^^^ y) = _
  rw [h x y, k x y, x4]
theorem Add.sel {f : UInt8 → UInt8} (h : Add f) (c : Bool) (x : UInt8) : f (sel c x) = Gf.sel c (f x) := by cases c <;> simp [Gf.sel, h.zero]
theorem Add.shr : Add (fun x => x >>> 1) := fun _ _ => UInt8.shiftRight_xor
theorem and_xor (x y z : UInt8) : (x ^^^ y) &&& z = (x &&& z) ^^^ (y &&& z) := by
  rw [← UInt8.toBitVec_inj]
  ext i
  simp [Bool.and_xor_distrib_right]
theorem and1 : ∀ a : UInt8, (a &&& 1 = 0) ∨ (a &&& 1 = 1) := fun a => by
  have := all8_ok (p := fun a => (a &&& 1 == 0) || (a &&& 1 == 1)) (by decide +kernel) a
  simpa using this
theorem low_xor (x y : UInt8) : ((x ^^^ y) &&& 1 == 1) = ((x &&& 1 == 1) ^^ (y &&& 1 == 1)) := by
  rw [and_xor]
  rcases and1 x with h | h <;> rcases and1 y with k | k <;> rw [h, k] <;> decide
theorem sel_xor (a b : Bool) (v : UInt8) : sel (a ^^ b) v = sel a v ^^^ sel b v := by cases a <;> cases b <;> simp [sel]
theorem sel_add (c : Bool) : Add (sel c) := fun x y => by cases c <;> simp [sel]
def xt' (a : UInt8) : UInt8 := (a <<< 1) ^^^ ((a >>> 7) ^^^ ((a >>> 7) <<< 2) ^^^ ((a >>> 7) <<< 3) ^^^ ((a >>> 7) <<< 4))
theorem xt_eq : ∀ a, xt a = xt' a := all8_eq (by decide +kernel)
theorem Add.xt : Add xt := by
  have h7 : Add (fun x => x >>> 7) := fun _ _ => UInt8.shiftRight_xor
  have hl : ∀ n : UInt8, Add (fun x => x <<< n) := fun _ _ _ => UInt8.shiftLeft_xor
  have : Add xt' := Add.xor (f := fun a => a <<< 1) (hl 1) (Add.xor (Add.xor (Add.xor h7 ((hl 2).comp h7)) ((hl 3).comp h7)) ((hl 4).comp h7))
  intro x y
  rw [xt_eq, xt_eq, xt_eq]
  exact this x y
theorem gmN_l : ∀ n b, Add (fun a => gmN n a b)
  | 0, b => fun x y => by simp [gmN]
  | n + 1, b => Add.xor (f := fun a => sel (b &&& 1 == 1) a) (sel_add _) ((gmN_l n (b >>> 1)).comp Add.xt)
theorem gmN_r : ∀ n a, Add (fun b => gmN n a b)
  | 0, a => fun x y => by simp [gmN]
  | n + 1, a => by
    refine Add.xor (f := fun b => sel (b &&& 1 == 1) a) (fun x y => ?_) (Add.comp (f := fun b => gmN n (Gf.xt a) b) (gmN_r n (Gf.xt a)) Add.shr)
    show sel ((x ^^^ y) &&& 1 == 1) a = _
    rw [low_xor, sel_xor]
theorem gm_l (b : UInt8) : Add (fun a => gm a b) := gmN_l 8 b
theorem gm_r (a : UInt8) : Add (fun b => gm a b) := gmN_r 8 a

/-- An element is made of powers of two. -/
theorem bits (a : UInt8) : a = sel (bit a 0) 1 ^^^ sel (bit a 1) 2 ^^^ sel (bit a 2) 4 ^^^ sel (bit a 3) 8 ^^^ sel (bit a 4) 16 ^^^ sel (bit a 5) 32 ^^^ sel (bit a 6) 64 ^^^ sel (bit a 7) 128 :=
  
  all8_eq (f := fun a => a) (g := fun a => sel (bit a 0) 1 ^^^ sel (bit a 1) 2 ^^^ sel (bit a 2) 4 ^^^ sel (bit a 3) 8 ^^^ sel (bit a 4) 16 ^^^ sel (bit a 5) 32 ^^^ sel (bit a 6) 64 ^^^ sel (bit a 7) 128) (by decide +kernel) a
/-- Two additive functions that are one at the powers of two are one. -/
theorem Add.eq {f g : UInt8 → UInt8} (h : Add f) (k : Add g) (e : ([1, 2, 4, 8, 16, 32, 64, 128] : List UInt8).all (fun x => f x == g x) = true) (a : UInt8) : f a = g a := by
  simp only [List.all_cons, List.all_nil, Bool.and_eq_true, beq_iff_eq, Bool.and_true] at e
  obtain ⟨e0, e1, e2, e3, e4, e5, e6, e7⟩ := e
  rw [bits a]
  simp only [h _ _, k _ _, Add.sel h, Add.sel k, e0, e1, e2, e3, e4, e5, e6, e7]

def p2 : List UInt8 := [1, 2, 4, 8, 16, 32, 64, 128]
theorem gm_comm (a b : UInt8) : gm a b = gm b a := by
  refine Add.eq (f := fun a => gm a b) (g := fun a => gm b a) (gm_l b) (gm_r b) ?_ a
  have h : p2.all (fun x => p2.all fun y => gm x y == gm y x) = true := by decide +kernel
  rw [List.all_eq_true] at h
  rw [List.all_eq_true]
  intro x hx
  have := Add.eq (f := fun b => gm x b) (g := fun b => gm b x) (gm_r x) (gm_l x) (h x hx) b
  simpa using this
theorem gm_assoc (a b c : UInt8) : gm (gm a b) c = gm a (gm b c) := by
  refine Add.eq (f := fun a => gm (gm a b) c) (g := fun a => gm a (gm b c)) (Add.comp (gm_l c) (gm_l b)) (gm_l _) ?_ a
  have h : p2.all (fun x => p2.all fun y => p2.all fun z => gm (gm x y) z == gm x (gm y z)) = true := by decide +kernel
  rw [List.all_eq_true] at h
  rw [List.all_eq_true]
  intro x hx
  have h2 := h x hx
  rw [List.all_eq_true] at h2
  have := Add.eq (f := fun b => gm (gm x b) c) (g := fun b => gm x (gm b c)) (Add.comp (f := fun v => gm v c) (gm_l c) (gm_r x)) (Add.comp (f := fun v => gm x v) (gm_r x) (gm_l c)) (by
    rw [List.all_eq_true]
    intro y hy
    have := Add.eq (f := fun c => gm (gm x y) c) (g := fun c => gm x (gm y c)) (gm_r _) (Add.comp (f := fun v => gm x v) (gm_r x) (gm_r y)) (h2 y hy) c
    simpa using this) b
  simpa using this
theorem gm_one (a : UInt8) : gm a 1 = a := all8_eq (f := fun a => gm a 1) (g := fun a => a) (by decide +kernel) a
theorem one_gm (a : UInt8) : gm 1 a = a := by rw [gm_comm, gm_one]
theorem gm_zero (a : UInt8) : gm a 0 = 0 := (gm_r a).zero
theorem zero_gm (a : UInt8) : gm 0 a = 0 := (gm_l a).zero
theorem gm_xor (a b c : UInt8) : gm a (b ^^^ c) = gm a b ^^^ gm a c := gm_r a b c
theorem xor_gm (a b c : UInt8) : gm (a ^^^ b) c = gm a c ^^^ gm b c := gm_l c a b

/-- The power of 254, as the program reckons it. -/
def inv (a : UInt8) : UInt8 :=
  let a2 := gm a a; let a4 := gm a2 a2; let a8 := gm a4 a4; let a16 := gm a8 a8; let a32 := gm a16 a16; let a64 := gm a32 a32; let a128 := gm a64 a64
  gm (gm (gm (gm (gm (gm (gm 1 a2) a4) a8) a16) a32) a64) a128
theorem gm_inv {a : UInt8} (h : a ≠ 0) : gm a (inv a) = 1 := by
  have := all8_ok (p := fun a => a == 0 || gm a (inv a) == 1) (by decide +kernel) a
  simpa [h] using this
theorem inv_gm {a : UInt8} (h : a ≠ 0) : gm (inv a) a = 1 := by rw [gm_comm, gm_inv h]
theorem inv_zero : inv 0 = 0 := by decide +kernel
theorem gm_eq_zero {a b : UInt8} (h : gm a b = 0) : a = 0 ∨ b = 0 := by
  by_cases ha : a = 0
  · exact .inl ha
  · right
    rw [← one_gm b, ← inv_gm ha, gm_assoc, h, gm_zero]
theorem inv_ne {a : UInt8} (h : a ≠ 0) : inv a ≠ 0 := fun e => by
  have := gm_inv h
  rw [e, gm_zero] at this
  exact absurd this (by decide)
end Gf
end Go.AX
/- The program's product and inverse are the field's. -/
namespace Go.AX
open Go.AM
open Gf

theorem shr8_1 (a : UInt8) : shr8 a 1 = a >>> 1 := all8_eq (f := fun a => shr8 a 1) (g := fun a => a >>> 1) (by decide +kernel) a
theorem shl8_1 (a : UInt8) : shl8 a 1 = a <<< 1 := all8_eq (f := fun a => shl8 a 1) (g := fun a => a <<< 1) (by decide +kernel) a

theorem gm_step (a b : UInt8) : gm a b = sel (b &&& 1 == 1) a ^^^ gm (xt a) (b >>> 1) := by
  have l2 : ∀ b : UInt8, Gf.Add (fun a => sel (b &&& 1 == 1) a ^^^ gm (xt a) (b >>> 1)) := fun b => Gf.Add.xor (f := fun a => sel (b &&& 1 == 1) a) (sel_add _) (Gf.Add.comp (f := fun v => gm v (b >>> 1)) (gm_l _) Gf.Add.xt)
  have r2 : ∀ a : UInt8, Gf.Add (fun b => sel (b &&& 1 == 1) a ^^^ gm (xt a) (b >>> 1)) := fun a => by
    refine Gf.Add.xor (f := fun b => sel (b &&& 1 == 1) a) (fun x y => ?_) (Gf.Add.comp (f := fun v => gm (xt a) v) (gm_r _) Gf.Add.shr)
    show sel ((x ^^^ y) &&& 1 == 1) a = _
    rw [low_xor, sel_xor]
  refine Gf.Add.eq (f := fun a => gm a b) (g := fun a => sel (b &&& 1 == 1) a ^^^ gm (xt a) (b >>> 1)) (gm_l b) (l2 b) ?_ a
  have h : p2.all (fun x => p2.all fun y => gm x y == sel (y &&& 1 == 1) x ^^^ gm (xt x) (y >>> 1)) = true := by decide +kernel
  rw [List.all_eq_true] at h
  rw [List.all_eq_true]
  intro x hx
  have := Gf.Add.eq (f := fun b => gm x b) (g := fun b => sel (b &&& 1 == 1) x ^^^ gm (xt x) (b >>> 1)) (gm_r x) (r2 x) (h x hx) b
  simpa using this

theorem x_Mul (a b : UInt8) : X.gf_Mul a b = some (gm a b) := by
  unfold X.gf_Mul
  have key : run X.gf_Mul_s6 (a, b, (0 : UInt8)) = some (gm a b) := by
    refine run_is (gm a b) (fun s => s.2.2 ^^^ gm s.1 s.2.1 = gm a b) (fun s => s.2.1.toNat) (by simp) (by have := b.toNat_lt; simp only; omega) ?_
    rintro ⟨a', b', o⟩ hI
    simp only at hI
    unfold X.gf_Mul_s6
    simp only
    by_cases hb : b' = 0
    · right
      subst hb
      rw [gm_zero, UInt8.xor_zero] at hI
      simp [hI]
    · left
      rw [if_pos (by simpa using hb)]
      have hlt : (b' >>> 1).toNat < b'.toNat := by
        have := all8_ok (p := fun b => b == 0 || decide ((b >>> 1).toNat < b.toNat)) (by decide +kernel) b'
        simpa [hb] using this
      have hx : ∀ o', X.gf_Mul_j17 a' b' o' = some (.inl (xt a', b' >>> 1, o')) := by
        intro o'
        unfold X.gf_Mul_j17 X.gf_Mul_j14 xt
        rw [shl8_1, shr8_1]
        split <;> rfl
      refine ⟨(xt a', b' >>> 1, sel (b' &&& 1 == 1) a' ^^^ o), ?_, ?_, hlt⟩
      · cases hc : (b' &&& (1 : UInt8)) == (1 : UInt8) with
        | true => rw [if_pos rfl, hx]; simp [sel, UInt8.xor_comm]
        | false => rw [if_neg (by simp), hx]; simp [sel]
      · rw [gm_step a' b'] at hI
        rw [← hI, UInt8.xor_comm _ o, UInt8.xor_assoc]
  rw [key]; rfl

theorem x_Add (a b : UInt8) : X.gf_Add a b = some (a ^^^ b) := rfl

theorem x_power (a : UInt8) : X.gf_power a 254 = some (inv a) := by
  unfold X.gf_power
  have key : run X.gf_power_s6 (a, (254 : Int), (1 : UInt8)) = some (inv a) := by
    refine run_few 9 (by omega) ?_
    have e1 : shr64 254 1 = 127 := by decide +kernel
    have e2 : shr64 127 1 = 63 := by decide +kernel
    have e3 : shr64 63 1 = 31 := by decide +kernel
    have e4 : shr64 31 1 = 15 := by decide +kernel
    have e5 : shr64 15 1 = 7 := by decide +kernel
    have e6 : shr64 7 1 = 3 := by decide +kernel
    have e7 : shr64 3 1 = 1 := by decide +kernel
    have e8 : shr64 1 1 = 0 := by decide +kernel
    have f1 : and64 254 1 = 0 := by decide +kernel
    have f2 : and64 127 1 = 1 := by decide +kernel
    have f3 : and64 63 1 = 1 := by decide +kernel
    have f4 : and64 31 1 = 1 := by decide +kernel
    have f5 : and64 15 1 = 1 := by decide +kernel
    have f6 : and64 7 1 = 1 := by decide +kernel
    have f7 : and64 3 1 = 1 := by decide +kernel
    have f8 : and64 1 1 = 1 := by decide +kernel
    simp [iter, X.gf_power_s6, X.gf_power_j15, x_Mul, e1, e2, e3, e4, e5, e6, e7, e8, f1, f2, f3, f4, f5, f6, f7, f8, inv]
  rw [key]; rfl
theorem x_Inv (a : UInt8) : X.gf_Inv a = some (inv a) := by unfold X.gf_Inv; rw [x_power]; rfl
end Go.AX
/- Sums, rows and matrices over the field. -/
namespace Go.AX
namespace Gf

theorem xor_cancel {a b : UInt8} (h : a ^^^ b = 0) : a = b := by
  have : (a ^^^ b) ^^^ b = b := by rw [h, UInt8.zero_xor]
  rw [UInt8.xor_assoc, UInt8.xor_self, UInt8.xor_zero] at this
  exact this
/-- The sum of the first n. -/
def S : Nat → (Nat → UInt8) → UInt8
  | 0, _ => 0
  | n + 1, f => S n f ^^^ f n
theorem S_congr {f g : Nat → UInt8} : ∀ {n : Nat}, (∀ i, i < n → f i = g i) → S n f = S n g
  | 0, _ => rfl
  | n + 1, h => by
    show S n f ^^^ f n = S n g ^^^ g n
    rw [S_congr fun i hi => h i (by omega), h n (by omega)]
theorem S_zero {f : Nat → UInt8} {n : Nat} (h : ∀ i, i < n → f i = 0) : S n f = 0 := by
  induction n with
  | zero => rfl
  | succ n ih =>
    show S n f ^^^ f n = 0
    rw [ih fun i hi => h i (by omega), h n (by omega)]; rfl
theorem S_xor (f g : Nat → UInt8) : ∀ n, S n (fun i => f i ^^^ g i) = S n f ^^^ S n g
  | 0 => by simp [S]
  | n + 1 => by
    show S n (fun i => f i ^^^ g i) ^^^ (f n ^^^ g n) = (S n f ^^^ f n) ^^^ (S n g ^^^ g n)
    rw [S_xor f g n, x4]
theorem S_mul (c : UInt8) (f : Nat → UInt8) : ∀ n, gm c (S n f) = S n (fun i => gm c (f i))
  | 0 => gm_zero c
  | n + 1 => by
    show gm c (S n f ^^^ f n) = S n (fun i => gm c (f i)) ^^^ gm c (f n)
    rw [gm_xor, S_mul c f n]
theorem S_rmul (c : UInt8) (f : Nat → UInt8) (n : Nat) : gm (S n f) c = S n (fun i => gm (f i) c) := by
  rw [gm_comm, S_mul]
  exact S_congr fun i _ => gm_comm _ _
theorem S_swap (f : Nat → Nat → UInt8) (m : Nat) : ∀ n, S n (fun i => S m (fun j => f i j)) = S m (fun j => S n (fun i => f i j))
  | 0 => (S_zero fun _ _ => rfl).symm
  | n + 1 => by
    show S n (fun i => S m (fun j => f i j)) ^^^ S m (fun j => f n j) = S m (fun j => S n (fun i => f i j) ^^^ f n j)
    rw [S_swap f m n, S_xor]
theorem S_one (f : Nat → UInt8) (i : Nat) : ∀ n, S n (fun j => if j = i then f j else 0) = if i < n then f i else 0
  | 0 => rfl
  | n + 1 => by
    show S n (fun j => if j = i then f j else 0) ^^^ (if n = i then f n else 0) = _
    rw [S_one f i n]
    by_cases h : n = i
    · subst h; simp
    · rw [if_neg h, UInt8.xor_zero]
      by_cases h2 : i < n
      · rw [if_pos h2, if_pos (by omega)]
      · rw [if_neg h2, if_neg (by omega)]
/-- One of a sum apart. -/
theorem S_apart (f : Nat → UInt8) {i n : Nat} (h : i < n) : S n f = f i ^^^ S n (fun j => if j = i then 0 else f j) := by
  have := S_xor (fun j => if j = i then f j else 0) (fun j => if j = i then 0 else f j) n
  rw [S_one, if_pos h] at this
  rw [← this]
  refine S_congr fun j _ => ?_
  by_cases e : j = i
  · rw [if_pos e, if_pos e, UInt8.xor_zero]
  · rw [if_neg e, if_neg e, UInt8.zero_xor]

/-! ### rows -/
def e (r : List UInt8) (j : Nat) : UInt8 := r.getD j 0
def row (l : List (List UInt8)) (i : Nat) : List UInt8 := l.getD i []
def scl (r : List UInt8) (b : UInt8) : List UInt8 := tab r.length (fun j => gm (e r j) b)
def add (a b : List UInt8) : List UInt8 := tab a.length (fun j => e a j ^^^ e b j)
@[simp] theorem scl_len {r : List UInt8} {b : UInt8} : (scl r b).length = r.length := tab_len
@[simp] theorem add_len {a b : List UInt8} : (add a b).length = a.length := tab_len
theorem e_tab {n j : Nat} {g : Nat → UInt8} (h : j < n) : e (tab n g) j = g j := by unfold e; rw [tab_getD, if_pos h]
theorem e_scl {r : List UInt8} {b : UInt8} {j : Nat} : e (scl r b) j = gm (e r j) b := by
  by_cases h : j < r.length
  · exact e_tab h
  · have h1 : e (scl r b) j = 0 := by unfold e scl; rw [tab_getD, if_neg h]
    have h2 : e r j = 0 := by unfold e; rw [List.getD_eq_getElem?_getD, List.getElem?_eq_none (by omega)]; rfl
    rw [h1, h2, zero_gm]
theorem e_add {a b : List UInt8} {j : Nat} (h : j < a.length) : e (add a b) j = e a j ^^^ e b j := e_tab h
theorem getI_e {r : List UInt8} {j : Nat} (h : j < r.length) : getI r (j : Int) = some (e r j) := getI_getD 0 h
theorem getI_row {l : List (List UInt8)} {j : Nat} (h : j < l.length) : getI l (j : Int) = some (row l j) := getI_getD [] h
theorem row_tab {n j : Nat} {g : Nat → List UInt8} (h : j < n) : row (tab n g) j = g j := by unfold row; rw [tab_getD, if_pos h]
theorem row_mem {l : List (List UInt8)} {j : Nat} (h : j < l.length) : row l j ∈ l := by
  unfold row
  rw [List.getD_eq_getElem?_getD, List.getElem?_eq_getElem h]
  exact List.getElem_mem h
theorem mem_row {l : List (List UInt8)} {r : List UInt8} (h : r ∈ l) : ∃ j, j < l.length ∧ row l j = r := by
  obtain ⟨j, hj, rfl⟩ := List.getElem_of_mem h
  exact ⟨j, hj, by unfold row; rw [List.getD_eq_getElem?_getD, List.getElem?_eq_getElem hj]; rfl⟩
theorem row_ext {a b : List UInt8} (hl : a.length = b.length) (h : ∀ j, j < a.length → e a j = e b j) : a = b := list_ext_getD 0 hl h
theorem rows_ext {a b : List (List UInt8)} (hl : a.length = b.length) (h : ∀ j, j < a.length → row a j = row b j) : a = b := list_ext_getD [] hl h
theorem row_all (l : List (List UInt8)) : l = tab l.length (row l) := tab_all [] l
theorem e_all (r : List UInt8) : r = tab r.length (e r) := tab_all 0 r

/-! ### Gauss and Jordan -/
def piv (l : List (List UInt8)) (x : Nat) : Option Nat := (l.drop x).findIdx? (fun r => e r x != 0)
def swp (l : List (List UInt8)) (x p : Nat) : List (List UInt8) := (l.set x (row l p)).set p (row l x)
def elim (x : Nat) (q r : List UInt8) : List UInt8 := if e r x != 0 then add r (scl q (e r x)) else r
/-- The row that is made 1 in its place. -/
def lead (l : List (List UInt8)) (x p : Nat) : List UInt8 := scl (row l (x + p)) (inv (e (row l (x + p)) x))
def gjStep (l : List (List UInt8)) (x p : Nat) : List (List UInt8) := tab l.length (fun i => if i = x then lead l x p else elim x (lead l x p) (row (swp l x (x + p)) i))
def gj (l : List (List UInt8)) : Nat → Option (List (List UInt8))
  | 0 => some l
  | x + 1 => (gj l x).bind fun l' => (piv l' x).map (gjStep l' x)
theorem gj_none {l : List (List UInt8)} {i : Nat} (h : gj l i = none) : ∀ {j : Nat}, i ≤ j → gj l j = none
  | 0, hj => by have : i = 0 := by omega
                subst this; exact h
  | j + 1, hj => by
    rcases Nat.lt_or_ge i (j + 1) with h1 | h1
    · show (gj l j).bind _ = none
      rw [gj_none h (by omega)]; rfl
    · have : i = j + 1 := by omega
      rw [← this]; exact h
@[simp] theorem swp_len {l : List (List UInt8)} {x p : Nat} : (swp l x p).length = l.length := by simp [swp]
theorem row_swp {l : List (List UInt8)} {x p i : Nat} (hx : x < l.length) (hp : p < l.length) : row (swp l x p) i = if i = p then row l x else if i = x then row l p else row l i := by
  unfold row swp
  rw [set_getD (by simpa using hp), set_getD hx]
  rfl
@[simp] theorem gjStep_len {l : List (List UInt8)} {x p : Nat} : (gjStep l x p).length = l.length := tab_len
theorem piv_some {l : List (List UInt8)} {x p : Nat} (h : piv l x = some p) : x + p < l.length ∧ e (row l (x + p)) x ≠ 0 := by
  unfold piv at h
  rw [List.findIdx?_eq_some_iff_getElem] at h
  obtain ⟨h1, h2, _⟩ := h
  have h3 : x + p < l.length := by simp at h1; omega
  refine ⟨h3, ?_⟩
  have : (l.drop x)[p] = row l (x + p) := by
    unfold row
    rw [List.getElem_drop, List.getD_eq_getElem?_getD, List.getElem?_eq_getElem h3]; rfl
  rw [this] at h2
  simpa using h2
theorem piv_none {l : List (List UInt8)} {x : Nat} (h : piv l x = none) {i : Nat} (hx : x ≤ i) (hi : i < l.length) : e (row l i) x = 0 := by
  unfold piv at h
  rw [List.findIdx?_eq_none_iff] at h
  have := h (row l i) (by
    have : row l i = (l.drop x)[i - x]'(by simp; omega) := by
      unfold row
      rw [List.getElem_drop, List.getD_eq_getElem?_getD, List.getElem?_eq_getElem hi]
      simp [show x + (i - x) = i by omega]
    rw [this]
    exact List.getElem_mem _)
  simpa using this
theorem row_gjStep {l : List (List UInt8)} {x p i : Nat} (hi : i < l.length) : row (gjStep l x p) i = if i = x then lead l x p else elim x (lead l x p) (row (swp l x (x + p)) i) := row_tab hi
theorem elim_len {x : Nat} {q r : List UInt8} : (elim x q r).length = r.length := by unfold elim; split <;> simp

/-- All rows are so long. -/
def Wide (l : List (List UInt8)) (w : Nat) : Prop := ∀ r ∈ l, r.length = w
theorem swp_mem {l : List (List UInt8)} {x p : Nat} (hx : x < l.length) (hp : p < l.length) {i : Nat} (hi : i < l.length) : row (swp l x p) i ∈ l := by
  rw [row_swp hx hp]
  split
  · exact row_mem hx
  · split
    · exact row_mem hp
    · exact row_mem hi
theorem step_wide {l : List (List UInt8)} {w x p : Nat} (h : Wide l w) (hx : x < l.length) (hp : x + p < l.length) : Wide (gjStep l x p) w := by
  intro r hr
  obtain ⟨i, hi, rfl⟩ := mem_row hr
  rw [gjStep_len] at hi
  rw [row_gjStep hi]
  split
  · unfold lead; rw [scl_len]; exact h _ (row_mem hp)
  · rw [elim_len]; exact h _ (swp_mem hx hp hi)
theorem gj_shape {l : List (List UInt8)} {w : Nat} (h : Wide l w) : ∀ {i : Nat} {l' : List (List UInt8)}, i ≤ l.length → gj l i = some l' → l'.length = l.length ∧ Wide l' w
  | 0, l', _, e => by injection e with e; subst e; exact ⟨rfl, h⟩
  | i + 1, l', hi, e => by
    obtain ⟨l1, e1, e2⟩ := Option.bind_eq_some_iff.1 e
    obtain ⟨p, e3, rfl⟩ := Option.map_eq_some_iff.1 e2
    obtain ⟨q1, q2⟩ := gj_shape h (by omega) e1
    exact ⟨by rw [gjStep_len, q1], step_wide q2 (by omega) (piv_some e3).1⟩
end Gf
end Go.AX
/- What the functions of the package matrix compute. -/
namespace Go.AX
open Go.AM
open Gf

theorem wr_nat {a : Nat} (h : a ≤ 4000000000000000000) : wr (a : Int) = (a : Int) := wr_eq (by omega) (by omega)
theorem wr_add {a b : Nat} (h : a + b ≤ 4000000000000000000) : wr ((a : Int) + (b : Int)) = ((a + b : Nat) : Int) := by rw [wr_eq (by omega) (by omega)]; omega
theorem wr_inc {a : Nat} (h : a ≤ 4000000000000000000) : wr ((a : Int) + (1 : Int)) = ((a + 1 : Nat) : Int) := wr_succ (by omega)
theorem slc_from {α : Type} (xs : List α) (n : Nat) : slc xs (n : Int) (xs.length : Int) = xs.drop n := by
  unfold slc
  rw [Int.toNat_natCast, List.take_of_length_le]
  simp
theorem bind_s {α β : Type} (a : α) (f : α → Option β) : (some a).bind f = f a := rfl
theorem rep_tab (n : Nat) : List.replicate ((n : Int)).toNat (0 : UInt8) = tab n (fun _ => 0) := by rw [Int.toNat_natCast, tab_rep]

/-- A matrix and a column. -/
def app (m : List (List UInt8)) (v : List UInt8) : List UInt8 := tab m.length (fun i => S (row m i).length (fun j => gm (e (row m i) j) (e v j)))
theorem x_apply {m : List (List UInt8)} {v : List UInt8} (hm : m.length ≤ 200000000000000) (hv : v.length ≤ 200000000000000) (hr : ∀ r ∈ m, r.length ≤ v.length) : X.matrix_apply m v = some (app m v) := by
  unfold X.matrix_apply
  rw [need_is (by omega), bind_s, rep_tab]
  have key : run (X.matrix_apply_s9 m v) (tab m.length (fun _ => 0), (0 : Int)) = some (app m v) := by
    refine run_G0 (fun i => tab m.length (fun j => if j < i then S (row m j).length (fun k => gm (e (row m j) k) (e v k)) else 0)) (n := m.length) (by omega) (tab_congr fun i _ => by rw [if_neg (by omega)]) (fun i hi => ?_) ?_
    · unfold X.matrix_apply_s9
      simp only
      have hw := hr _ (row_mem hi)
      rw [if_pos (by simpa using hi), getI_row hi, bind_s]
      have inner : run (X.matrix_apply_s22 (row m i) (i : Int) v) (tab m.length (fun j => if j < i then S (row m j).length (fun k => gm (e (row m j) k) (e v k)) else 0), (0 : Int)) =
          some (tab m.length (fun j => if j < i + 1 then S (row m j).length (fun k => gm (e (row m j) k) (e v k)) else 0)) := by
        refine run_G0 (fun c => tab m.length (fun j => if j < i then S (row m j).length (fun k => gm (e (row m j) k) (e v k)) else if j = i then S c (fun k => gm (e (row m i) k) (e v k)) else 0)) (n := (row m i).length) (by omega)
          (tab_congr fun j _ => ?_) (fun c hc => ?_) ?_
        · by_cases h : j < i
          · rw [if_pos h, if_pos h]
          · rw [if_neg h, if_neg h]; split <;> rfl
        · unfold X.matrix_apply_s22
          simp only
          rw [if_pos (by simpa using hc), getI_e hc, bind_s, getI_tab hi, bind_s, getI_e (by omega : c < v.length), bind_s, x_Mul, bind_s, x_Add, bind_s, bind_s, wr_inc (by omega), Int.toNat_natCast, tab_set]
          refine congrArg (fun t => some (Sum.inl (t, _))) (tab_congr fun j _ => ?_)
          by_cases h : j = i
          · subst h
            simp only [Nat.lt_irrefl, if_true, if_false]; rfl
          · rw [if_neg h, if_neg h, if_neg h]
        · unfold X.matrix_apply_s22
          simp only
          rw [if_neg (by simp)]
          refine congrArg (fun t => some (Sum.inr t)) (tab_congr fun j _ => ?_)
          by_cases h : j < i
          · rw [if_pos h, if_pos (by omega)]
          · rw [if_neg h]
            by_cases h2 : j = i
            · subst h2; rw [if_pos rfl, if_pos (by omega)]
            · rw [if_neg h2, if_neg (by omega)]
      rw [inner, bind_s]
      unfold X.matrix_apply_e22
      rw [wr_inc (by omega)]
    · unfold X.matrix_apply_s9
      simp only
      rw [if_neg (by simp)]
      exact congrArg (fun t => some (Sum.inr t)) (tab_congr fun j hj => by rw [if_pos hj])
  rw [key]; rfl

/-! ### right matrices -/
def ixOf : Option Nat → Int
  | some i => i
  | none => -1
theorem x_IndexFunc {s : List (List UInt8)} {p : List UInt8 → Option Bool} (q : List UInt8 → Bool) (hp : ∀ a ∈ s, p a = some (q a)) (hs : s.length ≤ 4000000000000000000) : X.slices_IndexFunc_LLbyte_Lbyte s p = some (ixOf (s.findIdx? q)) := by
  unfold X.slices_IndexFunc_LLbyte_Lbyte
  have key : run (X.slices_IndexFunc_LLbyte_Lbyte_s6 s p) (0 : Int) = some (match s.findIdx? q with | some i => .inr (i : Int) | none => .inl ()) := by
    refine run_seE (a := 0) (n := s.length) (fun n => ∀ j (hj : j < s.length), j < n → q s[j] = false) (Nat.zero_le _) hs
      (fun j _ h => absurd h (by omega)) (fun n _ h hq => ?_) (fun hq => ?_)
    · unfold X.slices_IndexFunc_LLbyte_Lbyte_s6
      simp only
      rw [if_pos (by simpa using h), getI_nat h, bind_s, hp _ (List.getElem_mem h), bind_s]
      cases hc : q s[n] with
      | true =>
        right
        rw [if_pos rfl]
        have : s.findIdx? q = some n := by
          rw [List.findIdx?_eq_some_iff_getElem]
          exact ⟨h, hc, fun j hj => by simp [hq j (by omega) hj]⟩
        rw [this]
      | false =>
        left
        rw [if_neg (by simp), wr_inc (by omega)]
        refine ⟨rfl, fun j hj h => ?_⟩
        rcases Nat.lt_succ_iff_lt_or_eq.1 h with h | rfl
        · exact hq j hj h
        · exact hc
    · unfold X.slices_IndexFunc_LLbyte_Lbyte_s6
      simp only
      rw [if_neg (by simp)]
      have : s.findIdx? q = none := by
        rw [List.findIdx?_eq_none_iff]
        intro x hx
        obtain ⟨j, hj, rfl⟩ := List.getElem_of_mem hx
        exact hq j hj hj
      rw [this]
  rw [key]
  cases s.findIdx? q <;> rfl
theorem ixOf_ge {s : List (List UInt8)} {q : List UInt8 → Bool} : decide (ixOf (s.findIdx? q) ≥ (0 : Int)) = s.any q := by
  cases h : s.findIdx? q with
  | none =>
    rw [List.findIdx?_eq_none_iff] at h
    have : s.any q = false := by rw [List.any_eq_false]; intro x hx; simp [h x hx]
    rw [this]; rfl
  | some i =>
    rw [List.findIdx?_eq_some_iff_getElem] at h
    obtain ⟨h1, h2, _⟩ := h
    have : s.any q = true := by rw [List.any_eq_true]; exact ⟨_, List.getElem_mem h1, h2⟩
    rw [this]
    exact decide_eq_true (by show (0 : Int) ≤ (i : Int); omega)

def rightB (m : List (List UInt8)) : Bool := decide (1 ≤ m.length) && decide (m.length ≤ 255) && decide (1 ≤ (row m 0).length) && decide ((row m 0).length ≤ 255) && m.all (fun r => r.length == (row m 0).length)
theorem right_of {m : List (List UInt8)} (h : rightB m = true) : 1 ≤ m.length ∧ m.length ≤ 255 ∧ 1 ≤ (row m 0).length ∧ (row m 0).length ≤ 255 ∧ Wide m (row m 0).length := by
  unfold rightB at h
  simp only [Bool.and_eq_true, decide_eq_true_eq, List.all_eq_true, beq_iff_eq] at h
  obtain ⟨⟨⟨⟨h1, h2⟩, h3⟩, h4⟩, h5⟩ := h
  exact ⟨h1, h2, h3, h4, h5⟩
theorem right_if {m : List (List UInt8)} {w : Nat} (h1 : 1 ≤ m.length) (h2 : m.length ≤ 255) (h3 : 1 ≤ w) (h4 : w ≤ 255) (h5 : Wide m w) : rightB m = true := by
  have h0 : (row m 0).length = w := h5 _ (row_mem (by omega))
  unfold rightB
  rw [h0]
  simp only [Bool.and_eq_true, decide_eq_true_eq, List.all_eq_true, beq_iff_eq]
  exact ⟨⟨⟨⟨h1, h2⟩, h3⟩, h4⟩, h5⟩
/-- The part of the test that both have. -/
theorem right_pre {m : List (List UInt8)} {f : Option Bool} {b : Bool} (hf : 1 ≤ m.length → m.length ≤ 255 → 1 ≤ (row m 0).length → (row m 0).length ≤ 255 → f = some b) (hb : b = m.all (fun r => r.length == (row m 0).length)) :
    (((optG (!(((decide ((m.length : Int) < (1 : Int))) || (decide ((m.length : Int) > (255 : Int)))))) (getI m (0 : Int)))).bind fun e5 =>
    ((optG (!((((decide ((m.length : Int) < (1 : Int))) || (decide ((m.length : Int) > (255 : Int)))) || (decide ((e5.length : Int) < (1 : Int)))))) (getI m (0 : Int)))).bind fun e6 =>
    if ((((decide ((m.length : Int) < (1 : Int))) || (decide ((m.length : Int) > (255 : Int)))) || (decide ((e5.length : Int) < (1 : Int)))) || (decide ((e6.length : Int) > (255 : Int)))) then
      some false
    else f) = some (rightB m) := by
  unfold rightB
  by_cases h1 : 1 ≤ m.length
  · have g : getI m (0 : Int) = some (row m 0) := getI_row (j := 0) (by omega)
    rw [g]
    by_cases h2 : m.length ≤ 255
    · have e1 : decide ((m.length : Int) < 1) = false := by simp; omega
      have e2 : decide ((m.length : Int) > 255) = false := by simp; omega
      rw [e1, e2]
      simp only [Bool.or_false, Bool.not_false, optG_true, bind_s, Bool.false_or]
      by_cases h3 : 1 ≤ (row m 0).length
      · have e3 : decide (((row m 0).length : Int) < 1) = false := by simp; omega
        rw [e3]
        simp only [Bool.not_false, optG_true, bind_s, Bool.false_or]
        by_cases h4 : (row m 0).length ≤ 255
        · have e4 : decide (((row m 0).length : Int) > 255) = false := by simp; omega
          rw [e4, if_neg (by simp), hf h1 h2 h3 h4, hb]
          simp [h1, h2, h3, h4]
        · have e4 : decide (((row m 0).length : Int) > 255) = true := by simp; omega
          rw [e4, if_pos rfl]
          simp [h4]
      · have e3 : decide (((row m 0).length : Int) < 1) = true := by simp; omega
        rw [e3]
        simp [h3]
    · have e2 : decide ((m.length : Int) > 255) = true := by simp; omega
      rw [e2]
      simp [h2]
  · have e1 : decide ((m.length : Int) < 1) = true := by simp; omega
    rw [e1]
    simp [h1]
theorem x_Right (m : List (List UInt8)) : X.matrix_Right m = some (rightB m) := by
  unfold X.matrix_Right
  refine right_pre (b := !(m.any fun r => (r.length : Int) != ((row m 0).length : Int))) (fun h1 h2 h3 h4 => ?_) ?_
  · unfold X.slices_ContainsFunc_LLbyte_Lbyte
    rw [x_IndexFunc (fun r => (r.length : Int) != ((row m 0).length : Int)) (fun a _ => ?_) (by omega), bind_s, bind_s, ixOf_ge]
    unfold X.matrix_Right_c1
    rw [show getI m (0 : Int) = some (row m 0) from getI_row (j := 0) (by omega), bind_s]
  · rw [List.not_any_eq_all_not]
    congr 1
    funext r
    simp only [bne, Bool.not_not]
    rw [Bool.eq_iff_iff]
    simp only [beq_iff_eq]
    omega
end Go.AX
/- A matrix and a column, if they fit. -/
namespace Go.AX
open Go.AM
open Gf

def appG (m : List (List UInt8)) (v : List UInt8) : List UInt8 × Int := if rightB m && (v.length == (row m 0).length) then (app m v, 0) else ([], 1)
theorem x_Apply (m : List (List UInt8)) (v : List UInt8) : X.matrix_Apply m v = some (appG m v) := by
  unfold X.matrix_Apply appG
  rw [x_Right, bind_s]
  cases hr : rightB m with
  | false => simp
  | true =>
    obtain ⟨h1, h2, h3, h4, h5⟩ := right_of hr
    rw [show getI m (0 : Int) = some (row m 0) from getI_row (j := 0) (by omega)]
    simp only [Bool.not_true, Bool.not_false, optG_true, bind_s, Bool.false_or, Bool.true_and]
    by_cases hv : v.length = (row m 0).length
    · rw [if_neg (by simp only [bne_iff_ne, ne_eq]; omega), if_pos (by simpa using hv), x_apply (by omega) (by omega) (fun r hr => by rw [h5 r hr]; omega), bind_s]
    · rw [if_pos (by simp only [bne_iff_ne, ne_eq]; omega), if_neg (by simpa using hv)]

end Go.AX
/- Lists of rows that are one. -/
namespace Go.AX
open Go.AM
open Gf

theorem x_Same {a b : List (List UInt8)} (ha : a.length ≤ 1000000000000) : X.cartridgeref1_SameRows a b = some (decide (a = b)) := by
  unfold X.cartridgeref1_SameRows
  by_cases hl : a.length = b.length
  · rw [if_neg (by simp only [bne_iff_ne, ne_eq]; omega)]
    have key : run (X.cartridgeref1_SameRows_s9 a b) (((0 : Nat) : Nat) : Int) = some (if a = b then .inl () else .inr false) := by
      refine run_seE (n := a.length) (fun n => ∀ j, j < n → row a j = row b j) (Nat.zero_le _) (by omega) (fun j h => by omega) (fun i _ hi hI => ?_) (fun hI => ?_)
      · unfold X.cartridgeref1_SameRows_s9
        simp only
        rw [if_pos (by simpa using hi), getI_row hi, bind_s, getI_row (by omega), bind_s]
        by_cases hc : row a i = row b i
        · left
          rw [hc, if_neg (by simp), wr_inc (by omega)]
          refine ⟨rfl, fun j hj => ?_⟩
          rcases Nat.lt_succ_iff_lt_or_eq.1 hj with h | rfl
          · exact hI j h
          · exact hc
        · right
          rw [if_pos (by simpa using hc), if_neg (fun h => hc (by rw [h]))]
      · unfold X.cartridgeref1_SameRows_s9
        simp only
        rw [if_neg (by simp), if_pos (rows_ext hl fun j hj => hI j hj)]
    rw [show (0 : Int) = ((0 : Nat) : Int) from rfl, key, bind_s]
    by_cases h : a = b
    · rw [if_pos h, decide_eq_true h]; rfl
    · rw [if_neg h, decide_eq_false h]
  · rw [if_pos (by simp only [bne_iff_ne, ne_eq]; omega), decide_eq_false fun h => hl (by rw [h])]

end Go.AX
/- What a Cauchy is, and that its square parts take no columns to none. -/
namespace Go.AX
open Go.AM
open Gf

namespace Gf
def pw (a : UInt8) : Nat → UInt8
  | 0 => 1
  | n + 1 => gm (pw a n) a
theorem pw_add (a : UInt8) (m : Nat) : ∀ n, pw a (m + n) = gm (pw a m) (pw a n)
  | 0 => (gm_one _).symm
  | n + 1 => by
    show gm (pw a (m + n)) a = gm (pw a m) (gm (pw a n) a)
    rw [pw_add a m n, gm_assoc]
theorem inv_pw (a : UInt8) : inv a = pw a 254 := by
  have h2 : gm a a = pw a 2 := by show _ = gm (gm 1 a) a; rw [one_gm]
  have d : ∀ n, gm (pw a n) (pw a n) = pw a (n + n) := fun n => (pw_add a n n).symm
  have c : ∀ m n, gm (pw a m) (pw a n) = pw a (m + n) := fun m n => (pw_add a m n).symm
  unfold inv
  simp only [h2, d, c, one_gm]
theorem two_parts {p q ip iq : UInt8} (a1 : gm p ip = 1) (a2 : gm q iq = 1) (t w : UInt8) : gm (p ^^^ t) (gm ip w) ^^^ gm (q ^^^ t) (gm iq w) = gm (p ^^^ q) (gm ip (gm (gm t iq) w)) := by
  have c1 : gm (p ^^^ t) (gm ip w) = w ^^^ gm t (gm ip w) := by rw [xor_gm, ← gm_assoc p, a1, one_gm]
  have c2 : gm (q ^^^ t) (gm iq w) = w ^^^ gm t (gm iq w) := by rw [xor_gm, ← gm_assoc q, a2, one_gm]
  have c3 : gm p (gm ip (gm (gm t iq) w)) = gm t (gm iq w) := by rw [← gm_assoc p, a1, one_gm, gm_assoc]
  have c4 : gm q (gm ip (gm (gm t iq) w)) = gm t (gm ip w) := by
    have h1 : gm ip (gm (gm t iq) w) = gm iq (gm t (gm ip w)) := by
      rw [gm_comm t iq, gm_assoc iq, ← gm_assoc ip, gm_comm ip iq, gm_assoc iq, ← gm_assoc ip t, gm_comm ip t, gm_assoc t]
    rw [h1, ← gm_assoc q, a2, one_gm]
  rw [c1, c2, xor_gm, c3, c4, x4, UInt8.xor_self, UInt8.zero_xor, UInt8.xor_comm]
/-- Sums of inverses that are all none. -/
theorem cauchy_none : ∀ (n : Nat) (x y d : Nat → UInt8), (∀ i j, i < n → j < n → x i = x j → i = j) → (∀ i j, i < n → j < n → y i = y j → i = j) → (∀ i j, i < n → j < n → x i ≠ y j) →
    (∀ i, i < n → S n (fun j => gm (inv (x i ^^^ y j)) (d j)) = 0) → ∀ j, j < n → d j = 0
  | 0, _, _, _, _, _, _, _, j, hj => by omega
  | n + 1, x, y, d, hx, hy, hxy, h, j, hj => by
    have ne : ∀ {a b : UInt8}, a ≠ b → a ^^^ b ≠ 0 := fun h e => h (xor_cancel e)
    have hne : ∀ i j, i < n + 1 → j < n + 1 → x i ^^^ y j ≠ 0 := fun i j hi hj => ne (hxy i j hi hj)
    -- the last is taken out
    have h1 : ∀ i, i < n → S n (fun j => gm (inv (x i ^^^ y j)) (gm (gm (y n ^^^ y j) (inv (x n ^^^ y j))) (d j))) = 0 := fun i hi => by
      have e1 : gm (x i ^^^ y n) (S (n + 1) (fun j => gm (inv (x i ^^^ y j)) (d j))) ^^^ gm (x n ^^^ y n) (S (n + 1) (fun j => gm (inv (x n ^^^ y j)) (d j))) = 0 := by
        rw [h i (by omega), h n (by omega), gm_zero, gm_zero]; rfl
      rw [S_mul, S_mul, ← S_xor] at e1
      have e2 : ∀ j, j < n + 1 → gm (x i ^^^ y n) (gm (inv (x i ^^^ y j)) (d j)) ^^^ gm (x n ^^^ y n) (gm (inv (x n ^^^ y j)) (d j)) =
          gm (x i ^^^ x n) (gm (inv (x i ^^^ y j)) (gm (gm (y n ^^^ y j) (inv (x n ^^^ y j))) (d j))) := fun j hj => by
        have a1 := gm_inv (hne i j (by omega) hj)
        have a2 := gm_inv (hne n j (by omega) hj)
        have b1 : x i ^^^ y n = (x i ^^^ y j) ^^^ (y n ^^^ y j) := by rw [x4, UInt8.xor_self, UInt8.xor_zero]
        have b2 : x n ^^^ y n = (x n ^^^ y j) ^^^ (y n ^^^ y j) := by rw [x4, UInt8.xor_self, UInt8.xor_zero]
        have b3 : x i ^^^ x n = (x i ^^^ y j) ^^^ (x n ^^^ y j) := by rw [x4, UInt8.xor_self, UInt8.xor_zero]
        rw [b1, b2, b3]
        exact two_parts a1 a2 _ _
      rw [S_congr e2, ← S_mul] at e1
      rcases gm_eq_zero e1 with h3 | h3
      · exact absurd (hx i n (by omega) (by omega) (xor_cancel h3)) (by omega)
      · have h4 : S n (fun j => gm (inv (x i ^^^ y j)) (gm (gm (y n ^^^ y j) (inv (x n ^^^ y j))) (d j))) ^^^ gm (inv (x i ^^^ y n)) (gm (gm (y n ^^^ y n) (inv (x n ^^^ y n))) (d n)) = 0 := h3
        rw [UInt8.xor_self, zero_gm, zero_gm, gm_zero, UInt8.xor_zero] at h4
        exact h4
    have ih := cauchy_none n x y (fun j => gm (gm (y n ^^^ y j) (inv (x n ^^^ y j))) (d j)) (fun i j hi hj => hx i j (by omega) (by omega)) (fun i j hi hj => hy i j (by omega) (by omega)) (fun i j hi hj => hxy i j (by omega) (by omega)) h1
    have low : ∀ j, j < n → d j = 0 := fun j hj => by
      rcases gm_eq_zero (ih j hj) with h3 | h3
      · rcases gm_eq_zero h3 with h4 | h4
        · exact absurd (hy n j (by omega) (by omega) (xor_cancel h4)) (by omega)
        · exact absurd h4 (inv_ne (hne n j (by omega) (by omega)))
      · exact h3
    rcases Nat.lt_succ_iff_lt_or_eq.1 hj with hj | rfl
    · exact low j hj
    · have h5 : S j (fun k => gm (inv (x j ^^^ y k)) (d k)) ^^^ gm (inv (x j ^^^ y j)) (d j) = 0 := h j (by omega)
      rw [S_zero fun k hk => by rw [low k hk, gm_zero], UInt8.zero_xor] at h5
      rcases gm_eq_zero h5 with h6 | h6
      · exact absurd h6 (inv_ne (hne j j (by omega) (by omega)))
      · exact h6
end Gf

def bt (n : Nat) : UInt8 := UInt8.ofNat n
theorem u8_bt (n : Nat) : u8 (n : Int) = bt n := by
  unfold u8 bt
  rw [← UInt8.toNat_inj, UInt8.toNat_ofNat', UInt8.toNat_ofNat']
  omega
theorem bt_inj {a b : Nat} (ha : a < 256) (hb : b < 256) (h : bt a = bt b) : a = b := by
  have := congrArg UInt8.toNat h
  unfold bt at this
  rw [UInt8.toNat_ofNat', UInt8.toNat_ofNat'] at this
  omega
/-- The Cauchy matrix. -/
def cau (data parity : Nat) : List (List UInt8) := tab parity (fun i => tab data (fun k => inv (bt i ^^^ bt (parity + k))))
def cauG (data parity : Int) : List (List UInt8) × Int := if 1 ≤ data ∧ 1 ≤ parity ∧ data + parity ≤ 255 then (cau data.toNat parity.toNat, 0) else ([], 1)
theorem x_Cauchy (data parity : Int) (hd : -9223372036854775808 ≤ data ∧ data ≤ 9223372036854775807) (hp : -9223372036854775808 ≤ parity ∧ parity ≤ 9223372036854775807) : X.matrix_Cauchy data parity = some (cauG data parity) := by
  unfold X.matrix_Cauchy cauG
  by_cases h : 1 ≤ data ∧ 1 ≤ parity ∧ data + parity ≤ 255
  · rw [if_pos h, if_neg (by
      rw [wr_eq (by omega) (by omega)]
      simp only [Bool.or_eq_true, decide_eq_true_eq]; omega)]
    obtain ⟨n, rfl⟩ := Int.eq_ofNat_of_zero_le (by omega : 0 ≤ data)
    obtain ⟨p, rfl⟩ := Int.eq_ofNat_of_zero_le (by omega : 0 ≤ parity)
    have key : run (X.matrix_Cauchy_s11 (p : Int) (n : Int)) (([] : List (List UInt8)), (0 : Int)) = some (cau n p) := by
      refine run_G0 (fun i => tab i (fun i => tab n (fun k => inv (bt i ^^^ bt (p + k))))) (n := p) (by omega) rfl (fun i hi => ?_) ?_
      · unfold X.matrix_Cauchy_s11
        simp only
        have inner : run (X.matrix_Cauchy_s26 (n : Int) (i : Int) (p : Int)) (([] : List UInt8), (0 : Int)) = some (tab n (fun k => inv (bt i ^^^ bt (p + k)))) := by
          refine run_G0 (fun c => tab c (fun k => inv (bt i ^^^ bt (p + k)))) (n := n) (by omega) rfl (fun c hc => ?_) ?_
          · unfold X.matrix_Cauchy_s26
            simp only
            rw [if_pos (by simpa using hc), wr_add (by omega), u8_bt, u8_bt, x_Add, bind_s, x_Inv, bind_s, need_is (by simp; omega), bind_s, wr_inc (by omega), tab_succ]
          · unfold X.matrix_Cauchy_s26
            simp only
            rw [if_neg (by simp)]
        rw [if_pos (by simpa using hi), inner, bind_s]
        unfold X.matrix_Cauchy_e26
        rw [need_is (by simp; omega), bind_s, wr_inc (by omega), tab_succ]
      · unfold X.matrix_Cauchy_s11
        simp only
        rw [if_neg (by simp)]; rfl
    show (run (X.matrix_Cauchy_s11 (p : Int) (n : Int)) (([] : List (List UInt8)), (0 : Int))).bind _ = _
    rw [key]; rfl
  · rw [if_neg h]
    split
    · rfl
    · rename_i hc
      exfalso
      simp only [Bool.or_eq_true, decide_eq_true_eq, not_or] at hc
      obtain ⟨⟨⟨c1, c2⟩, c3⟩, c4⟩ := hc
      rw [wr_eq (by omega) (by omega)] at c4
      omega
end Go.AX
/- What parity is. -/
namespace Go.AX
open Go.AM
open Gf

/-- What a matrix makes of rows, byte by byte. -/
def reck (m l : List (List UInt8)) (w : Nat) : List (List UInt8) := tab m.length (fun i => tab w (fun c => S l.length (fun k => gm (e (row m i) k) (e (row l k) c))))
theorem x_reckon {m l : List (List UInt8)} {w : Nat} (hr : rightB m = true) (hm : (row m 0).length = l.length) (hw : Wide l w) (hw2 : w ≤ 1000000) : X.erasure_reckon m l = some (reck m l w) := by
  obtain ⟨a1, a2, a3, a4, a5⟩ := right_of hr
  have hl0 : (row l 0).length = w := hw _ (row_mem (by omega))
  unfold X.erasure_reckon
  rw [need_is (by omega), bind_s, show getI l (0 : Int) = some (row l 0) from getI_row (j := 0) (by omega), bind_s, Int.toNat_natCast]
  have key : run (X.erasure_reckon_s10 (row l 0) l m) (List.replicate m.length ([] : List UInt8), (0 : Int)) = some (reck m l w) := by
    refine run_G0 (fun c => reck m l c) (n := w) (by omega) (by rw [tab_rep]; rfl) (fun c hc => ?_) ?_
    · unfold X.erasure_reckon_s10
      simp only
      have k1 : run (X.erasure_reckon_s25 l (c : Int)) (([] : List UInt8), (0 : Int)) = some (tab l.length (fun k => e (row l k) c)) := by
        refine run_G0 (fun i => tab i (fun k => e (row l k) c)) (n := l.length) (by omega) rfl (fun i hi => ?_) ?_
        · unfold X.erasure_reckon_s25
          simp only
          rw [if_pos (by simpa using hi), getI_row hi, bind_s, getI_e (by rw [hw _ (row_mem hi)]; exact hc), bind_s, need_is (by simp; omega), bind_s, wr_inc (by omega), tab_succ]
        · unfold X.erasure_reckon_s25
          simp only
          rw [if_neg (by simp)]
      rw [if_pos (by simp only [decide_eq_true_eq]; omega), k1, bind_s]
      show X.erasure_reckon_e25 m (reck m l c) (c : Int) (tab l.length (fun k => e (row l k) c)) = _
      unfold X.erasure_reckon_e25
      have hap : appG m (tab l.length (fun k => e (row l k) c)) = (tab m.length (fun i => S l.length (fun k => gm (e (row m i) k) (e (row l k) c))), 0) := by
        unfold appG
        rw [hr, if_pos (by simp [hm])]
        refine congrArg (fun t => (t, (0 : Int))) ?_
        unfold app
        refine tab_congr fun i hi => ?_
        rw [a5 _ (row_mem hi), hm]
        exact S_congr fun k hk => by rw [e_tab hk]
      rw [x_Apply, bind_s, hap]
      have k2 : run (X.erasure_reckon_s36 (tab m.length (fun i => S l.length (fun k => gm (e (row m i) k) (e (row l k) c))), ((0 : Nat) : Int))) (reck m l c, (0 : Int)) = some (reck m l (c + 1)) := by
        refine run_G0 (fun t => tab m.length (fun i => tab (if i < t then c + 1 else c) (fun c => S l.length (fun k => gm (e (row m i) k) (e (row l k) c))))) (n := m.length) (by omega) (tab_congr fun i _ => by rw [if_neg (by omega)]) (fun t ht => ?_) ?_
        · unfold X.erasure_reckon_s36
          simp only
          rw [if_pos (by simpa using ht), getI_tab ht, bind_s, getI_tab ht, bind_s, if_neg (by omega), need_is (by simp; omega), bind_s, bind_s, wr_inc (by omega), Int.toNat_natCast, tab_set]
          refine congrArg (fun t => some (Sum.inl (t, _))) (tab_congr fun i _ => ?_)
          by_cases h : i = t
          · subst h
            rw [if_pos rfl, if_pos (by omega), tab_succ]
          · rw [if_neg h]
            by_cases h2 : i < t
            · rw [if_pos h2, if_pos (by omega)]
            · rw [if_neg h2, if_neg (by omega)]
        · unfold X.erasure_reckon_s36
          simp only
          rw [if_neg (by simp)]
          exact congrArg (fun t => some (Sum.inr t)) (tab_congr fun i hi => by rw [if_pos hi])
      show (run (X.erasure_reckon_s36 (tab m.length (fun i => S l.length (fun k => gm (e (row m i) k) (e (row l k) c))), ((0 : Nat) : Int))) (reck m l c, (0 : Int))).bind _ = _
      rw [k2, bind_s]
      show X.erasure_reckon_e36 (c : Int) _ = _
      unfold X.erasure_reckon_e36
      rw [wr_inc (by omega)]
    · unfold X.erasure_reckon_s10
      simp only
      rw [if_neg (by simp only [decide_eq_true_eq]; omega)]
  rw [key]; rfl
theorem reck_len {m l : List (List UInt8)} {w : Nat} : (reck m l w).length = m.length := tab_len
theorem reck_wide {m l : List (List UInt8)} {w : Nat} : Wide (reck m l w) w := by
  intro r hr
  obtain ⟨i, _, rfl⟩ := mem_tab.1 hr
  exact tab_len
theorem e_reck {m l : List (List UInt8)} {w i c : Nat} (hi : i < m.length) (hc : c < w) : e (row (reck m l w) i) c = S l.length (fun k => gm (e (row m i) k) (e (row l k) c)) := by
  unfold reck
  rw [row_tab hi, e_tab hc]

def alikeB (l : List (List UInt8)) : Bool := l.all (fun r => r.length == (row l 0).length)
theorem alike_of {l : List (List UInt8)} (h : alikeB l = true) : Wide l (row l 0).length := by
  unfold alikeB at h
  simp only [List.all_eq_true, beq_iff_eq] at h
  exact h
theorem alike_if {l : List (List UInt8)} {w : Nat} (h : Wide l w) : alikeB l = true := by
  unfold alikeB
  simp only [List.all_eq_true, beq_iff_eq]
  intro r hr
  obtain ⟨j, hj, _⟩ := mem_row hr
  rw [h r hr, h _ (row_mem (show 0 < l.length by omega))]
theorem x_alike {l : List (List UInt8)} (hl : l.length ≤ 1000000000) : X.erasure_alike l = some (alikeB l) := by
  unfold X.erasure_alike X.slices_ContainsFunc_LLbyte_Lbyte
  rw [x_IndexFunc (fun r => (r.length : Int) != ((row l 0).length : Int)) (fun a ha => ?_) (by omega), bind_s, bind_s, ixOf_ge]
  · unfold alikeB
    rw [List.not_any_eq_all_not]
    congr 2
    funext r
    simp only [bne, Bool.not_not]
    rw [Bool.eq_iff_iff]
    simp only [beq_iff_eq]
    omega
  · unfold X.erasure_alike_c1
    obtain ⟨j, hj, _⟩ := mem_row ha
    rw [show getI l (0 : Int) = some (row l 0) from getI_row (j := 0) (by omega), bind_s]

theorem cau_len {n p : Nat} : (cau n p).length = p := tab_len
theorem cau_wide {n p : Nat} : Wide (cau n p) n := by
  intro r hr
  obtain ⟨i, _, rfl⟩ := mem_tab.1 hr
  exact tab_len
theorem cau_row2 {n p i : Nat} (hi : i < p) : row (cau n p) i = tab n (fun k => inv (bt i ^^^ bt (p + k))) := row_tab hi
theorem cau_right {n p : Nat} (h1 : 1 ≤ n) (h2 : 1 ≤ p) (h3 : n + p ≤ 255) : rightB (cau n p) = true := right_if (by rw [cau_len]; omega) (by rw [cau_len]; omega) h1 (by omega) cau_wide
/-- Parity, and whether there can be some. -/
def encG (l : List (List UInt8)) (p : Int) : List (List UInt8) × Int :=
  if 1 ≤ l.length ∧ 0 ≤ p ∧ l.length + p ≤ 255 ∧ alikeB l = true then (if p = 0 then ([], 0) else (reck (cau l.length p.toNat) l (row l 0).length, 0)) else ([], 1)
theorem x_Encode (l : List (List UInt8)) (p : Int) (hl : ∀ r ∈ l, r.length ≤ 1000000) (hp : -9223372036854775808 ≤ p ∧ p ≤ 9223372036854775807) : X.erasure_Encode l p = some (encG l p) := by
  unfold X.erasure_Encode
  by_cases h : 1 ≤ l.length ∧ l.length ≤ 255 ∧ 0 ≤ p ∧ l.length + p ≤ 255
  · obtain ⟨h1, h2, h3, h4⟩ := h
    have e1 : wr (255 - (l.length : Int)) = 255 - l.length := wr_eq (by omega) (by omega)
    have b1 : decide ((l.length : Int) < 1) = false := by simp; omega
    have b2 : decide ((l.length : Int) > 255) = false := by simp; omega
    have b3 : decide (p < 0) = false := by simp; omega
    have b4 : decide (p > 255 - (l.length : Int)) = false := by simp; omega
    rw [e1, b1, b2, b3, b4]
    simp only [Bool.or_false, Bool.not_false, optG_true, Bool.false_or]
    rw [x_alike (by omega), bind_s]
    cases ha : alikeB l with
    | false =>
      have hE : encG l p = ([], 1) := if_neg (by rw [ha]; simp)
      rw [hE]; rfl
    | true =>
      simp only [Bool.not_true, Bool.false_eq_true, if_false]
      have hE : encG l p = (if p = 0 then ([], 0) else (reck (cau l.length p.toNat) l (row l 0).length, 0)) := if_pos ⟨h1, h3, h4, ha⟩
      rw [hE]
      by_cases hp0 : p = 0
      · have : (p == 0) = true := by simpa using hp0
        rw [this, if_pos hp0]; rfl
      · have : (p == 0) = false := by simpa using hp0
        rw [this, if_neg hp0, if_neg (by simp), x_Cauchy _ _ (by omega) (by omega), bind_s]
        have hC : cauG (l.length : Int) p = (cau l.length p.toNat, 0) := if_pos ⟨by omega, by omega, by omega⟩
        rw [hC]
        simp only [bne_self_eq_false, Bool.false_eq_true, if_false]
        have hw := alike_of ha
        rw [x_reckon (cau_right h1 (by omega) (by omega)) (by rw [cau_wide _ (row_mem (by rw [cau_len]; omega))]) hw (hl _ (row_mem (by omega))), bind_s]
  · have hE : encG l p = ([], 1) := if_neg (fun hh => h ⟨hh.1, by omega, hh.2.1, hh.2.2.1⟩)
    rw [hE]
    have hc : ((((decide ((l.length : Int) < (1 : Int))) || (decide ((l.length : Int) > (255 : Int)))) || (decide (p < (0 : Int)))) || (decide (p > (wr ((255 : Int) - (l.length : Int)))))) = true := by
      simp only [Bool.or_eq_true, decide_eq_true_eq]
      by_cases h2 : l.length ≤ 255
      · rw [wr_eq (by omega) (by omega)]; omega
      · left; left; right; omega
    rw [hc]
    simp
end Go.AX
/- The document's product is the field's. -/
namespace Go.AX
open Go.AM
open Gf

theorem nat64 {x y : Nat} (hx : x < 9223372036854775808) (hy : y < 9223372036854775808) : and64 (x : Int) (y : Int) = ((x &&& y : Nat) : Int) ∧ xor64 (x : Int) (y : Int) = ((x ^^^ y : Nat) : Int) := by
  have e : ∀ z : Nat, z < 9223372036854775808 → BitVec.ofInt 64 (z : Int) = BitVec.ofNat 64 z := fun z _ => by
    exact BitVec.ofInt_natCast ..
  have ha : x &&& y < 9223372036854775808 := Nat.and_lt_two_pow (n := 63) x hy
  have hb : x ^^^ y < 9223372036854775808 := Nat.xor_lt_two_pow (n := 63) hx hy
  refine ⟨?_, ?_⟩
  · show IntKind.i64.wrap ((BitVec.ofInt 64 (x : Int) &&& BitVec.ofInt 64 (y : Int)).toNat : Int) = _
    rw [e x hx, e y hy]
    have : (BitVec.ofNat 64 x &&& BitVec.ofNat 64 y).toNat = x &&& y := by
      rw [BitVec.toNat_and, BitVec.toNat_ofNat, BitVec.toNat_ofNat, Nat.mod_eq_of_lt (by omega), Nat.mod_eq_of_lt (by omega)]
    rw [this]
    exact w64 (by omega) (by omega)
  · show IntKind.i64.wrap ((BitVec.ofInt 64 (x : Int) ^^^ BitVec.ofInt 64 (y : Int)).toNat : Int) = _
    rw [e x hx, e y hy]
    have : (BitVec.ofNat 64 x ^^^ BitVec.ofNat 64 y).toNat = x ^^^ y := by
      rw [BitVec.toNat_xor, BitVec.toNat_ofNat, BitVec.toNat_ofNat, Nat.mod_eq_of_lt (by omega), Nat.mod_eq_of_lt (by omega)]
    rw [this]
    exact w64 (by omega) (by omega)
theorem shr64_nat {x k : Nat} (hk : k ≤ 64) : shr64 (x : Int) (k : Int) = ((x >>> k : Nat) : Int) := by
  unfold shr64
  rw [Int.toNat_natCast, Nat.min_eq_left hk, Nat.shiftRight_eq_div_pow]
  have : ((2 : Int) ^ k) = ((2 ^ k : Nat) : Int) := by simp
  rw [this, Int.fdiv_eq_ediv_of_nonneg _ (Int.natCast_nonneg _), ← Int.natCast_ediv]
theorem shl64_nat {x k : Nat} (hk : k ≤ 64) (h : x <<< k < 9223372036854775808) : shl64 (x : Int) (k : Int) = ((x <<< k : Nat) : Int) := by
  unfold shl64
  rw [Int.toNat_natCast, Nat.min_eq_left hk]
  have : (x : Int) * (2 : Int) ^ k = ((x <<< k : Nat) : Int) := by rw [Nat.shiftLeft_eq]; simp
  rw [this]
  generalize x <<< k = z at h ⊢
  exact w64 (by omega) (by omega)
theorem u64_nat' {k : Nat} (h : k < 1000) : (u64 (k : Int)).toNat = k := by
  unfold u64
  rw [UInt64.toNat_ofNat']
  omega

def mulA (a : Nat) (b : UInt8) : Nat → Nat
  | 0 => 0
  | n + 1 => mulA a b n ^^^ (if bit b n then a <<< n else 0)
def redA (x : Nat) : Nat → Nat
  | 0 => x
  | n + 1 => redA x n ^^^ (if (redA x n).testBit (14 - n) then 285 <<< (6 - n) else 0)
def refMul (a b : UInt8) : UInt8 := UInt8.ofNat (redA (mulA a.toNat b 8) 7)
theorem refMul_rows : (p2.all fun b => all8 fun a => refMul a b == gm a b) = true := by decide +kernel
theorem xor4 (a b c d : Nat) : (a ^^^ b) ^^^ (c ^^^ d) = (a ^^^ c) ^^^ (b ^^^ d) := by
  rw [Nat.xor_assoc, Nat.xor_assoc, ← Nat.xor_assoc b c d, ← Nat.xor_assoc c b d, Nat.xor_comm b c]
theorem ite_xor (c d : Bool) (v : Nat) : (if (c ^^ d) = true then v else 0) = (if c = true then v else 0) ^^^ (if d = true then v else 0) := by
  cases c <;> cases d <;> simp
theorem bit_xor (x y : UInt8) (i : Nat) : bit (x ^^^ y) i = (bit x i ^^ bit y i) := by
  unfold bit
  rw [UInt8.shiftRight_xor, low_xor]
theorem mulA_xor (a : Nat) (x y : UInt8) : ∀ n, mulA a (x ^^^ y) n = mulA a x n ^^^ mulA a y n
  | 0 => by simp [mulA]
  | n + 1 => by
    show mulA a (x ^^^ y) n ^^^ _ = (mulA a x n ^^^ _) ^^^ (mulA a y n ^^^ _)
    rw [mulA_xor a x y n, bit_xor, ite_xor, xor4]
theorem redA_xor (x y : Nat) : ∀ n, redA (x ^^^ y) n = redA x n ^^^ redA y n
  | 0 => rfl
  | n + 1 => by
    show redA (x ^^^ y) n ^^^ _ = (redA x n ^^^ _) ^^^ (redA y n ^^^ _)
    rw [redA_xor x y n, Nat.testBit_xor, ite_xor, xor4]
theorem ofNat_xor (x y : Nat) : UInt8.ofNat (x ^^^ y) = UInt8.ofNat x ^^^ UInt8.ofNat y := by
  rw [← UInt8.toNat_inj, UInt8.toNat_xor, UInt8.toNat_ofNat', UInt8.toNat_ofNat', UInt8.toNat_ofNat']
  exact Nat.xor_mod_two_pow (n := 8)
theorem refMul_gm (a b : UInt8) : refMul a b = gm a b := by
  refine Gf.Add.eq (f := fun b => refMul a b) (g := fun b => gm a b) (fun x y => ?_) (gm_r a) ?_ b
  · show refMul a (x ^^^ y) = refMul a x ^^^ refMul a y
    unfold refMul
    rw [mulA_xor, redA_xor, ofNat_xor]
  · have h := refMul_rows
    rw [List.all_eq_true] at h
    rw [List.all_eq_true]
    intro y hy
    exact all8_ok (h y hy) a
theorem mulA_lt (a b : UInt8) : ∀ n, n ≤ 8 → mulA a.toNat b n < 2 ^ 16
  | 0, _ => by simp [mulA]
  | n + 1, hn => by
    refine Nat.xor_lt_two_pow (mulA_lt a b n (by omega)) ?_
    split
    · rw [Nat.shiftLeft_eq]
      have h1 := a.toNat_lt
      have h2 : 2 ^ n ≤ 2 ^ 7 := Nat.pow_le_pow_right (by omega) (by omega)
      calc a.toNat * 2 ^ n ≤ 255 * 2 ^ 7 := Nat.mul_le_mul (by omega) h2
        _ < 2 ^ 16 := by decide
    · decide
theorem redA_lt (x : Nat) (hx : x < 2 ^ 16) : ∀ n, redA x n < 2 ^ 16
  | 0 => hx
  | n + 1 => by
    refine Nat.xor_lt_two_pow (redA_lt x hx n) ?_
    split
    · rw [Nat.shiftLeft_eq]
      have h2 : 2 ^ (6 - n) ≤ 2 ^ 6 := Nat.pow_le_pow_right (by omega) (by omega)
      calc 285 * 2 ^ (6 - n) ≤ 285 * 2 ^ 6 := Nat.mul_le_mul_left _ h2
        _ < 2 ^ 16 := by decide
    · decide
theorem low1 (n : Nat) : n &&& 1 = if n.testBit 0 then 1 else 0 := by
  rw [Nat.and_one_is_mod, Nat.testBit_zero]
  rcases Nat.mod_two_eq_zero_or_one n with h | h <;> rw [h] <;> rfl
theorem shr8_i (b : UInt8) {i : Nat} (hi : i < 8) : shr8 b i = b >>> UInt8.ofNat i := by
  have h : (List.range 8).all (fun i => all8 fun b => shr8 b i == b >>> UInt8.ofNat i) = true := by decide +kernel
  rw [List.all_eq_true] at h
  simpa using all8_ok (h i (List.mem_range.2 hi)) b

theorem x_refMul (a b : UInt8) : X.cartridgeref1_Mul a b = some (gm a b) := by
  unfold X.cartridgeref1_Mul
  have k1 : run (X.cartridgeref1_Mul_s7 b a) ((0 : Int), (0 : Int)) = some ((mulA a.toNat b 8 : Nat) : Int) := by
    refine run_G0 (fun i => ((mulA a.toNat b i : Nat) : Int)) (n := 8) (by omega) rfl (fun i hi => ?_) ?_
    · unfold X.cartridgeref1_Mul_s7
      simp only
      rw [if_pos (by simp only [decide_eq_true_eq]; omega), u64_nat' (by omega), shr8_i b hi]
      have hm := mulA_lt a b i (by omega)
      have hm1 := mulA_lt a b (i + 1) (by omega)
      have hs : a.toNat <<< i < 2 ^ 16 := by
        rw [Nat.shiftLeft_eq]
        have h1 := a.toNat_lt
        have h2 : 2 ^ i ≤ 2 ^ 7 := Nat.pow_le_pow_right (by omega) (by omega)
        calc a.toNat * 2 ^ i ≤ 255 * 2 ^ 7 := Nat.mul_le_mul (by omega) h2
          _ < 2 ^ 16 := by decide
      cases hb : bit b i with
      | true =>
        have hb' : ((b >>> UInt8.ofNat i) &&& 1 == 1) = true := hb
        rw [if_pos hb', shl64_nat (by omega) (by omega), (nat64 (by omega) (by omega)).2]
        unfold X.cartridgeref1_Mul_j25
        rw [wr_inc (by omega)]
        have : mulA a.toNat b (i + 1) = mulA a.toNat b i ^^^ (a.toNat <<< i) := by show _ ^^^ (if bit b i = true then _ else _) = _; rw [hb]; rfl
        rw [this]
      | false =>
        have hb' : ((b >>> UInt8.ofNat i) &&& 1 == 1) = false := hb
        rw [hb', if_neg (by simp)]
        unfold X.cartridgeref1_Mul_j25
        rw [wr_inc (by omega)]
        have : mulA a.toNat b (i + 1) = mulA a.toNat b i := by show _ ^^^ (if bit b i = true then _ else _) = _; rw [hb]; simp
        rw [this]
    · unfold X.cartridgeref1_Mul_s7
      simp only
      rw [if_neg (by decide)]
  rw [k1, bind_s]
  unfold X.cartridgeref1_Mul_e7
  have hM := mulA_lt a b 8 (by omega)
  have hR := redA_lt _ hM
  have k2 : run X.cartridgeref1_Mul_s13 (((mulA a.toNat b 8 : Nat) : Int), (14 : Int)) = some ((redA (mulA a.toNat b 8) 7 : Nat) : Int) := by
    refine run_is _ (fun s => ∃ k : Nat, k ≤ 7 ∧ s = (((redA (mulA a.toNat b 8) k : Nat) : Int), (14 : Int) - k)) (fun s => (s.2 - 7).toNat) ⟨0, by omega, rfl⟩ (by show (14 - 7 : Int).toNat ≤ _; decide) ?_
    rintro s ⟨k, hk, rfl⟩
    unfold X.cartridgeref1_Mul_s13
    simp only
    by_cases h7 : k = 7
    · right
      subst h7
      rw [if_neg (by decide)]
    · left
      rw [if_pos (by simp only [decide_eq_true_eq]; omega)]
      have hr := hR k
      have e1 : ((14 : Int) - k) = ((14 - k : Nat) : Int) := by omega
      have e2 : wr (((14 - k : Nat) : Int) - 8) = ((6 - k : Nat) : Int) := by rw [wr_eq (by omega) (by omega)]; omega
      have e3 : wr (((14 - k : Nat) : Int) - 1) = (14 : Int) - ((k + 1 : Nat) : Int) := by rw [wr_eq (by omega) (by omega)]; omega
      have hx : redA (mulA a.toNat b 8) k >>> (14 - k) ≤ redA (mulA a.toNat b 8) k := by rw [Nat.shiftRight_eq_div_pow]; exact Nat.div_le_self _ _
      rw [e1, u64_nat' (by omega), shr64_nat (by omega), show (1 : Int) = ((1 : Nat) : Int) from rfl, (nat64 (by omega) (by omega)).1, low1, Nat.testBit_shiftRight, Nat.add_zero]
      have hs : 285 <<< (6 - k) < 2 ^ 16 := by
        rw [Nat.shiftLeft_eq]
        have h2 : 2 ^ (6 - k) ≤ 2 ^ 6 := Nat.pow_le_pow_right (by omega) (by omega)
        calc 285 * 2 ^ (6 - k) ≤ 285 * 2 ^ 6 := Nat.mul_le_mul_left _ h2
          _ < 2 ^ 16 := by decide
      cases hb : (redA (mulA a.toNat b 8) k).testBit (14 - k) with
      | true =>
        rw [if_pos rfl, if_pos (by decide), e2, u64_nat' (by omega), show (285 : Int) = ((285 : Nat) : Int) from rfl, shl64_nat (by omega) (by omega), (nat64 (by omega) (by omega)).2]
        unfold X.cartridgeref1_Mul_j20
        have : redA (mulA a.toNat b 8) (k + 1) = redA (mulA a.toNat b 8) k ^^^ (285 <<< (6 - k)) := by show _ ^^^ (if _ then _ else _) = _; rw [hb]; rfl
        exact ⟨_, by rw [e3, ← this], ⟨k + 1, by omega, rfl⟩, by simp only; omega⟩
      | false =>
        rw [if_neg (by simp)]
        unfold X.cartridgeref1_Mul_j20
        have : redA (mulA a.toNat b 8) (k + 1) = redA (mulA a.toNat b 8) k := by show _ ^^^ (if _ then _ else _) = _; rw [hb]; simp
        exact ⟨_, by rw [e3, this], ⟨k + 1, by omega, rfl⟩, by simp only; omega⟩
  show (run X.cartridgeref1_Mul_s13 (((mulA a.toNat b 8 : Nat) : Int), (14 : Int))).bind _ = _
  rw [k2, bind_s]
  show X.cartridgeref1_Mul_e13 _ = _
  unfold X.cartridgeref1_Mul_e13
  rw [← refMul_gm]
  unfold refMul u8
  have h1 := hR 7
  refine congrArg some ?_
  rw [← UInt8.toNat_inj, UInt8.toNat_ofNat', UInt8.toNat_ofNat']
  omega
end Go.AX
/- The document's parity is the same. -/
namespace Go.AX
open Go.AM
open Gf

theorem x_refInv (a : UInt8) : X.cartridgeref1_Inv a = some (inv a) := by
  unfold X.cartridgeref1_Inv
  have key : run (X.cartridgeref1_Inv_s6 a) ((1 : UInt8), (0 : Int)) = some (pw a 254) := by
    refine run_G0 (fun i => pw a i) (n := 254) (by omega) rfl (fun i hi => ?_) ?_
    · unfold X.cartridgeref1_Inv_s6
      simp only
      rw [if_pos (by simp only [decide_eq_true_eq]; omega), x_refMul, bind_s, wr_inc (by omega)]; rfl
    · unfold X.cartridgeref1_Inv_s6
      simp only
      rw [if_neg (by decide)]
  rw [key, bind_s, inv_pw]; rfl
theorem x_refCauchy (data parity : Int) (hd : -9223372036854775808 ≤ data ∧ data ≤ 9223372036854775807) (hp : -9223372036854775808 ≤ parity ∧ parity ≤ 9223372036854775807) : X.cartridgeref1_Cauchy data parity = some (cauG data parity) := by
  unfold X.cartridgeref1_Cauchy cauG
  by_cases h : 1 ≤ data ∧ 1 ≤ parity ∧ data + parity ≤ 255
  · rw [if_pos h, if_neg (by
      rw [wr_eq (by omega) (by omega)]
      simp only [Bool.or_eq_true, decide_eq_true_eq]; omega)]
    obtain ⟨n, rfl⟩ := Int.eq_ofNat_of_zero_le (by omega : 0 ≤ data)
    obtain ⟨p, rfl⟩ := Int.eq_ofNat_of_zero_le (by omega : 0 ≤ parity)
    have key : run (X.cartridgeref1_Cauchy_s11 (p : Int) (n : Int)) (([] : List (List UInt8)), (0 : Int)) = some (cau n p) := by
      refine run_G0 (fun i => tab i (fun i => tab n (fun k => inv (bt i ^^^ bt (p + k))))) (n := p) (by omega) rfl (fun i hi => ?_) ?_
      · unfold X.cartridgeref1_Cauchy_s11
        simp only
        have inner : run (X.cartridgeref1_Cauchy_s25 (n : Int) (i : Int) (p : Int)) (([] : List UInt8), (0 : Int)) = some (tab n (fun k => inv (bt i ^^^ bt (p + k)))) := by
          refine run_G0 (fun c => tab c (fun k => inv (bt i ^^^ bt (p + k)))) (n := n) (by omega) rfl (fun c hc => ?_) ?_
          · unfold X.cartridgeref1_Cauchy_s25
            simp only
            rw [if_pos (by simpa using hc), wr_add (by omega), u8_bt, u8_bt, x_refInv, bind_s, need_is (by simp; omega), bind_s, wr_inc (by omega), tab_succ]
          · unfold X.cartridgeref1_Cauchy_s25
            simp only
            rw [if_neg (by simp)]
        rw [if_pos (by simpa using hi), inner, bind_s]
        unfold X.cartridgeref1_Cauchy_e25
        rw [need_is (by simp; omega), bind_s, wr_inc (by omega), tab_succ]
      · unfold X.cartridgeref1_Cauchy_s11
        simp only
        rw [if_neg (by simp)]; rfl
    show (run (X.cartridgeref1_Cauchy_s11 (p : Int) (n : Int)) (([] : List (List UInt8)), (0 : Int))).bind _ = _
    rw [key]; rfl
  · rw [if_neg h]
    split
    · rfl
    · rename_i hc
      exfalso
      simp only [Bool.or_eq_true, decide_eq_true_eq, not_or] at hc
      obtain ⟨⟨⟨⟨c1, c2⟩, c3⟩, c4⟩, c5⟩ := hc
      rw [wr_eq (by omega) (by omega)] at c5
      omega

theorem x_refEncRow {l : List (List UInt8)} {k i w : Nat} (hw : Wide l w) (hw2 : w ≤ 1000000) (hl : l.length ≤ 1000000) (hi : i < k) :
    run (X.cartridgeref1_Encode_s36 l (cau l.length k, 0) (i : Int)) (List.replicate w (0 : UInt8), (0 : Int)) = some (tab w (fun c => S l.length (fun j => gm (e (row (cau l.length k) i) j) (e (row l j) c)))) := by
  have hci : (row (cau l.length k) i).length = l.length := cau_wide _ (row_mem (by rw [cau_len]; exact hi))
  refine run_G0 (fun t => tab w (fun c => if c < t then S l.length (fun j => gm (e (row (cau l.length k) i) j) (e (row l j) c)) else 0)) (n := w) (by omega) (by rw [tab_rep]; exact tab_congr fun c _ => by rw [if_neg (by omega)]) (fun t ht => ?_) ?_
  · unfold X.cartridgeref1_Encode_s36
    simp only
    rw [if_pos (by simpa using ht)]
    have inner : run (X.cartridgeref1_Encode_s49 l (t : Int) (cau l.length k, 0) (i : Int)) (tab w (fun c => if c < t then S l.length (fun j => gm (e (row (cau l.length k) i) j) (e (row l j) c)) else 0), (0 : Int)) =
        some (tab w (fun c => if c < t + 1 then S l.length (fun j => gm (e (row (cau l.length k) i) j) (e (row l j) c)) else 0)) := by
      refine run_G0 (fun q => tab w (fun c => if c < t then S l.length (fun j => gm (e (row (cau l.length k) i) j) (e (row l j) c)) else if c = t then S q (fun j => gm (e (row (cau l.length k) i) j) (e (row l j) c)) else 0)) (n := l.length) (by omega)
        (tab_congr fun c _ => ?_) (fun q hq => ?_) ?_
      · by_cases h : c < t
        · rw [if_pos h, if_pos h]
        · rw [if_neg h, if_neg h]; split <;> rfl
      · unfold X.cartridgeref1_Encode_s49
        simp only
        rw [if_pos (by simpa using hq), getI_tab ht, bind_s, getI_row (by rw [cau_len]; exact hi), bind_s, getI_e (by omega), bind_s, getI_row hq, bind_s, getI_e (by rw [hw _ (row_mem hq)]; exact ht), bind_s, x_refMul, bind_s, bind_s, wr_inc (by omega), Int.toNat_natCast, tab_set]
        refine congrArg (fun t => some (Sum.inl (t, _))) (tab_congr fun c _ => ?_)
        by_cases h : c = t
        · subst h
          simp only [Nat.lt_irrefl, if_true, if_false]; rfl
        · rw [if_neg h, if_neg h, if_neg h]
      · unfold X.cartridgeref1_Encode_s49
        simp only
        rw [if_neg (by simp)]
        refine congrArg (fun t => some (Sum.inr t)) (tab_congr fun c _ => ?_)
        by_cases h : c < t
        · rw [if_pos h, if_pos (by omega)]
        · rw [if_neg h]
          by_cases h2 : c = t
          · rw [if_pos h2, if_pos (by omega)]
          · rw [if_neg h2, if_neg (by omega)]
    rw [inner, bind_s]
    show X.cartridgeref1_Encode_e49 (t : Int) _ = _
    unfold X.cartridgeref1_Encode_e49
    rw [wr_inc (by omega)]
  · unfold X.cartridgeref1_Encode_s36
    simp only
    rw [if_neg (by simp)]
    exact congrArg (fun t => some (Sum.inr t)) (tab_congr fun c hc => by rw [if_pos hc])
theorem x_refEncode (l : List (List UInt8)) (p : Int) (hl : ∀ r ∈ l, r.length ≤ 1000000) (hll : l.length ≤ 1000000) (hp : -9223372036854775808 ≤ p ∧ p ≤ 9223372036854775807) : X.cartridgeref1_Encode l p = some (encG l p) := by
  unfold X.cartridgeref1_Encode
  by_cases h : 1 ≤ l.length ∧ 0 ≤ p ∧ l.length + p ≤ 255
  · obtain ⟨h1, h2, h3⟩ := h
    rw [if_neg (by
      rw [wr_eq (by omega) (by omega)]
      simp only [Bool.or_eq_true, decide_eq_true_eq]; omega)]
    have key : run (X.cartridgeref1_Encode_s9 l) ((1 : Nat) : Int) = some (if alikeB l = true then .inl () else .inr ([], 1)) := by
      refine run_seE (n := l.length) (fun n => ∀ j, j < n → (row l j).length = (row l 0).length) h1 (by omega) (fun j hj => by rw [show j = 0 by omega]) (fun i _ hi hI => ?_) (fun hI => ?_)
      · unfold X.cartridgeref1_Encode_s9
        simp only
        rw [if_pos (by simpa using hi), getI_row hi, bind_s, show getI l (0 : Int) = some (row l 0) from getI_row (j := 0) (by omega), bind_s]
        by_cases hc : (row l i).length = (row l 0).length
        · left
          rw [if_neg (by simp [hc]), wr_inc (by omega)]
          refine ⟨rfl, fun j hj => ?_⟩
          rcases Nat.lt_succ_iff_lt_or_eq.1 hj with h | rfl
          · exact hI j h
          · exact hc
        · right
          have : ¬ alikeB l = true := fun ha => hc (alike_of ha _ (row_mem hi))
          rw [if_pos (by simp only [bne_iff_ne, ne_eq]; omega), if_neg this]
      · unfold X.cartridgeref1_Encode_s9
        simp only
        have : alikeB l = true := alike_if (w := (row l 0).length) fun r hr => by
          obtain ⟨j, hj, rfl⟩ := mem_row hr
          exact hI j hj
        rw [if_neg (by simp), if_pos this]
    rw [show (1 : Int) = ((1 : Nat) : Int) from rfl, key, bind_s]
    by_cases ha : alikeB l = true
    · have hE : encG l p = (if p = 0 then ([], 0) else (reck (cau l.length p.toNat) l (row l 0).length, 0)) := if_pos ⟨h1, h2, h3, ha⟩
      rw [if_pos ha, hE]
      show X.cartridgeref1_Encode_e9 p l = _
      unfold X.cartridgeref1_Encode_e9
      by_cases hp0 : p = 0
      · rw [if_pos hp0, if_pos (by simpa using hp0)]
      · obtain ⟨k, rfl⟩ := Int.eq_ofNat_of_zero_le h2
        rw [if_neg hp0, if_neg (by simpa using hp0), x_refCauchy _ _ (by omega) (by omega), bind_s]
        have hC : cauG (l.length : Int) (k : Int) = (cau l.length k, 0) := by
          unfold cauG
          rw [if_pos ⟨by omega, by omega, by omega⟩, Int.toNat_natCast, Int.toNat_natCast]
        rw [hC, Int.toNat_natCast]
        have hw := alike_of ha
        have h0 := hl _ (row_mem (show 0 < l.length by omega))
        have key2 : run (X.cartridgeref1_Encode_s20 (k : Int) l (cau l.length k, 0)) (([] : List (List UInt8)), (0 : Int)) = some (reck (cau l.length k) l (row l 0).length) := by
          refine run_G0 (fun i => tab i (fun i => tab (row l 0).length (fun c => S l.length (fun j => gm (e (row (cau l.length k) i) j) (e (row l j) c))))) (n := k) (by omega) rfl (fun i hi => ?_) ?_
          · unfold X.cartridgeref1_Encode_s20
            simp only
            rw [if_pos (by simpa using hi), show getI l (0 : Int) = some (row l 0) from getI_row (j := 0) (by omega), bind_s, need_is (by omega), bind_s, Int.toNat_natCast, x_refEncRow hw h0 hll hi, bind_s]
            show X.cartridgeref1_Encode_e36 _ (i : Int) _ = _
            unfold X.cartridgeref1_Encode_e36
            rw [need_is (by simp; omega), bind_s, wr_inc (by omega), tab_succ]
          · unfold X.cartridgeref1_Encode_s20
            simp only
            rw [if_neg (by simp)]
            refine congrArg (fun t => some (Sum.inr t)) ?_
            unfold reck
            rw [cau_len]
        rw [key2]; rfl
    · have hE : encG l p = ([], 1) := if_neg (fun hh => ha hh.2.2.2)
      rw [if_neg ha, hE]
  · have hE : encG l p = ([], 1) := if_neg (fun hh => h ⟨hh.1, hh.2.1, hh.2.2.1⟩)
    rw [hE, if_pos (by
      simp only [Bool.or_eq_true, decide_eq_true_eq]
      by_cases h5 : 1 ≤ l.length ∧ 0 ≤ p ∧ p ≤ 255
      · rw [wr_eq (by omega) (by omega)]; omega
      · left; omega)]
end Go.AX
/- A list's copy. -/
namespace Go.AX
open Go.AM

theorem x_Clone (s : List UInt8) (h : s.length ≤ 100000000000000) : X.slices_Clone_Lbyte_byte s = some s := by
  unfold X.slices_Clone_Lbyte_byte
  refine nilU_same (fun h => by rw [h]; rfl) ?_
  simp only [Bool.false_eq_true, if_false]
  rw [need_is (by omega)]; rfl

end Go.AX
/- How long any tapes are, each row of them, and which parity they have. -/
namespace Go.AX
open Go.AM
open Gf

def tp (l : List Tape_api) (i : Nat) : Tape_api := l.getD i ⟨0, 0, [], false⟩
theorem getI_tp {l : List Tape_api} {i : Nat} (h : i < l.length) : getI l (i : Int) = some (tp l i) := getI_getD _ h
theorem tp_mem {l : List Tape_api} {i : Nat} (h : i < l.length) : tp l i ∈ l := by
  unfold tp
  rw [List.getD_eq_getElem?_getD, List.getElem?_eq_getElem h]
  exact List.getElem_mem h
theorem mem_tp {l : List Tape_api} {t : Tape_api} (h : t ∈ l) : ∃ j, j < l.length ∧ tp l j = t := by
  obtain ⟨j, hj, rfl⟩ := List.getElem_of_mem h
  exact ⟨j, hj, by unfold tp; rw [List.getD_eq_getElem?_getD, List.getElem?_eq_getElem hj]; rfl⟩
/-- Small enough tapes. -/
def Small (l : List Tape_api) : Prop := l.length ≤ 14 ∧ ∀ t ∈ l, t.Blocks.length ≤ 90 ∧ ∀ r ∈ t.Blocks, r.length ≤ 300

theorem x_Few8 (t : Tape_api) : ∃ b, X.cartridgelaw8_Few t = some b ∧ (b = true → t.Blocks.length ≤ 90 ∧ ∀ r ∈ t.Blocks, r.length ≤ 300) := by
  unfold X.cartridgelaw8_Few
  obtain ⟨r, h1, h2⟩ : ∃ r, run (X.cartridgelaw8_Few_s5 t) ((0 : Nat) : Int) = some r ∧ (r = .inr false ∨ (r = .inl () ∧ ∀ j, j < min t.Blocks.length 100 → (row t.Blocks j).length ≤ 300)) := by
    refine run_se (n := min t.Blocks.length 100) (fun (r : Unit ⊕ Bool) => r = .inr false ∨ (r = .inl () ∧ ∀ j, j < min t.Blocks.length 100 → (row t.Blocks j).length ≤ 300)) (fun n => ∀ j, j < n → (row t.Blocks j).length ≤ 300) (Nat.zero_le _) (by omega) (fun j h => by omega) (fun i _ hi hI => ?_) (fun hI => ?_)
    · unfold X.cartridgelaw8_Few_s5
      simp only
      rw [if_pos (by simp only [Bool.and_eq_true, decide_eq_true_eq]; omega), getI_row (by omega), bind_s]
      by_cases h : (row t.Blocks i).length ≤ 300
      · left
        rw [if_neg (by simp only [decide_eq_true_eq]; omega), wr_inc (by omega)]
        refine ⟨rfl, fun j hj => ?_⟩
        rcases Nat.lt_succ_iff_lt_or_eq.1 hj with h1 | rfl
        · exact hI j h1
        · exact h
      · right
        rw [if_pos (by simp only [decide_eq_true_eq]; omega)]
        exact ⟨_, rfl, .inl rfl⟩
    · unfold X.cartridgelaw8_Few_s5
      simp only
      rw [if_neg (by simp only [Bool.and_eq_true, decide_eq_true_eq]; omega)]
      exact ⟨_, rfl, .inr ⟨rfl, hI⟩⟩
  rw [show (0 : Int) = ((0 : Nat) : Int) from rfl, h1, bind_s]
  rcases h2 with rfl | ⟨rfl, h3⟩
  · exact ⟨false, rfl, fun h => by cases h⟩
  · refine ⟨_, rfl, fun h => ?_⟩
    have h4 : t.Blocks.length ≤ 90 := by have := of_decide_eq_true h; omega
    refine ⟨h4, fun r hr => ?_⟩
    obtain ⟨j, hj, rfl⟩ := mem_row hr
    exact h3 j (by omega)
theorem x_Few13 (l : List Tape_api) : ∃ b, X.cartridgelaw13_Few l = some b ∧ (b = true → Small l) := by
  unfold X.cartridgelaw13_Few
  obtain ⟨r, h1, h2⟩ : ∃ r, run (X.cartridgelaw13_Few_s6 l) ((0 : Int), (0 : Int)) = some r ∧ (r = .inr false ∨ ∃ n, r = .inl n ∧ ∀ j, j < min l.length 20 → (tp l j).Blocks.length ≤ 90 ∧ ∀ r ∈ (tp l j).Blocks, r.length ≤ 300) := by
    refine run_ix0 (fun i (n : Int) => 0 ≤ n ∧ n ≤ 90 * i ∧ ∀ j, j < i → (tp l j).Blocks.length ≤ 90 ∧ ∀ r ∈ (tp l j).Blocks, r.length ≤ 300) (fun (r : Int ⊕ Bool) => r = .inr false ∨ ∃ n, r = .inl n ∧ ∀ j, j < min l.length 20 → (tp l j).Blocks.length ≤ 90 ∧ ∀ r ∈ (tp l j).Blocks, r.length ≤ 300) (n := min l.length 20) (by omega) ⟨by omega, by omega, fun j h => by omega⟩ (fun i n hi hI => ?_) (fun n hI => ?_)
    · obtain ⟨g1, g2, g3⟩ := hI
      unfold X.cartridgelaw13_Few_s6
      simp only
      obtain ⟨b, f1, f2⟩ := x_Few8 (tp l i)
      rw [if_pos (by simp only [Bool.and_eq_true, decide_eq_true_eq]; omega), getI_tp (by omega), bind_s, f1, bind_s]
      cases b with
      | false => right; exact ⟨_, rfl, .inl rfl⟩
      | true =>
        left
        obtain ⟨k1, k2⟩ := f2 rfl
        rw [if_neg (by simp), bind_s, wr_inc (by omega), wr_eq (by omega) (by omega)]
        refine ⟨_, rfl, by omega, by omega, fun j hj => ?_⟩
        rcases Nat.lt_succ_iff_lt_or_eq.1 hj with h | rfl
        · exact g3 j h
        · exact ⟨k1, k2⟩
    · obtain ⟨_, _, g3⟩ := hI
      unfold X.cartridgelaw13_Few_s6
      simp only
      rw [if_neg (by simp only [Bool.and_eq_true, decide_eq_true_eq]; omega)]
      exact ⟨_, rfl, .inr ⟨n, rfl, g3⟩⟩
  rw [h1, bind_s]
  rcases h2 with rfl | ⟨n, rfl, h3⟩
  · exact ⟨false, rfl, fun h => by cases h⟩
  · refine ⟨_, rfl, fun h => ?_⟩
    have h4 : l.length ≤ 14 := by
      simp only [Bool.and_eq_true, decide_eq_true_eq] at h
      omega
    refine ⟨h4, fun t ht => ?_⟩
    obtain ⟨j, hj, rfl⟩ := mem_tp ht
    exact h3 j (by omega)

/-! ### lengths and rows -/
def ln (l : List Tape_api) : Nat → Nat
  | 0 => 0
  | i + 1 => if (tp l i).Lost = true then ln l i else max (ln l i) (tp l i).Blocks.length
theorem ln_succ (l : List Tape_api) (i : Nat) : ln l (i + 1) = if (tp l i).Lost = true then ln l i else max (ln l i) (tp l i).Blocks.length := rfl
theorem ln_le {l : List Tape_api} (hs : Small l) : ∀ i, i ≤ l.length → ln l i ≤ 90
  | 0, _ => by simp [ln]
  | i + 1, h => by
    have ih := ln_le hs i (by omega)
    have := (hs.2 _ (tp_mem (show i < l.length by omega))).1
    rw [ln_succ]
    split <;> omega
theorem x_Len {l : List Tape_api} (hs : Small l) : X.stripe_Len l = some ((ln l l.length : Nat) : Int) := by
  unfold X.stripe_Len
  have key : run (X.stripe_Len_s6 l) ((0 : Int), (0 : Int)) = some ((ln l l.length : Nat) : Int) := by
    refine run_G0 (fun i => ((ln l i : Nat) : Int)) (n := l.length) (by have := hs.1; omega) rfl (fun i hi => ?_) ?_
    · unfold X.stripe_Len_s6
      simp only
      have := hs.1
      rw [if_pos (by simpa using hi), getI_tp hi, bind_s, wr_inc (by omega), ln_succ]
      cases hL : (tp l i).Lost with
      | true => rfl
      | false =>
        simp only [Bool.not_false, if_true, Bool.false_eq_true, if_false]
        refine congrArg (fun t => some (Sum.inl (t, _))) ?_
        omega
    · unfold X.stripe_Len_s6
      simp only
      rw [if_neg (by simp)]
  rw [key]; rfl
theorem x_refLen {l : List Tape_api} (hs : Small l) : X.cartridgeref10_StripeLen l = some ((ln l l.length : Nat) : Int) := by
  unfold X.cartridgeref10_StripeLen
  have key : run (X.cartridgeref10_StripeLen_s6 l) ((0 : Int), (0 : Int)) = some ((ln l l.length : Nat) : Int) := by
    refine run_G0 (fun i => ((ln l i : Nat) : Int)) (n := l.length) (by have := hs.1; omega) rfl (fun i hi => ?_) ?_
    · unfold X.cartridgeref10_StripeLen_s6 X.cartridgeref10_StripeLen_j13
      simp only
      have := hs.1
      rw [if_pos (by simpa using hi), getI_tp hi, bind_s, wr_inc (by omega), ln_succ]
      cases hL : (tp l i).Lost with
      | true => rfl
      | false =>
        simp only [Bool.not_false, optG_true, bind_s, Bool.true_and, Bool.false_eq_true, if_false]
        by_cases h : ln l i < (tp l i).Blocks.length
        · rw [if_pos (by simp only [gt_iff_lt, decide_eq_true_eq]; omega), Nat.max_eq_right (by omega)]
        · rw [if_neg (by simp only [gt_iff_lt, decide_eq_true_eq]; omega), Nat.max_eq_left (by omega)]
    · unfold X.cartridgeref10_StripeLen_s6
      simp only
      rw [if_neg (by simp)]
  rw [key]; rfl

def zeros : List UInt8 := List.replicate 79 0
def cell (t : Tape_api) (n : Int) : List UInt8 := if t.Lost = true ∨ n < 0 ∨ n ≥ t.Blocks.length then zeros else if (row t.Blocks n.toNat).length = 79 then row t.Blocks n.toNat else []
def rowS (l : List Tape_api) (n : Int) : List (List UInt8) := tab l.length (fun i => cell (tp l i) n)
theorem cell_len {t : Tape_api} {n : Int} : (cell t n).length = 79 ∨ cell t n = [] := by
  unfold cell
  split
  · left; exact List.length_replicate ..
  · split
    · left; assumption
    · right; rfl
theorem cell_neg {t : Tape_api} {n : Int} (h : n < 0) : cell t n = zeros := if_pos (.inr (.inl h))
theorem cell_zero {t : Tape_api} {n : Int} (h : t.Lost = true ∨ n < 0 ∨ n ≥ t.Blocks.length) : cell t n = zeros := if_pos h
theorem cell_row {t : Tape_api} {n : Int} (h : ¬ (t.Lost = true ∨ n < 0 ∨ n ≥ t.Blocks.length)) : cell t n = if (row t.Blocks n.toNat).length = 79 then row t.Blocks n.toNat else [] := if_neg h
theorem getI_n {l : List (List UInt8)} {n : Int} (h0 : 0 ≤ n) (h : n < l.length) : getI l n = some (row l n.toNat) := by
  obtain ⟨k, rfl⟩ := Int.eq_ofNat_of_zero_le h0
  rw [Int.toNat_natCast]
  exact getI_row (by omega)
theorem x_cell (t : Tape_api) (n : Int) : X.stripe_cell t n = some (cell t n) := by
  unfold X.stripe_cell cell
  by_cases h : t.Lost = true ∨ n < 0 ∨ n ≥ t.Blocks.length
  · rw [if_pos h, if_pos (by
      simp only [Bool.or_eq_true, decide_eq_true_eq]
      rcases h with h | h | h
      · exact .inl (.inl h)
      · exact .inl (.inr h)
      · exact .inr h), need_is (by omega), bind_s]; rfl
  · have h1 : t.Lost = false := by cases hh : t.Lost with
      | true => exact absurd (.inl hh) h
      | false => rfl
    rw [if_neg h, h1, if_neg (by simp only [Bool.false_or, Bool.or_eq_true, decide_eq_true_eq]; omega), getI_n (by omega) (by omega), bind_s]
    by_cases h2 : (row t.Blocks n.toNat).length = 79
    · rw [if_neg (by simp [h2]), bind_s, x_Clone _ (by omega), bind_s, if_pos h2]
    · rw [if_pos (by simp only [bne_iff_ne, ne_eq]; omega), if_neg h2]
theorem x_Row {l : List Tape_api} {n : Int} (hs : l.length ≤ 1000) : X.stripe_Row l n = some (rowS l n) := by
  unfold X.stripe_Row
  have key : run (X.stripe_Row_s8 l n) (([] : List (List UInt8)), (0 : Int)) = some (rowS l n) := by
    refine run_G0 (fun i => tab i (fun i => cell (tp l i) n)) (n := l.length) (by omega) rfl (fun i hi => ?_) ?_
    · unfold X.stripe_Row_s8
      simp only
      rw [if_pos (by simpa using hi), getI_tp hi, bind_s, x_cell, bind_s, need_is (by simp; omega), bind_s, wr_inc (by omega), tab_succ]
    · unfold X.stripe_Row_s8
      simp only
      rw [if_neg (by simp)]; rfl
  rw [key]; rfl
theorem x_refRow {l : List Tape_api} {n : Int} (hs : l.length ≤ 1000) : X.cartridgeref10_Row l n = some (rowS l n) := by
  unfold X.cartridgeref10_Row
  have key : run (X.cartridgeref10_Row_s8 l n) (([] : List (List UInt8)), (0 : Int)) = some (rowS l n) := by
    refine run_G0 (fun i => tab i (fun i => cell (tp l i) n)) (n := l.length) (by omega) rfl (fun i hi => ?_) ?_
    · have hj : ∀ q, X.cartridgeref10_Row_j17 (i : Int) q = some (.inl (q, ((i + 1 : Nat) : Int))) := fun q => by unfold X.cartridgeref10_Row_j17; rw [wr_inc (by omega)]
      unfold X.cartridgeref10_Row_s8
      simp only
      rw [if_pos (by simpa using hi), getI_tp hi, bind_s, tab_succ]
      simp only [hj]
      by_cases h : (tp l i).Lost = true ∨ n < 0
      · have hb : ((tp l i).Lost || decide (n < 0)) = true := by
          simp only [Bool.or_eq_true, decide_eq_true_eq]; exact h
        rw [hb, cell_zero (by
          rcases h with h | h
          · exact .inl h
          · exact .inr (.inl h))]
        simp only [Bool.not_true, optG_false, bind_s, Bool.true_or, if_true]
        rw [need_is (by omega), bind_s, need_is (by simp; omega), bind_s]; rfl
      · have hb : ((tp l i).Lost || decide (n < 0)) = false := by
          cases hh : (tp l i).Lost with
          | true => exact absurd (.inl hh) h
          | false =>
            simp only [Bool.false_or, decide_eq_false_iff_not]
            exact fun hn => h (.inr hn)
        rw [hb]
        simp only [Bool.not_false, optG_true, bind_s, Bool.false_or]
        by_cases h3 : n ≥ (tp l i).Blocks.length
        · rw [if_pos (by simpa using h3), need_is (by omega), bind_s, need_is (by simp; omega), bind_s, cell_zero (.inr (.inr h3))]; rfl
        · have hneg : ¬ ((tp l i).Lost = true ∨ n < 0 ∨ n ≥ (tp l i).Blocks.length) := by
            rintro (h4 | h4 | h4)
            · exact h (.inl h4)
            · exact h (.inr h4)
            · exact h3 h4
          rw [if_neg (by simpa using h3), getI_n (by omega) (by omega), cell_row hneg]
          simp only [bind_s]
          by_cases h2 : (row (tp l i).Blocks n.toNat).length = 79
          · have b2 : (((row (tp l i).Blocks n.toNat).length : Int) == 79) = true := by simp [h2]
            rw [b2, if_pos rfl, need_is (by omega), bind_s, need_is (by simp; omega), bind_s, if_pos h2]
          · have b2 : (((row (tp l i).Blocks n.toNat).length : Int) == 79) = false := by
              simp only [beq_eq_false_iff_ne, ne_eq]; omega
            rw [b2, if_neg (by simp), need_is (by simp; omega), bind_s, if_neg h2]
    · unfold X.cartridgeref10_Row_s8
      simp only
      rw [if_neg (by simp)]; rfl
  rw [key]; rfl

/-! ### parity -/
theorem rowS_len {l : List Tape_api} {n : Int} : (rowS l n).length = l.length := tab_len
def bad (l : List Tape_api) (n : Nat) : Bool := (rowS l (n : Int)).any (fun r => r.length == 0)
theorem rowS_le {l : List Tape_api} {n : Int} : ∀ r ∈ rowS l n, r.length ≤ 1000000 := fun r hr => by
  obtain ⟨i, _, rfl⟩ := mem_tab.1 hr
  rcases cell_len (t := tp l i) (n := n) with h | h
  · omega
  · rw [h]; simp
theorem good_wide {l : List Tape_api} {n : Nat} (h : bad l n = false) : Wide (rowS l (n : Int)) 79 := by
  intro r hr
  unfold bad at h
  rw [List.any_eq_false] at h
  have h1 := h r hr
  obtain ⟨i, _, rfl⟩ := mem_tab.1 hr
  rcases cell_len (t := tp l i) (n := (n : Int)) with h2 | h2
  · exact h2
  · rw [h2] at h1; simp at h1
/-- What is behind the first so many rows. -/
def parS (l : List Tape_api) (p n : Nat) : List (List (List UInt8)) := tab p (fun j => tab n (fun c => row (encG (rowS l (c : Int)) (p : Int)).1 j))
def parG (l : List Tape_api) (p : Int) : List (List (List UInt8)) × Int :=
  if 1 ≤ l.length ∧ 0 ≤ p ∧ l.length + p ≤ 255 then (if (List.range (ln l l.length)).any (bad l) = true then ([], 1) else (parS l p.toNat (ln l l.length), 0)) else ([], 1)
theorem enc_good {l : List Tape_api} {p n : Nat} (h1 : 1 ≤ l.length) (h2 : l.length + p ≤ 255) (h : bad l n = false) : (encG (rowS l (n : Int)) (p : Int)).2 = 0 ∧ (encG (rowS l (n : Int)) (p : Int)).1.length = p := by
  have hE : encG (rowS l (n : Int)) (p : Int) = (if (p : Int) = 0 then ([], 0) else (reck (cau (rowS l (n : Int)).length ((p : Int)).toNat) (rowS l (n : Int)) (row (rowS l (n : Int)) 0).length, 0)) := if_pos ⟨by rw [rowS_len]; exact h1, by omega, by rw [rowS_len]; omega, alike_if (good_wide h)⟩
  rw [hE]
  by_cases hp : p = 0
  · subst hp; exact ⟨rfl, rfl⟩
  · rw [if_neg (by omega)]
    exact ⟨rfl, by rw [reck_len, cau_len, Int.toNat_natCast]⟩
theorem getI_any {α : Type} {n : Nat} {g : Nat → α} {i : Nat} (h : i < n) : getI (tab n g) (i : Int) = some (g i) := getI_tab h
theorem parS_step {l : List Tape_api} {p n t : Nat} (ht : t < p) (f : Nat → Nat) (hf : f t = n) :
    (tab p (fun j => tab (f j) (fun c => row (encG (rowS l (c : Int)) (p : Int)).1 j))).set t (tab n (fun c => row (encG (rowS l (c : Int)) (p : Int)).1 t) ++ [row (encG (rowS l (n : Int)) (p : Int)).1 t]) =
      tab p (fun j => tab (if j = t then n + 1 else f j) (fun c => row (encG (rowS l (c : Int)) (p : Int)).1 j)) := by
  rw [tab_set]
  refine tab_congr fun j _ => ?_
  by_cases h : j = t
  · subst h
    rw [if_pos rfl, if_pos rfl, tab_succ]
  · rw [if_neg h, if_neg h]
theorem x_Par {l : List Tape_api} {p : Int} (hs : Small l) (hp : -9223372036854775808 ≤ p ∧ p ≤ 9223372036854775807) : X.stripe_Parity l p = some (parG l p) := by
  have hs1 := hs.1
  have hln := ln_le hs l.length (Nat.le_refl _)
  unfold X.stripe_Parity
  rw [x_Row (by omega), bind_s, x_Encode _ _ rowS_le hp, bind_s]
  have hneg : alikeB (rowS l (-1)) = true := alike_if (w := 79) fun r hr => by
    obtain ⟨i, _, rfl⟩ := mem_tab.1 hr
    rw [cell_neg (by omega)]
    exact List.length_replicate ..
  by_cases h : 1 ≤ l.length ∧ 0 ≤ p ∧ l.length + p ≤ 255
  · obtain ⟨h1, h2, h3⟩ := h
    have hE : encG (rowS l (-1)) p = (if p = 0 then ([], 0) else (reck (cau (rowS l (-1)).length p.toNat) (rowS l (-1)) (row (rowS l (-1)) 0).length, 0)) := if_pos ⟨by rw [rowS_len]; exact h1, h2, by rw [rowS_len]; exact h3, hneg⟩
    have hE2 : (encG (rowS l (-1)) p).2 = 0 := by rw [hE]; split <;> rfl
    have hP : parG l p = (if (List.range (ln l l.length)).any (bad l) = true then ([], 1) else (parS l p.toNat (ln l l.length), 0)) := if_pos ⟨h1, h2, h3⟩
    rw [hE2, hP]
    obtain ⟨k, rfl⟩ := Int.eq_ofNat_of_zero_le h2
    simp only [bne_self_eq_false, Bool.false_eq_true, if_false]
    rw [need_is (by omega), bind_s, x_Len hs, bind_s, Int.toNat_natCast]
    have key : run (X.stripe_Parity_s16 ((ln l l.length : Nat) : Int) l (k : Int)) (List.replicate k ([] : List (List UInt8)), (0 : Int)) = some (if (List.range (ln l l.length)).any (bad l) = true then .inr ([], 1) else .inl (parS l k (ln l l.length))) := by
      refine run_ixE (fun i s => s = parS l k i ∧ ∀ j, j < i → bad l j = false) (n := ln l l.length) (by omega) ⟨by rw [tab_rep]; rfl, fun j hj => by omega⟩ (fun i s hi hI => ?_) (fun s hI => ?_)
      · obtain ⟨rfl, hI⟩ := hI
        unfold X.stripe_Parity_s16
        simp only
        rw [if_pos (by simpa using hi), x_Row (by omega), bind_s]
        unfold X.slices_ContainsFunc_LLbyte_Lbyte
        rw [x_IndexFunc (fun r => r.length == 0) (fun a _ => by
          unfold X.stripe_Parity_c1
          refine congrArg some ?_
          rw [Bool.eq_iff_iff]
          simp) (by rw [rowS_len]; omega), bind_s, bind_s, ixOf_ge]
        rw [show ((rowS l (i : Int)).any fun r => r.length == 0) = bad l i from rfl]
        cases hb : bad l i with
        | true =>
          right
          rw [if_pos rfl]
          have : (List.range (ln l l.length)).any (bad l) = true := by
            rw [List.any_eq_true]
            exact ⟨i, List.mem_range.2 hi, hb⟩
          rw [if_pos this]
        | false =>
          left
          obtain ⟨g1, g2⟩ := enc_good (p := k) h1 (by omega) hb
          rw [if_neg (by simp), x_Encode _ _ rowS_le (by omega), bind_s, g1]
          simp only [bne_self_eq_false, Bool.false_eq_true, if_false]
          have inner : run (X.stripe_Parity_s39 (encG (rowS l (i : Int)) (k : Int))) (parS l k i, (0 : Int)) = some (parS l k (i + 1)) := by
            refine run_G0 (fun t => tab k (fun j => tab (if j < t then i + 1 else i) (fun c => row (encG (rowS l (c : Int)) (k : Int)).1 j))) (n := k) (by omega) (tab_congr fun j _ => by rw [if_neg (by omega)]) (fun t ht => ?_) ?_
            · unfold X.stripe_Parity_s39
              simp only
              rw [if_pos (by simp only [decide_eq_true_eq]; omega), getI_row (by omega), bind_s, getI_tab ht, bind_s, if_neg (by omega), need_is (by simp; omega), bind_s, bind_s, wr_inc (by omega), Int.toNat_natCast, parS_step ht (fun j => if j < t then i + 1 else i) (if_neg (by omega))]
              refine congrArg (fun t => some (Sum.inl (t, _))) (tab_congr fun j _ => ?_)
              by_cases hjt : j = t
              · rw [if_pos hjt, if_pos (by omega)]
              · rw [if_neg hjt]
                by_cases h2 : j < t
                · rw [if_pos h2, if_pos (by omega)]
                · rw [if_neg h2, if_neg (by omega)]
            · unfold X.stripe_Parity_s39
              simp only
              rw [if_neg (by simp only [decide_eq_true_eq]; omega)]
              exact congrArg (fun t => some (Sum.inr t)) (tab_congr fun j hj => by rw [if_pos hj])
          rw [inner, bind_s]
          refine ⟨parS l k (i + 1), ?_, rfl, fun j hj => ?_⟩
          · show X.stripe_Parity_e39 (i : Int) _ = _
            unfold X.stripe_Parity_e39
            rw [wr_inc (by omega)]
          · rcases Nat.lt_succ_iff_lt_or_eq.1 hj with h | rfl
            · exact hI j h
            · exact hb
      · obtain ⟨rfl, hI⟩ := hI
        unfold X.stripe_Parity_s16
        simp only
        rw [if_neg (by simp)]
        have : ¬ (List.range (ln l l.length)).any (bad l) = true := by
          rw [Bool.not_eq_true, List.any_eq_false]
          intro j hj
          rw [hI j (List.mem_range.1 hj)]; simp
        rw [if_neg this]
    rw [key, bind_s]
    cases (List.range (ln l l.length)).any (bad l) <;> rfl
  · have hE : encG (rowS l (-1)) p = ([], 1) := if_neg (fun hh => h ⟨by have := hh.1; rw [rowS_len] at this; exact this, hh.2.1, by have := hh.2.2.1; rw [rowS_len] at this; exact this⟩)
    have hP : parG l p = ([], 1) := if_neg h
    rw [hE, hP]; rfl
theorem x_refPar {l : List Tape_api} {p : Int} (hs : Small l) (hp : -9223372036854775808 ≤ p ∧ p ≤ 9223372036854775807) : X.cartridgeref10_Parity l p = some (parG l p) := by
  have hs1 := hs.1
  have hln := ln_le hs l.length (Nat.le_refl _)
  unfold X.cartridgeref10_Parity
  by_cases h : 1 ≤ l.length ∧ 0 ≤ p ∧ l.length + p ≤ 255
  · obtain ⟨h1, h2, h3⟩ := h
    rw [if_neg (by
      rw [wr_eq (by omega) (by omega)]
      simp only [Bool.or_eq_true, decide_eq_true_eq]; omega)]
    have hP : parG l p = (if (List.range (ln l l.length)).any (bad l) = true then ([], 1) else (parS l p.toNat (ln l l.length), 0)) := if_pos ⟨h1, h2, h3⟩
    rw [hP]
    obtain ⟨k, rfl⟩ := Int.eq_ofNat_of_zero_le h2
    rw [Int.toNat_natCast]
    have k1 : run (X.cartridgeref10_Parity_s11 (k : Int)) (([] : List (List (List UInt8))), (0 : Int)) = some (parS l k 0) := by
      refine run_G0 (fun i => tab i (fun _ => [])) (n := k) (by omega) rfl (fun i hi => ?_) ?_
      · unfold X.cartridgeref10_Parity_s11
        simp only
        rw [if_pos (by simpa using hi), need_is (by simp; omega), bind_s, wr_inc (by omega), tab_succ]
      · unfold X.cartridgeref10_Parity_s11
        simp only
        rw [if_neg (by simp)]; rfl
    rw [k1, bind_s]
    show X.cartridgeref10_Parity_e11 l (k : Int) (parS l k 0) = _
    unfold X.cartridgeref10_Parity_e11
    have key : run (X.cartridgeref10_Parity_s19 l (k : Int)) (parS l k 0, (0 : Int)) = some (if (List.range (ln l l.length)).any (bad l) = true then .inr ([], 1) else .inl (parS l k (ln l l.length))) := by
      refine run_ixE (fun i s => s = parS l k i ∧ ∀ j, j < i → bad l j = false) (n := ln l l.length) (by omega) ⟨rfl, fun j hj => by omega⟩ (fun i s hi hI => ?_) (fun s hI => ?_)
      · obtain ⟨rfl, hI⟩ := hI
        unfold X.cartridgeref10_Parity_s19
        simp only
        rw [x_refLen hs, bind_s, if_pos (by simpa using hi), x_refRow (by omega), bind_s]
        have kb : run (X.cartridgeref10_Parity_s34 (rowS l (i : Int))) ((0 : Nat) : Int) = some (if bad l i = true then .inr ([], 1) else .inl ()) := by
          refine run_seE (n := (rowS l (i : Int)).length) (fun n => ∀ j, j < n → (row (rowS l (i : Int)) j).length ≠ 0) (Nat.zero_le _) (by rw [rowS_len]; omega) (fun j hj => by omega) (fun j _ hj hJ => ?_) (fun hJ => ?_)
          · unfold X.cartridgeref10_Parity_s34
            simp only
            rw [if_pos (by simpa using hj), getI_row hj, bind_s]
            by_cases hz : (row (rowS l (i : Int)) j).length = 0
            · right
              have : bad l i = true := by
                unfold bad
                rw [List.any_eq_true]
                exact ⟨_, row_mem hj, by simpa using hz⟩
              rw [if_pos (by simp only [beq_iff_eq]; omega), if_pos this]
            · left
              rw [rowS_len] at hj
              rw [if_neg (by simp only [beq_iff_eq]; omega), wr_inc (by omega)]
              refine ⟨rfl, fun t ht => ?_⟩
              rcases Nat.lt_succ_iff_lt_or_eq.1 ht with h | rfl
              · exact hJ t h
              · exact hz
          · unfold X.cartridgeref10_Parity_s34
            simp only
            have : ¬ bad l i = true := by
              unfold bad
              rw [Bool.not_eq_true, List.any_eq_false]
              intro r hr
              obtain ⟨j, hj, rfl⟩ := mem_row hr
              simpa using hJ j hj
            rw [if_neg (by simp), if_neg this]
        rw [show (0 : Int) = ((0 : Nat) : Int) from rfl, kb, bind_s]
        cases hb : bad l i with
        | true =>
          right
          have : (List.range (ln l l.length)).any (bad l) = true := by
            rw [List.any_eq_true]
            exact ⟨i, List.mem_range.2 hi, hb⟩
          rw [if_pos rfl, if_pos this]
        | false =>
          left
          obtain ⟨g1, g2⟩ := enc_good (p := k) h1 (by omega) hb
          rw [if_neg (by simp)]
          show ∃ s', X.cartridgeref10_Parity_e34 (rowS l (i : Int)) (k : Int) (parS l k i) (i : Int) = _ ∧ _
          unfold X.cartridgeref10_Parity_e34
          rw [x_refEncode _ _ rowS_le (by rw [rowS_len]; omega) (by omega), bind_s, g1]
          simp only [bne_self_eq_false, Bool.false_eq_true, if_false]
          have inner : run (X.cartridgeref10_Parity_s44 (k : Int) (encG (rowS l (i : Int)) (k : Int))) (parS l k i, (0 : Int)) = some (parS l k (i + 1)) := by
            refine run_G0 (fun t => tab k (fun j => tab (if j < t then i + 1 else i) (fun c => row (encG (rowS l (c : Int)) (k : Int)).1 j))) (n := k) (by omega) (tab_congr fun j _ => by rw [if_neg (by omega)]) (fun t ht => ?_) ?_
            · unfold X.cartridgeref10_Parity_s44
              simp only
              rw [if_pos (by simpa using ht), getI_tab ht, bind_s, getI_row (by omega), bind_s, if_neg (by omega), need_is (by simp; omega), bind_s, bind_s, wr_inc (by omega), Int.toNat_natCast, parS_step ht (fun j => if j < t then i + 1 else i) (if_neg (by omega))]
              refine congrArg (fun t => some (Sum.inl (t, _))) (tab_congr fun j _ => ?_)
              by_cases hjt : j = t
              · rw [if_pos hjt, if_pos (by omega)]
              · rw [if_neg hjt]
                by_cases h2 : j < t
                · rw [if_pos h2, if_pos (by omega)]
                · rw [if_neg h2, if_neg (by omega)]
            · unfold X.cartridgeref10_Parity_s44
              simp only
              rw [if_neg (by simp)]
              exact congrArg (fun t => some (Sum.inr t)) (tab_congr fun j hj => by rw [if_pos hj])
          rw [inner, bind_s]
          refine ⟨parS l k (i + 1), ?_, rfl, fun j hj => ?_⟩
          · show X.cartridgeref10_Parity_e44 (i : Int) _ = _
            unfold X.cartridgeref10_Parity_e44
            rw [wr_inc (by omega)]
          · rcases Nat.lt_succ_iff_lt_or_eq.1 hj with h | rfl
            · exact hI j h
            · exact hb
      · obtain ⟨rfl, hI⟩ := hI
        unfold X.cartridgeref10_Parity_s19
        simp only
        rw [x_refLen hs, bind_s, if_neg (by simp)]
        have : ¬ (List.range (ln l l.length)).any (bad l) = true := by
          rw [Bool.not_eq_true, List.any_eq_false]
          intro j hj
          rw [hI j (List.mem_range.1 hj)]; simp
        rw [if_neg this]
    rw [key, bind_s]
    cases (List.range (ln l l.length)).any (bad l) <;> rfl
  · have hP : parG l p = ([], 1) := if_neg h
    rw [hP, if_pos (by
      simp only [Bool.or_eq_true, decide_eq_true_eq]
      by_cases h5 : 1 ≤ l.length ∧ 0 ≤ p ∧ p ≤ 255
      · rw [wr_eq (by omega) (by omega)]; omega
      · left; omega)]

theorem alive13_ok : X.cartridgelaw13_alive = some true := by
  unfold X.cartridgelaw13_alive
  have hs : Small [Tape_api.mk 1 1 [List.replicate 79 0] false] := ⟨by simp, fun t ht => by
    rw [List.mem_singleton.1 ht]
    exact ⟨by simp, fun r hr => by rw [List.mem_singleton.1 hr]; simp⟩⟩
  have hs0 : Small [] := ⟨by simp, fun t ht => by cases ht⟩
  rw [need_is (by omega), bind_s]
  show (X.stripe_Parity [Tape_api.mk 1 1 [List.replicate 79 0] false] 1).bind _ = _
  rw [x_Par hs (by omega), bind_s, x_Len hs0, bind_s]
  have e1 : (parG [Tape_api.mk 1 1 [List.replicate 79 0] false] 1).2 = 0 := by decide +kernel
  have e2 : (parG [Tape_api.mk 1 1 [List.replicate 79 0] false] 1).1.length = 1 := by decide +kernel
  have e3 : ((ln [] ([] : List Tape_api).length : Nat) : Int) == 0 := by decide
  have e4 : (((ln [Tape_api.mk 1 1 [List.replicate 79 0] false] [Tape_api.mk 1 1 [List.replicate 79 0] false].length : Nat) : Int) == 1) = true := by decide
  rw [e3]
  generalize parG [Tape_api.mk 1 1 [List.replicate 79 0] false] 1 = q at e1 e2
  simp only [optG_true]
  have hsame : (List.replicate ((79 : Int)).toNat (0 : UInt8)) = List.replicate 79 0 := rfl
  rw [hsame, x_Len hs, bind_s, e4]
  simp only [Bool.true_and, optG_true]
  rw [x_Row (by simp), bind_s]
  rw [rowS_len]
  simp [X.cartridgelaw13_num, e1, e2]

theorem tells (l : List Tape_api) (n : Int) (p : Int) (_ : l.length ≤ Go.reachBytes ∧ ∀ y ∈ l, (fun (x : Tape_api) => (-9223372036854775808 ≤ x.Label ∧ x.Label ≤ 9223372036854775807) ∧ (-9223372036854775808 ≤ x.Cap ∧ x.Cap ≤ 9223372036854775807) ∧ (x.Blocks.length ≤ Go.reachBytes ∧ ∀ y ∈ x.Blocks, y.length ≤ Go.reachBytes ∧ ∀ y2 ∈ y, True) ∧ True ∧ True) y)
    (_ : -9223372036854775808 ≤ n ∧ n ≤ 9223372036854775807) (hp : -9223372036854775808 ≤ p ∧ p ≤ 9223372036854775807) : X.cartridgelaw13_StripeTells l n p = some true := by
  unfold X.cartridgelaw13_StripeTells
  obtain ⟨b, f1, f2⟩ := x_Few13 l
  rw [alive13_ok, bind_s]
  simp only [Bool.not_true, Bool.not_false, optG_true, Bool.false_or]
  rw [f1, bind_s]
  cases b with
  | false => simp
  | true =>
    have hs := f2 rfl
    have hs1 := hs.1
    simp only [Bool.not_true, Bool.false_or]
    split
    · rfl
    · rw [x_Par hs hp, bind_s, x_refPar hs hp, bind_s]
      simp only [X.cartridgelaw13_num, bind_s, bne_self_eq_false, Bool.or_self, Bool.not_false, optG_true]
      rw [x_Len hs, bind_s, x_refLen hs, bind_s]
      simp only [bne_self_eq_false, Bool.or_self, Bool.not_false, optG_true]
      rw [x_Row (by omega), bind_s, x_refRow (by omega), bind_s, x_Same (by rw [rowS_len]; omega), bind_s]
      simp only [decide_true, Bool.not_true, Bool.or_self, Bool.false_eq_true, if_false]
      have hpl : (parG l p).1.length ≤ 1000 ∧ ∀ q ∈ (parG l p).1, q.length ≤ 1000 := by
        have hln := ln_le hs l.length (Nat.le_refl _)
        unfold parG
        split
        · split
          · exact ⟨by simp, fun q hq => by cases hq⟩
          · refine ⟨?_, fun q hq => ?_⟩
            · show (parS _ _ _).length ≤ _
              unfold parS
              rw [tab_len]; omega
            · obtain ⟨i, _, rfl⟩ := mem_tab.1 (show q ∈ parS _ _ _ from hq)
              rw [tab_len]; omega
        · exact ⟨by simp, fun q hq => by cases hq⟩
      generalize parG l p = r at hpl
      obtain ⟨hr1, hr2⟩ := hpl
      have key : run (X.cartridgelaw13_StripeTells_s26 r r) ((0 : Nat) : Int) = some (.inl ()) := by
        refine run_seE (n := r.1.length) (fun _ => True) (Nat.zero_le _) (by omega) trivial (fun i _ hi _ => .inl ?_) (fun _ => ?_)
        · unfold X.cartridgelaw13_StripeTells_s26
          simp only
          rw [if_pos (by simpa using hi), getI_getD [] hi, bind_s, bind_s, x_Same (by
            have : r.1.getD i [] ∈ r.1 := by rw [List.getD_eq_getElem?_getD, List.getElem?_eq_getElem hi]; exact List.getElem_mem hi
            have := hr2 _ this
            omega), bind_s]
          simp only [decide_true, Bool.not_true, Bool.false_eq_true, if_false]
          rw [wr_inc (by omega)]
          exact ⟨rfl, trivial⟩
        · unfold X.cartridgelaw13_StripeTells_s26
          simp only
          rw [if_neg (by simp)]
      rw [show (0 : Int) = ((0 : Nat) : Int) from rfl, key]; rfl
end Go.AX
