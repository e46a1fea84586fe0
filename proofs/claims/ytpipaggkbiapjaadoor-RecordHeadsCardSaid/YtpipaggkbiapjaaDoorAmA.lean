import Derived.Below
import Derived.Calls
/- The abstract values, and how they stand in a world. -/
namespace Go.AM

/-- Abstract values. 'sl', 'vref': sealed memory, by value. 'rs', 'ref': own rows, by their number. -/
inductive AV where
  | junk
  | bool (b : Bool)
  | int (k : IntKind) (n : Int)
  | str (s : ByteArray)
  | nilp
  | ref (b off st : Nat)
  | vref (cells : Nat → AV) (m off : Nat)
  | nils
  | sl (cells : Nat → AV) (m n : Nat)
  | rs (b off len st sz : Nat)
  | agg (m : Nat) (cs : Nat → AV)
  | tup (m : Nat) (cs : Nat → AV)
  | fn (f : FuncId) (m : Nat) (cs : Nat → AV)
  | nilf
  | z0

/-- Where an own row lies: its block, how many cells of it count, how many it has. -/
structure Blk where
  g : Nat
  L : Nat
  E : Nat

/-- The own rows' places; 'nx': numbers from here on are free; 'ban': blocks that are neither own nor sealed; 'vir': rows without a block yet. -/
structure Mu where
  f : Nat → Option Blk
  nx : Nat
  ban : Nat → Prop
  vir : Nat → Prop

def Sealed (μ : Mu) (w : World) (g : Nat) : Prop := g < w.heap.size ∧ ¬ μ.ban g ∧ ∀ b B, μ.f b = some B → B.g ≠ g

/-- An abstract value tells of a value. -/
def VR (μ : Mu) (w : World) : AV → Value → Prop
  | .junk, _ => True
  | .bool b, v => v = .bool b
  | .int k n, v => v = .int k n
  | .str s, v => v = .string s
  | .nilp, v => v = .pointer none
  | .ref b off st, v => b < μ.nx ∧ ¬ μ.vir b ∧ ∀ B, μ.f b = some B → st ≤ B.L ∧ (st = B.L → v = .pointer (some ⟨B.g, off, none⟩))
  | .vref cells m off, v => ∃ g o, v = .pointer (some ⟨g, o + off, none⟩) ∧ Sealed μ w g ∧ ∀ i, i < m → ∃ u, w.cell? ⟨g, o + i, none⟩ = some u ∧ VR μ w (cells i) u
  | .nils, v => v = .slice none 0 0
  | .sl cells m n, v => (n = 0 ∧ m = 0 ∧ v = .slice none 0 0) ∨ ∃ a cap, v = .slice (some a) n cap ∧ n ≤ cap ∧ (0 < m → a.spot = none ∧ Sealed μ w a.block) ∧
      ∀ i, i < m → ∃ u, w.cell? ⟨a.block, a.off + i, none⟩ = some u ∧ VR μ w (cells i) u
  | .rs b off len st sz, v => b < μ.nx ∧ off + len * sz ≤ st ∧ (μ.vir b → st = 0 ∧ len = 0 ∧ ∃ x, v = .slice x 0 0) ∧ ∀ B, μ.f b = some B → st ≤ B.L ∧
      (st = B.L → ∃ cap, v = .slice (some ⟨B.g, off, none⟩) len cap ∧ off + cap * sz = B.E)
  | .z0, v => ∃ x, v = .slice x 0 0
  | .agg m cs, v => ∃ vs : Array Value, v = .agg vs ∧ vs.size = m ∧ ∀ i, i < m → VR μ w (cs i) (vs.getD i undef)
  | .tup m cs, v => ∃ vs : Array Value, v = .tuple vs ∧ vs.size = m ∧ ∀ i, i < m → VR μ w (cs i) (vs.getD i undef)
  | .fn f m cs, v => ∃ vs : Array Value, v = .func (.func f) #[] vs ∧ vs.size = m ∧ ∀ i, i < m → VR μ w (cs i) (vs.getD i undef)
  | .nilf, v => v = .nilFunc

/-- How places and world go on. -/
structure Step (μ : Mu) (w : World) (μ' : Mu) (w' : World) : Prop where
  nx : μ.nx ≤ μ'.nx
  old : ∀ b, b < μ.nx → ∀ B', μ'.f b = some B' → (μ.vir b ∧ 0 < B'.L) ∨ ∃ B, μ.f b = some B ∧ B.L ≤ B'.L ∧ (B.L = B'.L → B = B')
  vir : ∀ b, b < μ.nx → μ'.vir b → μ.vir b
  ban : ∀ g, μ'.ban g ↔ μ.ban g
  keep : ∀ g, g < w.heap.size → (μ.ban g ∨ Sealed μ w g) → w'.heap[g]? = w.heap[g]?
  sld : ∀ g, Sealed μ w g → Sealed μ' w' g
  size : w.heap.size ≤ w'.heap.size
  os : w'.os = w.os
  tape : w'.tape = w.tape
  output : w'.output = w.output

theorem Step.refl (μ : Mu) (w : World) : Step μ w μ w :=
  ⟨Nat.le_refl _, fun _ _ B h => .inr ⟨B, h, Nat.le_refl _, fun _ => rfl⟩, fun _ _ h => h, fun _ => Iff.rfl, fun _ _ _ => rfl, fun _ h => h, Nat.le_refl _, rfl, rfl, rfl⟩

theorem Step.trans {μ w μ1 w1 μ2 w2} (h : Step μ w μ1 w1) (k : Step μ1 w1 μ2 w2) : Step μ w μ2 w2 where
  nx := Nat.le_trans h.nx k.nx
  old := fun b hb B'' e => by
    rcases k.old b (Nat.lt_of_lt_of_le hb h.nx) B'' e with ⟨hv, hp⟩ | ⟨B', e', hl, he⟩
    · exact .inl ⟨h.vir b hb hv, hp⟩
    rcases h.old b hb B' e' with ⟨hv, hp⟩ | ⟨B, e0, hl0, he0⟩
    · exact .inl ⟨hv, by omega⟩
    refine .inr ⟨B, e0, Nat.le_trans hl0 hl, fun hL => ?_⟩
    have h1 : B.L = B'.L := by omega
    have h2 : B'.L = B''.L := by omega
    rw [he0 h1, he h2]
  vir := fun b hb hv => h.vir b hb (k.vir b (Nat.lt_of_lt_of_le hb h.nx) hv)
  ban := fun g => (k.ban g).trans (h.ban g)
  keep := fun g hg hs => by
    refine (k.keep g (Nat.lt_of_lt_of_le hg h.size) ?_).trans (h.keep g hg hs)
    rcases hs with hb | hs
    · exact .inl ((h.ban g).2 hb)
    · exact .inr (h.sld g hs)
  sld := fun g hg => k.sld g (h.sld g hg)
  size := Nat.le_trans h.size k.size
  os := k.os.trans h.os
  tape := k.tape.trans h.tape
  output := k.output.trans h.output

theorem cell_of_block {w w' : World} {g o : Nat} (h : w'.heap[g]? = w.heap[g]?) : w'.cell? ⟨g, o, none⟩ = w.cell? ⟨g, o, none⟩ := by
  simp only [World.cell?, h]

theorem Step.cell {μ w μ' w'} (h : Step μ w μ' w') {g : Nat} (hg : Sealed μ w g) (o : Nat) : w'.cell? ⟨g, o, none⟩ = w.cell? ⟨g, o, none⟩ :=
  cell_of_block (h.keep g hg.1 (.inr hg))

theorem VR.mono {μ w μ' w'} (h : Step μ w μ' w') : ∀ (a : AV) (v : Value), VR μ w a v → VR μ' w' a v := by
  intro a
  induction a with
  | junk => intro v hv; trivial
  | bool b => intro v hv; exact hv
  | int k n => intro v hv; exact hv
  | str s => intro v hv; exact hv
  | nilp => intro v hv; exact hv
  | nils => intro v hv; exact hv
  | nilf => intro v hv; exact hv
  | ref b off st =>
    rintro v ⟨hb, hvir, hv⟩
    refine ⟨Nat.lt_of_lt_of_le hb h.nx, fun hh => hvir (h.vir b hb hh), fun B' e => ?_⟩
    obtain ⟨B, e0, hl, he⟩ := (h.old b hb B' e).resolve_left fun hh => hvir hh.1
    obtain ⟨h1, h2⟩ := hv B e0
    refine ⟨by omega, fun hs => ?_⟩
    have hL : B.L = B'.L := by omega
    rw [← he hL]
    exact h2 (by omega)
  | rs b off len st sz =>
    rintro v ⟨hb, ho, hvir, hv⟩
    refine ⟨Nat.lt_of_lt_of_le hb h.nx, ho, fun hh => hvir (h.vir b hb hh), fun B' e => ?_⟩
    rcases h.old b hb B' e with ⟨hh, hp⟩ | ⟨B, e0, hl, he⟩
    · obtain ⟨rfl, _, _⟩ := hvir hh
      exact ⟨Nat.zero_le _, fun h0 => by omega⟩
    obtain ⟨h1, h2⟩ := hv B e0
    refine ⟨by omega, fun hs => ?_⟩
    have hL : B.L = B'.L := by omega
    rw [← he hL]
    exact h2 (by omega)
  | vref cells m off ih =>
    rintro v ⟨g, o, e, hs, hc⟩
    refine ⟨g, o, e, h.sld g hs, fun i hi => ?_⟩
    obtain ⟨u, hu, hv⟩ := hc i hi
    exact ⟨u, (h.cell hs _).trans hu, ih i u hv⟩
  | z0 => intro v hv; exact hv
  | sl cells m n ih =>
    rintro v (h0 | ⟨a, cap, e, hn, hs, hc⟩)
    · exact .inl h0
    refine .inr ⟨a, cap, e, hn, fun hm => ⟨(hs hm).1, h.sld _ (hs hm).2⟩, fun i hi => ?_⟩
    obtain ⟨u, hu, hv⟩ := hc i hi
    exact ⟨u, (h.cell (hs (by omega)).2 _).trans hu, ih i u hv⟩
  | agg m cs ih =>
    rintro v ⟨vs, e, hm, hc⟩
    exact ⟨vs, e, hm, fun i hi => ih i _ (hc i hi)⟩
  | tup m cs ih =>
    rintro v ⟨vs, e, hm, hc⟩
    exact ⟨vs, e, hm, fun i hi => ih i _ (hc i hi)⟩
  | fn f m cs ih =>
    rintro v ⟨vs, e, hm, hc⟩
    exact ⟨vs, e, hm, fun i hi => ih i _ (hc i hi)⟩

/-- No own row in it. -/
def AV.val : AV → Prop
  | .junk => True
  | .bool _ => True
  | .int _ _ => True
  | .str _ => True
  | .nilp => True
  | .ref _ _ _ => False
  | .vref cells m _ => ∀ i, i < m → (cells i).val
  | .nils => True
  | .sl cells m _ => ∀ i, i < m → (cells i).val
  | .rs _ _ _ _ _ => False
  | .agg m cs => ∀ i, i < m → (cs i).val
  | .tup m cs => ∀ i, i < m → (cs i).val
  | .fn _ m cs => ∀ i, i < m → (cs i).val
  | .nilf => True
  | .z0 => True

/-- A value by value, told under other places. -/
theorem VR.conv {μ μ' : Mu} {w : World} (h : ∀ g, Sealed μ w g → Sealed μ' w g) : ∀ (a : AV) (v : Value), a.val → VR μ w a v → VR μ' w a v := by
  intro a
  induction a with
  | junk => intro v _ hv; trivial
  | bool b => intro v _ hv; exact hv
  | int k n => intro v _ hv; exact hv
  | str s => intro v _ hv; exact hv
  | nilp => intro v _ hv; exact hv
  | nils => intro v _ hv; exact hv
  | nilf => intro v _ hv; exact hv
  | ref b off st => intro v h _; exact h.elim
  | rs b off len st sz => intro v h _; exact h.elim
  | vref cells m off ih =>
    rintro v hval ⟨g, o, e, hs, hc⟩
    refine ⟨g, o, e, h g hs, fun i hi => ?_⟩
    obtain ⟨u, hu, hv⟩ := hc i hi
    exact ⟨u, hu, ih i u (hval i hi) hv⟩
  | z0 => intro v _ hv; exact hv
  | sl cells m n ih =>
    rintro v hval (h0 | ⟨a, cap, e, hn, hs, hc⟩)
    · exact .inl h0
    refine .inr ⟨a, cap, e, hn, fun hm => ⟨(hs hm).1, h _ (hs hm).2⟩, fun i hi => ?_⟩
    obtain ⟨u, hu, hv⟩ := hc i hi
    exact ⟨u, hu, ih i u (hval i hi) hv⟩
  | agg m cs ih =>
    rintro v hval ⟨vs, e, hm, hc⟩
    exact ⟨vs, e, hm, fun i hi => ih i _ (hval i hi) (hc i hi)⟩
  | tup m cs ih =>
    rintro v hval ⟨vs, e, hm, hc⟩
    exact ⟨vs, e, hm, fun i hi => ih i _ (hval i hi) (hc i hi)⟩
  | fn f m cs ih =>
    rintro v hval ⟨vs, e, hm, hc⟩
    exact ⟨vs, e, hm, fun i hi => ih i _ (hval i hi) (hc i hi)⟩

/-- Own rows: their element type, how many cells, the cells. -/
structure Row where
  ty : TypeId
  m : Nat
  cells : Nat → AV

abbrev Hp := List (Nat × Row)
def Hp.get : Hp → Nat → Option Row
  | [], _ => none
  | (b, r) :: h, x => if b = x then some r else Hp.get h x

structure Sim (μ : Mu) (h : Hp) (w : World) : Prop where
  row : ∀ b r, h.get b = some r → (μ.vir b ∧ μ.f b = none ∧ r.m = 0) ∨ ∃ B cs, ¬ μ.vir b ∧ μ.f b = some B ∧ B.L = r.m ∧ w.heap[B.g]? = some (.cells cs r.ty (0, 0)) ∧ cs.size = B.E ∧ r.m ≤ B.E ∧
    ∀ i, i < r.m → ∃ u, cs[i]? = some u ∧ VR μ w (r.cells i) u
  inj : ∀ b b' B B', μ.f b = some B → μ.f b' = some B' → B.g = B'.g → b = b'
  lt : ∀ b B, μ.f b = some B → b < μ.nx ∧ B.g < w.heap.size
  vlt : ∀ b, μ.vir b → b < μ.nx
  noban : ∀ b B, μ.f b = some B → ¬ μ.ban B.g
  banlt : ∀ g, μ.ban g → g < w.heap.size

/-- Slots: what each holds, if its test was so. -/
abbrev Env := List (Nat × Bool × AV)
def lk : Env → Nat → Option (Bool × AV)
  | [], _ => none
  | (s, g, v) :: e, t => if s = t then some (g, v) else lk e t

def EnvR (μ : Mu) (w : World) (env : Env) (a : Act) : Prop :=
  ∀ t g v, lk env t = some (g, v) → (g = true → VR μ w v (a.tmps.getD t undef)) ∧ (g = false → a.tmps.getD t undef = undef)

structure SimA (nt : Nat) (μ : Mu) (env : Env) (h : Hp) (a : Act) (w : World) : Prop where
  sim : Sim μ h w
  env : EnvR μ w env a
  size : a.tmps.size = nt
  defers : a.defers = []

theorem EnvR.mono {μ w μ' w' env a} (h : Step μ w μ' w') (k : EnvR μ w env a) : EnvR μ' w' env a := fun t g v e => ⟨fun hg => VR.mono h _ _ ((k t g v e).1 hg), (k t g v e).2⟩

theorem EnvR.put {μ w env} {a : Act} {d : Nat} {g : Bool} {v : AV} {u : Value} (k : EnvR μ w env a) (hd : d < a.tmps.size) (hv : g = true → VR μ w v u) (hu : g = false → u = undef) :
    EnvR μ w ((d, g, v) :: env) (a.put (some d) u) := by
  intro t g' v' e
  simp only [lk] at e
  by_cases h : d = t
  · subst h
    simp only [if_true, Option.some.injEq, Prod.mk.injEq] at e
    obtain ⟨rfl, rfl⟩ := e
    have : (a.put (some d) u).tmps.getD d undef = u := by simp [Act.put, hd]
    rw [this]
    exact ⟨hv, hu⟩
  · rw [if_neg h] at e
    have := k t g' v' e
    have h2 : (a.put (some d) u).tmps.getD t undef = a.tmps.getD t undef := by
      simp [Act.put, Array.getD_eq_getD_getElem?, Array.getElem?_setIfInBounds_ne h]
    rw [h2]
    exact this

theorem put_size (a : Act) (d : Option Nat) (u : Value) : (a.put d u).tmps.size = a.tmps.size := by
  cases d <;> simp [Act.put]
theorem put_defers (a : Act) (d : Option Nat) (u : Value) : (a.put d u).defers = a.defers := by
  cases d <;> simp [Act.put]

end Go.AM
