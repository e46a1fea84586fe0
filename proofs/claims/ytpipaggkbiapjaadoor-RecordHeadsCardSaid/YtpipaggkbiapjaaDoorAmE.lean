import Derived.Test.YtpipaggkbiapjaaDoorAmD
import Derived.Laws.Build
/- What an operation that writes nothing gives: the value, and what it asks. -/
namespace Go.AM

def cAV : Value → AV
  | .int k n => .int k n
  | .bool b => .bool b
  | .string s => .str s
  | .pointer none => .nilp
  | .slice none 0 0 => .nils
  | .nilFunc => .nilf
  | _ => .junk

theorem cAV_ok (μ : Mu) (w : World) (v : Value) : VR μ w (cAV v) v := by
  unfold cAV
  split <;> first | rfl | trivial

/-- A type's zero cells. -/
def TI.z (i : TI) : Nat → AV := fun j => cAV (i.zv.cells.getD j undef)

def cutC (cs : Nat → AV) (o : Nat) : Nat → AV := fun j => cs (o + j)

/-- So many cells from one on. -/
def cutM (cs : Nat → AV) (o m : Nat) : Nat → AV := fun j => if j < m then cs (o + j) else .junk

/-- Elements of sz cells each, one behind the other. -/
def catC (sz : Nat) (l : List (Nat → AV)) : Nat → AV := fun j => match l[j / sz]? with
  | some pc => pc (j % sz)
  | none => .junk

/-- A list of things, each told by its cells. -/
def rowL {α : Type} (sz : Nat) (enc : α → Nat → AV) (xs : List α) : Nat → AV := catC sz (xs.map enc)

/-- A list as a slice by value. -/
def VS {α : Type} (sz : Nat) (enc : α → Nat → AV) (xs : List α) : AV := .sl (rowL sz enc xs) (xs.length * sz) xs.length

/-- So many elements from one cell on, as a slice by value. -/
def CS (sz : Nat) (cells : Nat → AV) (o n : Nat) : AV := .sl (cutM cells o (n * sz)) (n * sz) n

/-- The first cells, written out. -/
def tabL : Nat → Nat → (Nat → AV) → List AV
  | 0, _, _ => []
  | m + 1, o, f => f o :: tabL m (o + 1) f

theorem tabL_get (f : Nat → AV) : ∀ (m o j : Nat), j < m → ofL (tabL m o f) j = f (o + j)
  | 0, _, _, h => absurd h (by omega)
  | m + 1, o, 0, _ => rfl
  | m + 1, o, j + 1, h => by
    have := tabL_get f m (o + 1) j (by omega)
    simp only [ofL, tabL, List.getD_cons_succ] at this ⊢
    rw [this]
    congr 1
    omega

/-- A part of some cells, as a value of a type. -/
def partA (i : TI) (cs : Nat → AV) (o : Nat) : AV := if i.isAgg then .agg i.sz (cutM cs o i.sz) else cs o

def btA (s : ByteArray) (i : Int) : Int := if h : i.toNat < s.size then ((s[i.toNat]'h).toNat : Int) else 0

def lenA (h : Hp) : AV → AV × Prop
  | .sl _ _ n => (.int .i64 n, True)
  | .nils => (.int .i64 0, True)
  | .rs b _ len st _ => (.int .i64 len, refOK h b st)
  | .str s => (.int .i64 s.size, True)
  | .z0 => (.int .i64 0, True)
  | _ => (.junk, False)

/-- The type is of the value's kind. -/
def lenU (k : Option TK') (u : AV) : Prop := match k, u with
  | some .str, .str _ => True
  | some (.slc _), .str _ => False
  | some (.slc _), _ => True
  | _, _ => False
def lenT (C : Cx) (t : TypeId) (u : AV) : Prop := lenU (C.kd t) u

def minA (gt : Bool) : AV → AV → AV × Prop
  | .int k a, .int k' b => (.int k (if (if gt then a < b else b < a) then b else a), k = k')
  | _, _ => (.junk, False)

def loadA (C : Cx) (h : Hp) (t : TypeId) (u : AV) : AV × Prop :=
  match C.ty t with
  | none => (.junk, False)
  | some i => match u with
    | .vref cells m off => (partA i cells off, i.known = true ∧ off + i.sz ≤ m ∧ (i.isAgg = false → i.sz = 1))
    | .ref b off st => match h.get b with
      | some r => (partA i r.cells off, i.known = true ∧ st = r.m ∧ off + i.sz ≤ r.m ∧ (i.isAgg = false → i.sz = 1))
      | none => (.junk, False)
    | _ => (.junk, False)

def fieldsA (C : Cx) (t : TypeId) (i : Nat) : Option (TI × Nat) :=
  match C.kd t with
  | some (.struct fs) => match fs[i]? with
    | some (ft, o) => (C.ty ft).map fun fi => (fi, o)
    | none => none
  | _ => none

def faA (C : Cx) (h : Hp) (t : TypeId) (u : AV) (i : Nat) : AV × Prop :=
  match fieldsA C t i, u with
  | some (fi, o), .vref cells m off => (.vref cells m (off + o), fi.sz ≠ 0)
  | some (fi, o), .ref b off st => (.ref b (off + o) st, fi.sz ≠ 0 ∧ refOK h b st)
  | _, _ => (.junk, False)

def fdA (C : Cx) (t : TypeId) (u : AV) (i : Nat) : AV × Prop :=
  match fieldsA C t i, u with
  | some (fi, o), .agg m cs => (partA fi cs o, fi.known = true ∧ o + fi.sz ≤ m ∧ (fi.isAgg = false → fi.sz = 1))
  | _, _ => (.junk, False)

def iaB (h : Hp) (ei : TI) (u v : AV) : AV × Prop :=
  match u, v with
  | .sl cells m n, .int _ i => (.vref cells m (i.toNat * ei.sz), (0 ≤ i ∧ i < n) ∧ 0 < m)
  | .rs b off len st _, .int _ i => (.ref b (off + i.toNat * ei.sz) st, (0 ≤ i ∧ i < len) ∧ refOK h b st)
  | _, _ => (.junk, False)

def iaA (C : Cx) (h : Hp) (t : TypeId) (u v : AV) : AV × Prop :=
  match C.kd t with
  | some (.slc e) => match C.ty e with
    | some ei => iaB h ei u v
    | none => (.junk, False)
  | _ => (.junk, False)

def cvtA (C : Cx) (t : TypeId) (u : AV) : AV × Prop :=
  match C.kd t, u with
  | some (.int k), .int _ n => (.int k (k.wrap n), True)
  | some .str, .str s => (.str s, True)
  | _, _ => (.junk, False)

def srcOK (C : Cx) (s : TypeId) : Prop := match C.ty s with
  | some i => i.known = true
  | none => False

theorem TI.und {P : Program} {s : TypeId} {i : TI} (hk : KindOK P s i.kd) (h : i.known = true) : ∃ d, P.underlying s = some d := by
  unfold TI.known at h
  cases hkd : i.kd <;> rw [hkd] at h hk
  case struct fs => obtain ⟨f, h1, _⟩ := hk; exact ⟨_, h1⟩
  case func => obtain ⟨x, y, z, h1⟩ := hk; exact ⟨_, h1⟩
  case other => simp at h
  all_goals exact ⟨_, hk⟩

theorem srcOK.und {C : Cx} {s : TypeId} (h : srcOK C s) : ∃ d, C.P.underlying s = some d := by
  unfold srcOK at h
  cases hi : C.ty s with
  | none => rw [hi] at h; exact h.elim
  | some i => rw [hi] at h; exact TI.und (C.ok s i hi).1 h

def unA (op : UnOp) (u : AV) : AV × Prop :=
  match op, u with
  | .not, .bool b => (.bool (!b), True)
  | .neg, .int k n => (.int k (k.wrap (0 - n)), True)
  | _, _ => (.junk, False)

def ncA (h : Hp) : AV → AV × Prop
  | .ref b o st => (.ref b o st, refOK h b st)
  | .vref c m o => (.vref c m o, True)
  | .fn f m c => (.fn f m c, True)
  | _ => (.junk, False)

def pkA (c a b : Bool × AV) : AV × Prop :=
  match c.2, a.2, b.2 with
  | .bool p, .bool q, .bool r => (.bool (cond p q r), c.1 = true ∧ (p = true → a.1 = true) ∧ (p = false → b.1 = true))
  | _, _, _ => (.junk, False)

def exA (u : AV) (i : Nat) : AV × Prop :=
  match u with
  | .tup m cs => (cs i, i < m)
  | _ => (.junk, False)

def ixA : AV → AV → AV × Prop
  | .str s, .int _ i => (.int .u8 (btA s i), 0 ≤ i ∧ i < s.size)
  | _, _ => (.junk, False)

/-- A part's cells, and what is asked. -/
def cellsA (h : Hp) : AV → Option (Nat × (Nat → AV) × Prop)
  | .agg m cs => some (m, cs, True)
  | .tup _ _ => none
  | .junk => none
  | .ref b o st => some (1, (fun _ => .ref b o st), refOK h b st)
  | .rs b o l st sz => some (1, (fun _ => .rs b o l st sz), refOK h b st)
  | .bool b => some (1, (fun _ => .bool b), True)
  | .int k n => some (1, (fun _ => .int k n), True)
  | .str s => some (1, (fun _ => .str s), True)
  | .nilp => some (1, (fun _ => .nilp), True)
  | .vref c m o => some (1, (fun _ => .vref c m o), True)
  | .nils => some (1, (fun _ => .nils), True)
  | .sl c m n => some (1, (fun _ => .sl c m n), True)
  | .fn f m c => some (1, (fun _ => .fn f m c), True)
  | .nilf => some (1, (fun _ => .nilf), True)
  | .z0 => some (1, (fun _ => .z0), True)

/-- Cells that are laid over others. -/
def putC (cs : Nat → AV) (o k : Nat) (pc : Nat → AV) : Nat → AV := fun j => if o ≤ j ∧ j < o + k then pc (j - o) else cs j

def fillA (C : Cx) (h : Hp) (fs : List (TypeId × Nat)) (env : Env) : (Nat → AV) → List (Nat × X) → (Nat → AV) × Prop
  | cs, [] => (cs, True)
  | cs, (n, x) :: r => match fs[n]?, cellsA h (ev env x).2 with
    | some (ft, o), some (k, pc, s) => match C.ty ft with
      | some fi => ((fillA C h fs env (putC cs o k pc) r).1, ((ev env x).1 = true ∧ s ∧ k = fi.sz) ∧ (fillA C h fs env (putC cs o k pc) r).2)
      | none => (cs, False)
    | _, _ => (cs, False)

def allTy (C : Cx) : List (TypeId × Nat) → Prop
  | [] => True
  | (t, _) :: r => (C.ty t).isSome = true ∧ allTy C r

/-- Each field lies within. -/
def fits (C : Cx) (fs : List (TypeId × Nat)) (m : Nat) : Prop := match fs with
  | [] => True
  | (t, o) :: r => (match C.ty t with | some fi => o + fi.sz ≤ m | none => False) ∧ fits C r m

def bldA (C : Cx) (h : Hp) (env : Env) (t : TypeId) (ps : List (Nat × X)) : AV × Prop :=
  match C.ty t with
  | some i => match i.kd with
    | .struct fs => (.agg i.sz (ofL (tabL i.sz 0 (fillA C h fs env i.z ps).1)), (allTy C fs ∧ fits C fs i.sz) ∧ (fillA C h fs env i.z ps).2)
    | _ => (.junk, False)
  | none => (.junk, False)

def natA (v : AV) : Option Int := match v with | .int _ n => some n | _ => none

def boundA (env : Env) (x : Option X) (d : Nat) : Option (Bool × Int) :=
  match x with
  | none => some (true, d)
  | some x => (natA (ev env x).2).map fun n => ((ev env x).1, n)

def sliB (C : Cx) (h : Hp) (env : Env) (k : Option TK') (u : AV) (lo hi : Option X) : AV × Prop :=
  match k, u with
  | some .str, .str s => match boundA env lo 0, boundA env hi s.size with
    | some (g1, l), some (g2, k) => (.str (s.extract l.toNat k.toNat), (g1 = true ∧ g2 = true) ∧ 0 ≤ l ∧ l ≤ k ∧ k ≤ s.size)
    | _, _ => (.junk, False)
  | some (.slc e), .nils => match boundA env lo 0, boundA env hi 0 with
    | some (g1, l), some (g2, k) => (.nils, ((g1 = true ∧ g2 = true) ∧ l = 0 ∧ k = 0) ∧ (C.ty e).isSome = true)
    | _, _ => (.junk, False)
  | some (.slc e), .sl cells m n => match C.ty e, boundA env lo 0, boundA env hi n with
    | some ei, some (g1, l), some (g2, k) => (CS ei.sz cells (l.toNat * ei.sz) (k - l).toNat, (g1 = true ∧ g2 = true) ∧ (0 ≤ l ∧ l ≤ k ∧ k ≤ n) ∧ n * ei.sz ≤ m)
    | _, _, _ => (.junk, False)
  | some (.slc e), .rs b off len st sz => match C.ty e, boundA env lo 0, boundA env hi len with
    | some ei, some (g1, l), some (g2, k) => (.rs b (off + l.toNat * ei.sz) (k - l).toNat st sz, (g1 = true ∧ g2 = true) ∧ (0 ≤ l ∧ l ≤ k ∧ k ≤ len) ∧ (l = 0 ∨ l < len) ∧ sz = ei.sz ∧ 0 < sz ∧ refOK h b st)
    | _, _, _ => (.junk, False)
  | _, _ => (.junk, False)

def sliA (C : Cx) (h : Hp) (env : Env) (t : TypeId) (u : AV) (lo hi : Option X) : AV × Prop := sliB C h env (C.kd t) u lo hi

/-- x[:0:0]. -/
def sz0B (C : Cx) (h : Hp) (k : Option TK') (u : AV) : AV × Prop :=
  match k, u with
  | some (.slc e), .nils => (.z0, (C.ty e).isSome = true)
  | some (.slc e), .z0 => (.z0, (C.ty e).isSome = true)
  | some (.slc e), .sl _ _ _ => (.z0, (C.ty e).isSome = true)
  | some (.slc e), .rs b _ _ st _ => (.z0, (C.ty e).isSome = true ∧ refOK h b st)
  | _, _ => (.junk, False)

def sz0A (C : Cx) (h : Hp) (t : TypeId) (u : AV) : AV × Prop := sz0B C h (C.kd t) u

def zz (lo hi : Option X) (m : X) : Bool := match lo, hi, m with
  | none, some (.i _ 0), .i _ 0 => true
  | _, _, _ => false

def pv (C : Cx) (h : Hp) (env : Env) : I → AV × Prop
  | .mv x => ((ev env x).2, (ev env x).1 = true)
  | .pk c a b => pkA (ev env c) (ev env a) (ev env b)
  | .bld t ps => bldA C h env t ps
  | .ld t x => ((loadA C h t (ev env x).2).1, (ev env x).1 = true ∧ (loadA C h t (ev env x).2).2)
  | .nc x => ((ncA h (ev env x).2).1, (ev env x).1 = true ∧ (ncA h (ev env x).2).2)
  | .bin op t x y => ((binAll C h op t (ev env x).2 (ev env y).2).1, ((ev env x).1 = true ∧ (ev env y).1 = true) ∧ (binAll C h op t (ev env x).2 (ev env y).2).2)
  | .un op x => ((unA op (ev env x).2).1, (ev env x).1 = true ∧ (unA op (ev env x).2).2)
  | .cvt s t x => ((cvtA C t (ev env x).2).1, (ev env x).1 = true ∧ srcOK C s ∧ (cvtA C t (ev env x).2).2)
  | .mf f cs => (.fn f cs.length (ofL ((evs env cs).map (·.2))), allG (evs env cs))
  | .sli t x lo hi none => ((sliA C h env t (ev env x).2 lo hi).1, (ev env x).1 = true ∧ (sliA C h env t (ev env x).2 lo hi).2)
  | .sli t x lo hi (some m) => ((sz0A C h t (ev env x).2).1, zz lo hi m = true ∧ (ev env x).1 = true ∧ (sz0A C h t (ev env x).2).2)
  | .fa t x i => ((faA C h t (ev env x).2 i).1, (ev env x).1 = true ∧ (faA C h t (ev env x).2 i).2)
  | .fd t x i => ((fdA C t (ev env x).2 i).1, (ev env x).1 = true ∧ (fdA C t (ev env x).2 i).2)
  | .ia t x y => ((iaA C h t (ev env x).2 (ev env y).2).1, ((ev env x).1 = true ∧ (ev env y).1 = true) ∧ (iaA C h t (ev env x).2 (ev env y).2).2)
  | .ix t x y => ((ixA (ev env x).2 (ev env y).2).1, ((ev env x).1 = true ∧ (ev env y).1 = true) ∧ C.kd t = some .str ∧ (ixA (ev env x).2 (ev env y).2).2)
  | .ex x i => ((exA (ev env x).2 i).1, (ev env x).1 = true ∧ (exA (ev env x).2 i).2)
  | .bi .len [t] [x] => ((lenA h (ev env x).2).1, ((ev env x).1 = true ∧ lenT C t (ev env x).2) ∧ (lenA h (ev env x).2).2)
  | .bi .min _ [x, y] => ((minA false (ev env x).2 (ev env y).2).1, ((ev env x).1 = true ∧ (ev env y).1 = true) ∧ (minA false (ev env x).2 (ev env y).2).2)
  | .bi .max _ [x, y] => ((minA true (ev env x).2 (ev env y).2).1, ((ev env x).1 = true ∧ (ev env y).1 = true) ∧ (minA true (ev env x).2 (ev env y).2).2)
  | _ => (.junk, False)

/-! ### each is so -/
section
variable {C : Cx} {nt : Nat} {μ : Mu} {env : Env} {h : Hp} {a : Act} {w : World}

theorem pkA_ok {oc oa ob : Operand} {c x y : X} (hc : cookX oc = some c) (ha : cookX oa = some x) (hb : cookX ob = some y) (he : EnvR μ w env a)
    (hs : (pkA (ev env c) (ev env x) (ev env y)).2) :
    ∃ p, a.eval oc = .bool p ∧ VR μ w (pkA (ev env c) (ev env x) (ev env y)).1 (if p then a.eval oa else a.eval ob) := by
  unfold pkA at hs ⊢
  split at hs
  case h_1 p q r e1 e2 e3 =>
    obtain ⟨h1, h2, h3⟩ := hs
    have hc' := ev_ok hc he h1
    rw [e1] at hc'
    refine ⟨p, hc', ?_⟩
    cases p
    · have := ev_ok hb he (h3 rfl)
      rw [e3] at this
      exact this
    · have := ev_ok ha he (h2 rfl)
      rw [e2] at this
      exact this
  case h_2 => exact hs.elim

theorem cell_at {w : World} {g o i : Nat} : w.cell? ((⟨g, o, none⟩ : Addr).add i) = w.cell? ⟨g, o + i, none⟩ := by
  unfold Addr.add
  split
  · subst_vars; rfl
  · rfl

theorem add_at (g o i : Nat) : (⟨g, o, none⟩ : Addr).add i = ⟨g, o + i, none⟩ := by
  unfold Addr.add
  split
  · subst_vars; rfl
  · rfl

/-- A load of cells that are told. -/
theorem load_cells {t : TypeId} {i : TI} (hi : C.ty t = some i) (hk : i.known = true) {g o : Nat} {cs : Nat → AV} (h1 : i.isAgg = false → i.sz = 1)
    (hc : ∀ j, j < i.sz → ∃ u, w.cell? ⟨g, o + j, none⟩ = some u ∧ VR μ w (cs j) u) :
    ∃ c, (loadVar t ⟨g, o, none⟩).run C.P w = .ok c w ∧ VR μ w (if i.isAgg then .agg i.sz cs else cs 0) c := by
  cases ha : i.isAgg with
  | false =>
    obtain ⟨u, hu, hv⟩ := hc 0 (by rw [h1 ha]; omega)
    exact ⟨u, by simp [loadVar, Cx.agg hi hk, ha, show w.cell? ⟨g, o, none⟩ = some u from hu], hv⟩
  | true =>
    have hex : ∀ j, ∃ u, j < i.sz → w.cell? ⟨g, o + j, none⟩ = some u ∧ VR μ w (cs j) u := by
      intro j
      by_cases hj : j < i.sz
      · obtain ⟨u, hu⟩ := hc j hj
        exact ⟨u, fun _ => hu⟩
      · exact ⟨undef, fun h => absurd h hj⟩
    obtain ⟨f, hf⟩ := Classical.axiomOfChoice hex
    have hl : (loadCells ⟨g, o, none⟩ i.sz).run C.P w = .ok ((List.range i.sz).map f).toArray w :=
      run_loadCells w _ i.sz f (fun j hj => by rw [cell_at]; exact (hf j hj).1)
    refine ⟨.agg ((List.range i.sz).map f).toArray, by simp [loadVar, Cx.agg hi hk, ha, Cx.size hi, hl], _, rfl, by simp, fun j hj => ?_⟩
    simpa [hj] using (hf j hj).2

theorem partA_eq (i : TI) (cs : Nat → AV) (o : Nat) (h : i.isAgg = false → i.sz = 1) : partA i cs o = if i.isAgg then .agg i.sz (cutM cs o i.sz) else cutM cs o i.sz 0 := by
  unfold partA cutM
  cases hb : i.isAgg with
  | true => simp
  | false => simp [h hb]

theorem cutM_at {cs : Nat → AV} {o m j : Nat} (h : j < m) : cutM cs o m j = cs (o + j) := by simp [cutM, h]

theorem loadA_ok (hS : Sim μ h w) {t : TypeId} {u : AV} {v : Value} (hv : VR μ w u v) (hs : (loadA C h t u).2) :
    ∃ c, (Instr.loadAt t v).run C.P w = .ok c w ∧ VR μ w (loadA C h t u).1 c := by
  unfold loadA at hs ⊢
  cases hi : C.ty t with
  | none => rw [hi] at hs; exact hs.elim
  | some i =>
    rw [hi] at hs
    simp only at hs ⊢
    cases u with
    | vref cells m off =>
      simp only at hs ⊢
      obtain ⟨hk, hm, h1⟩ := hs
      obtain ⟨g, o, rfl, hse, hc⟩ := hv
      obtain ⟨c, hr, hv⟩ := load_cells (μ := μ) (w := w) (cs := cutM cells off i.sz) (g := g) (o := o + off) hi hk h1 (fun j hj => by
        obtain ⟨u, hu, hv⟩ := hc (off + j) (by omega)
        exact ⟨u, by rw [← hu]; congr 2; omega, by rw [cutM_at hj]; exact hv⟩)
      exact ⟨c, by simpa [Instr.loadAt, Instr.sureAddr] using hr, by rw [partA_eq _ _ _ h1]; exact hv⟩
    | ref b off st =>
      simp only at hs ⊢
      cases hg : h.get b with
      | none => rw [hg] at hs; exact hs.elim
      | some r =>
        rw [hg] at hs
        simp only at hs ⊢
        obtain ⟨hk, hst, hm, h1⟩ := hs
        obtain ⟨r', B, cs, hg', _, _, _, rfl, hh, hE, hm', hc⟩ := hS.ref (by unfold refOK; rw [hg]; exact hst) hv
        rw [hg] at hg'
        injection hg' with hg'
        subst hg'
        obtain ⟨c, hr, hv⟩ := load_cells (μ := μ) (w := w) (cs := cutM r.cells off i.sz) (g := B.g) (o := off) hi hk h1 (fun j hj => by
          obtain ⟨u, hu, hv⟩ := hc (off + j) (by omega)
          exact ⟨u, by simp [World.cell?, hh, hu], by rw [cutM_at hj]; exact hv⟩)
        exact ⟨c, by simpa [Instr.loadAt, Instr.sureAddr] using hr, by rw [partA_eq _ _ _ h1]; exact hv⟩
    | _ => exact hs.elim

theorem fieldsA_ok {t : TypeId} {i : Nat} {fi : TI} {o : Nat} (he : fieldsA C t i = some (fi, o)) :
    ∃ (fields : Array Field) (f : Field), C.P.underlying t = some (.struct fields) ∧ fields[i]? = some f ∧ C.ty f.type = some fi ∧ f.offset = o := by
  unfold fieldsA at he
  split at he
  case h_2 => simp at he
  case h_1 fs hk =>
    split at he
    case h_2 => simp at he
    case h_1 ft o' hf =>
      obtain ⟨fi', h1, h2⟩ := Option.map_eq_some_iff.1 he
      simp only [Prod.mk.injEq] at h2
      obtain ⟨rfl, rfl⟩ := h2
      obtain ⟨_, _, _, ⟨fields, hK, rfl, _⟩⟩ := kd_ok hk
      simp only [List.getElem?_map, Option.map_eq_some_iff] at hf
      obtain ⟨f, hf1, hf2⟩ := hf
      simp only [Prod.mk.injEq] at hf2
      obtain ⟨rfl, rfl⟩ := hf2
      exact ⟨fields, f, hK, by simpa using hf1, h1, rfl⟩

theorem faA_ok (hS : Sim μ h w) {t : TypeId} {i : Nat} {u : AV} {v : Value} (hv : VR μ w u v) (hs : (faA C h t u i).2) :
    ∃ c, (Instr.fieldAt t v i).run C.P w = .ok c w ∧ VR μ w (faA C h t u i).1 c := by
  unfold faA at hs ⊢
  cases he : fieldsA C t i with
  | none => rw [he] at hs; exact hs.elim
  | some p =>
    obtain ⟨fi, o⟩ := p
    rw [he] at hs
    obtain ⟨fields, f, hK, hf, hft, rfl⟩ := fieldsA_ok he
    cases u with
    | vref cells m off =>
      simp only at hs ⊢
      obtain ⟨g, o, rfl, hse, hc⟩ := hv
      refine ⟨.pointer (some ⟨g, o + off + f.offset, none⟩), ?_, g, o, by rw [Nat.add_assoc], hse, hc⟩
      simp [Instr.fieldAt, run_und hK, hf, Instr.sureAddr, fieldPlace, Cx.size hft, hs, add_at]
    | ref b off st =>
      simp only at hs ⊢
      obtain ⟨h0, hr⟩ := hs
      obtain ⟨r, B, cs, hg, hst, hB, hL, rfl, _⟩ := hS.ref hr hv
      refine ⟨.pointer (some ⟨B.g, off + f.offset, none⟩), ?_, hv.1, hv.2.1, fun B' e => ?_⟩
      · simp [Instr.fieldAt, run_und hK, hf, Instr.sureAddr, fieldPlace, Cx.size hft, h0, add_at]
      · rw [hB] at e
        injection e with e
        subst e
        exact ⟨by omega, fun _ => rfl⟩
    | _ => exact hs.elim

theorem fdA_ok {t : TypeId} {i : Nat} {u : AV} {v : Value} (hv : VR μ w u v) (hs : (fdA C t u i).2) :
    ∃ c, (Instr.field t v i).run C.P w = .ok c w ∧ VR μ w (fdA C t u i).1 c := by
  unfold fdA at hs ⊢
  cases he : fieldsA C t i with
  | none => rw [he] at hs; exact hs.elim
  | some p =>
    obtain ⟨fi, o⟩ := p
    rw [he] at hs
    obtain ⟨fields, f, hK, hf, hft, rfl⟩ := fieldsA_ok he
    cases u with
    | agg m cs =>
      simp only at hs ⊢
      obtain ⟨hk, hm, h1⟩ := hs
      obtain ⟨vs, rfl, hsz, hc⟩ := hv
      cases ha : fi.isAgg with
      | false =>
        have h0 := h1 ha
        have : f.offset < vs.size := by omega
        refine ⟨vs.getD f.offset undef, ?_, by simpa [partA, ha] using hc f.offset (by omega)⟩
        simp [Instr.field, run_und hK, hf, asAgg, part, Cx.agg hft hk, ha, Array.getD, this]
      | true =>
        refine ⟨.agg (vs.extract f.offset (f.offset + fi.sz)), ?_, ?_⟩
        · simp [Instr.field, run_und hK, hf, asAgg, part, Cx.agg hft hk, ha, Cx.size hft]
        · simp only [partA, ha, if_true]
          refine ⟨_, rfl, by simp; omega, fun j hj => ?_⟩
          have := hc (f.offset + j) (by omega)
          have h2 : (vs.extract f.offset (f.offset + fi.sz)).getD j undef = vs.getD (f.offset + j) undef := by
            simp only [Array.getD_eq_getD_getElem?]
            rw [Array.getElem?_extract]
            rw [if_pos (by omega)]
          rw [h2, cutM_at hj]
          exact this
    | _ => exact hs.elim

theorem iaA_ok (hS : Sim μ h w) {t : TypeId} {u v : AV} {x y : Value} (hu : VR μ w u x) (hv : VR μ w v y) (hs : (iaA C h t u v).2) :
    ∃ c, (Instr.indexAt t x y).run C.P w = .ok c w ∧ VR μ w (iaA C h t u v).1 c := by
  unfold iaA at hs ⊢
  split at hs
  case h_2 => exact hs.elim
  case h_1 e hk =>
    obtain ⟨_, _, _, hK⟩ := kd_ok hk
    cases he : C.ty e with
    | none => rw [he] at hs; exact hs.elim
    | some ei =>
      rw [he] at hs
      simp only at hs ⊢
      unfold iaB at hs ⊢
      split at hs
      case h_1 cells m n k i =>
        obtain ⟨⟨h0, h1⟩, hm⟩ := hs
        obtain ⟨ad, cap, rfl, hn, hse, hc⟩ := hu.resolve_left fun hh => by omega
        obtain rfl : y = .int k i := hv
        obtain ⟨hsp, hse⟩ := hse hm
        obtain ⟨ab, ao, asp⟩ := ad
        simp only at hsp
        subst hsp
        refine ⟨.pointer (some ⟨ab, ao + i.toNat * ei.sz, none⟩), ?_, ab, ao, rfl, hse, hc⟩
        simp [Instr.indexAt, asIntOf, run_und hK, h0, h1, Cx.size he, add_at]
      case h_2 b off len st sz k i =>
        obtain ⟨⟨h0, h1⟩, hr⟩ := hs
        obtain ⟨r, B, cs, cap, hg, hst, hB, hL, rfl, hcap, _⟩ := (hS.rs hr hu).resolve_left fun ⟨_, _, _, _, _, hl, _⟩ => by omega
        obtain rfl : y = .int k i := hv
        refine ⟨.pointer (some ⟨B.g, off + i.toNat * ei.sz, none⟩), ?_, hu.1, (fun hv => by have := (hu.2.2.1 hv).2.1; omega), fun B' e => ?_⟩
        · simp [Instr.indexAt, asIntOf, run_und hK, h0, h1, Cx.size he, add_at]
        · rw [hB] at e
          injection e with e
          subst e
          exact ⟨by omega, fun _ => rfl⟩
      case h_3 => exact hs.elim

theorem lenA_ok (hS : Sim μ h w) {t : TypeId} {ty : TypeId} {u : AV} {x : Value} (hu : VR μ w u x)
    (hkt : lenT C t u) (hs : (lenA h u).2) :
    ∃ c, (Builtin.len_ #[t] ty #[x]).run C.P w = .ok c w ∧ VR μ w (lenA h u).1 c := by
  have hk : (C.kd t = some .str ∧ ∃ s, u = .str s) ∨ ((∃ e, C.kd t = some (.slc e)) ∧ ∀ s, u ≠ .str s) := by
    unfold lenT lenU at hkt
    split at hkt
    case h_1 s h1 => exact .inl ⟨h1, s, rfl⟩
    case h_2 => exact hkt.elim
    case h_3 e h1 hne => exact .inr ⟨⟨_, h1⟩, fun s hs => hne _ hs⟩
    case h_4 => exact hkt.elim
  rcases hk with ⟨hk, s, rfl⟩ | ⟨⟨e, hk⟩, hne⟩
  · obtain rfl : x = .string s := hu
    obtain ⟨_, _, _, hK⟩ := kd_ok hk
    exact ⟨_, by simp [Builtin.len_, run_und hK, goInt], rfl⟩
  · obtain ⟨_, _, _, hK⟩ := kd_ok hk
    unfold lenA at hs ⊢
    split at hs
    case h_1 =>
      rcases hu with ⟨rfl, _, rfl⟩ | ⟨ad, cap, rfl, _⟩ <;> exact ⟨_, by simp [Builtin.len_, run_und hK, goInt], rfl⟩
    case h_2 =>
      obtain rfl : x = .slice none 0 0 := hu
      exact ⟨_, by simp [Builtin.len_, run_und hK, goInt], rfl⟩
    case h_3 =>
      rcases hS.rs hs hu with ⟨_, _, _, _, _, rfl, _, _, _, rfl⟩ | ⟨r, B, cs, cap, _, _, _, _, rfl, _⟩ <;> exact ⟨_, by simp [Builtin.len_, run_und hK, goInt], rfl⟩
    case h_4 s => exact absurd rfl (hne s)
    case h_5 =>
      obtain ⟨_, rfl⟩ := hu
      exact ⟨_, by simp [Builtin.len_, run_und hK, goInt], rfl⟩
    case h_6 => exact hs.elim

theorem ncA_ok (hS : Sim μ h w) {o : Oper} {x : Operand} {u : AV} (ho : o.op = .nilCheck x) (hu : VR μ w u (a.eval x)) (hs : (ncA h u).2) :
    ∃ c, (execOp a.eval o).run C.P w = .ok (.value c) w ∧ VR μ w (ncA h u).1 c := by
  unfold ncA at hs ⊢
  split at hs
  case h_1 b off st =>
    obtain ⟨r, B, cs, _, _, _, _, he, _⟩ := hS.ref hs hu
    exact ⟨a.eval x, by simp [execOp, ho, he], hu⟩
  case h_2 =>
    obtain ⟨g, o', he, hr⟩ := hu
    exact ⟨a.eval x, by simp [execOp, ho, he], g, o', he, hr⟩
  case h_3 =>
    obtain ⟨vs, he, hr⟩ := hu
    exact ⟨a.eval x, by simp [execOp, ho, he], vs, he, hr⟩
  case h_4 => exact hs.elim

theorem minA_ok {gt : Bool} {ts : Array TypeId} {ty : TypeId} {u v : AV} {x y : Value} (hu : VR μ w u x) (hv : VR μ w v y) (hs : (minA gt u v).2) :
    ∃ c, (if gt then Builtin.max_ ts ty #[x, y] else Builtin.min_ ts ty #[x, y]).run C.P w = .ok c w ∧ VR μ w (minA gt u v).1 c := by
  unfold minA at hs ⊢
  split at hs
  case h_1 k p k' q =>
    obtain rfl : x = .int k p := hu
    obtain rfl : y = .int k' q := hv
    simp only at hs
    subst hs
    cases gt
    · exact ⟨.int k (if q < p then q else p), by simp [Builtin.min_, Builtin.min2], by simp [VR]⟩
    · exact ⟨.int k (if p < q then q else p), by simp [Builtin.max_, Builtin.max2], by simp [VR]⟩
  case h_2 => exact hs.elim

theorem ixA_ok {t : TypeId} (hk : C.kd t = some .str) {u v : AV} {x y : Value} (hu : VR μ w u x) (hv : VR μ w v y) (hs : (ixA u v).2) :
    ∃ c, (Instr.index t x y).run C.P w = .ok c w ∧ VR μ w (ixA u v).1 c := by
  unfold ixA at hs ⊢
  split at hs
  case h_1 s k i =>
    obtain rfl : x = .string s := hu
    obtain rfl : y = .int k i := hv
    obtain ⟨_, _, _, hK⟩ := kd_ok hk
    have hlt : i.toNat < s.size := by omega
    refine ⟨.int .u8 (s[i.toNat]'hlt).toNat, ?_, by simp [VR, btA, hlt]⟩
    simp [Instr.index, asIntOf, run_und hK, hs.1, hlt]
  case h_2 => exact hs.elim

theorem cvtA_ok {s t : TypeId} {u : AV} {x : Value} (hu : VR μ w u x) (hsk : ∃ d, C.P.underlying s = some d) (hs : (cvtA C t u).2) :
    ∃ c, (convert s t x).run C.P w = .ok c w ∧ VR μ w (cvtA C t u).1 c := by
  obtain ⟨d, hd⟩ := hsk
  unfold cvtA at hs ⊢
  split at hs
  case h_1 k k' n hk =>
    obtain rfl : x = .int k' n := hu
    obtain ⟨_, _, _, hK⟩ := kd_ok hk
    exact ⟨_, by simp [convert, run_und hK, run_und hd, Conv.intToInt], rfl⟩
  case h_2 s' hk =>
    obtain rfl : x = .string s' := hu
    obtain ⟨_, _, _, hK⟩ := kd_ok hk
    refine ⟨.string s', ?_, rfl⟩
    simp only [convert, Sem.run_bind, run_und hK, run_und hd, Result.andThen_ok]
    cases d <;> simp
  case h_3 => exact hs.elim

theorem exA_ok {u : AV} {x : Value} {i : Nat} (hu : VR μ w u x) (hs : (exA u i).2) :
    ∃ c, (Instr.extract x i).run C.P w = .ok c w ∧ VR μ w (exA u i).1 c := by
  unfold exA at hs ⊢
  split at hs
  case h_1 m cs =>
    obtain ⟨vs, rfl, hm, hc⟩ := hu
    have : i < vs.size := by simp only at hs; omega
    exact ⟨vs.getD i undef, by simp [Instr.extract, Array.getD, this], hc i hs⟩
  case h_2 => exact hs.elim

end
end Go.AM
