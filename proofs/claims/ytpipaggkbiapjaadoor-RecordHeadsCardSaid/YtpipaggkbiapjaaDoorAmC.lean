import Derived.Test.YtpipaggkbiapjaaDoorAmB
import Derived.Laws.Sem
import Derived.Laws.Cells
import Derived.Laws.CopyRow
/- Types as the walk reads them; what an operation that writes nothing gives. -/
namespace Go.AM

inductive TK' where
  | int (k : IntKind)
  | bool
  | str
  | ptr (e : TypeId)
  | slc (e : TypeId)
  | struct (fs : List (TypeId × Nat))
  | func
  | other

/-- A type: its kind, its cells, its bytes, its zero value. -/
structure TI where
  kd : TK'
  sz : Nat
  by' : Nat
  zv : Value

def TI.isAgg (i : TI) : Bool := match i.kd with | .struct _ => true | _ => false

def KindOK (P : Program) (t : TypeId) : TK' → Prop
  | .int k => P.underlying t = some (.int k)
  | .bool => P.underlying t = some .bool
  | .str => P.underlying t = some .string
  | .ptr e => P.underlying t = some (.pointer e)
  | .slc e => P.underlying t = some (.slice e)
  | .struct fs => ∃ fields : Array Field, P.underlying t = some (.struct fields) ∧ fields.toList.map (fun f => (f.type, f.offset)) = fs ∧
      P.stoodInHeld t = false ∧ P.eqGuardType P.depth t = false ∧ fields.toList.all (fun f => f.name != "_") = true
  | .func => ∃ a b c, P.underlying t = some (.func a b c)
  | .other => True

def TyOK (P : Program) (t : TypeId) (i : TI) : Prop :=
  KindOK P t i.kd ∧ (P.info? t).map (fun i => (i.zero, i.size, i.bytes)) = some (some i.zv, i.sz, i.by') ∧ i.zv.cells.size = i.sz

/-- A program with its types. -/
structure Cx where
  P : Program
  ty : TypeId → Option TI
  ok : ∀ t i, ty t = some i → TyOK P t i

theorem run_und {P : Program} {t : TypeId} {d : TypeDesc} (h : P.underlying t = some d) (w : World) : (underlying t).run P w = .ok d w := by
  simp [underlying, h]

theorem Cx.size {C : Cx} {t : TypeId} {i : TI} (h : C.ty t = some i) (w : World) : (sizeOf t).run C.P w = .ok i.sz w := by
  have := (C.ok t i h).2.1
  obtain ⟨j, hj, he⟩ := Option.map_eq_some_iff.1 this
  simp only [Prod.mk.injEq] at he
  simp [sizeOf, typeInfo, hj, he.2.1]

theorem Cx.bytes {C : Cx} {t : TypeId} {i : TI} (h : C.ty t = some i) (w : World) : ∃ j, (typeInfo t).run C.P w = .ok j w ∧ j.bytes = i.by' ∧ j.size = i.sz := by
  have := (C.ok t i h).2.1
  obtain ⟨j, hj, he⟩ := Option.map_eq_some_iff.1 this
  simp only [Prod.mk.injEq] at he
  exact ⟨j, by simp [typeInfo, hj], he.2.2, he.2.1⟩

theorem Cx.zero {C : Cx} {t : TypeId} {i : TI} (h : C.ty t = some i) (w : World) : (zeroValue t).run C.P w = .ok i.zv w := by
  have := (C.ok t i h).2.1
  obtain ⟨j, hj, he⟩ := Option.map_eq_some_iff.1 this
  simp only [Prod.mk.injEq] at he
  simp [zeroValue, typeInfo, hj, he.1]

/-- A type whose kind is told. -/
def TI.known (i : TI) : Bool := match i.kd with | .other => false | _ => true

theorem Cx.agg {C : Cx} {t : TypeId} {i : TI} (h : C.ty t = some i) (hk : i.known = true) (w : World) : (isAgg t).run C.P w = .ok i.isAgg w := by
  have hk' := (C.ok t i h).1
  unfold KindOK at hk'
  unfold TI.known at hk
  unfold TI.isAgg
  cases hkd : i.kd <;> rw [hkd] at hk' hk <;> simp only at hk' ⊢
  case struct fs => obtain ⟨fields, h1, _, _⟩ := hk'; simp [isAgg, run_und h1]
  case func => obtain ⟨a, b, c, h1⟩ := hk'; simp [isAgg, run_und h1]
  case other => simp at hk
  all_goals simp [isAgg, run_und hk']

/-! ### operands -/
def ev (env : Env) : X → Bool × AV
  | .t n => (lk env n).getD (false, .junk)
  | .i k n => (true, .int k n)
  | .b b => (true, .bool b)
  | .s s => (true, .str s)
  | .np => (true, .nilp)
  | .ns => (true, .nils)
  | .nf => (true, .nilf)
  | .fn f => (true, .fn f 0 fun _ => .junk)
  | .gl _ => (false, .junk)

theorem ev_ok {o : Operand} {x : X} (hc : cookX o = some x) {μ w env} {a : Act} (he : EnvR μ w env a) (hg : (ev env x).1 = true) : VR μ w (ev env x).2 (a.eval o) := by
  unfold cookX at hc
  split at hc <;> try (simp at hc; done)
  all_goals (injection hc with hc; subst hc)
  case h_1 t =>
    simp only [ev] at hg ⊢
    cases h : lk env t with
    | none => simp [h] at hg
    | some p =>
      obtain ⟨g, v⟩ := p
      simp only [h, Option.getD_some] at hg ⊢
      exact (he t g v h).1 hg
  case h_8 => exact ⟨#[], rfl, rfl, fun i hi => absurd hi (by omega)⟩
  case h_9 => simp [ev] at hg
  all_goals rfl

def ofL (l : List AV) : Nat → AV := fun i => l.getD i .junk

def evs (env : Env) : List X → List (Bool × AV)
  | [] => []
  | x :: r => ev env x :: evs env r

theorem evs_ok : ∀ {os : List Operand} {xs : List X}, cookXs os = some xs → ∀ {μ w env} {a : Act}, EnvR μ w env a → (∀ p ∈ evs env xs, p.1 = true) →
    os.length = xs.length ∧ ∀ i, i < xs.length → VR μ w (ofL ((evs env xs).map (·.2)) i) ((os.map a.eval).getD i undef)
  | [], xs, hc, μ, w, env, a, _, _ => by
    simp only [cookXs, Option.some.injEq] at hc
    subst hc
    exact ⟨rfl, fun i hi => absurd hi (by simp)⟩
  | o :: os, xs, hc, μ, w, env, a, he, hg => by
    simp only [cookXs] at hc
    split at hc
    case h_2 => simp at hc
    case h_1 x xs' h1 h2 =>
      injection hc with hc
      subst hc
      have hg1 : (ev env x).1 = true := hg _ (by simp [evs])
      have ih := evs_ok h2 he (fun p hp => hg p (by simp [evs, hp]))
      refine ⟨by simp [ih.1], fun i hi => ?_⟩
      cases i with
      | zero => simpa [evs, ofL] using ev_ok h1 he hg1
      | succ i => simpa [evs, ofL] using ih.2 i (by simpa using hi)

theorem evs_length (env : Env) : ∀ xs, (evs env xs).length = xs.length
  | [] => rfl
  | x :: r => by simp [evs, evs_length env r]

def allG : List (Bool × AV) → Prop
  | [] => True
  | p :: r => p.1 = true ∧ allG r
theorem allG_ok : ∀ {l}, allG l → ∀ p ∈ l, p.1 = true
  | [], _, p, hp => absurd hp (by simp)
  | q :: r, h, p, hp => by
    rcases List.mem_cons.1 hp with rfl | hp
    · exact h.1
    · exact allG_ok h.2 p hp

/-! ### numbers -/
theorem w64 {x : Int} (h1 : -9223372036854775808 ≤ x) (h2 : x ≤ 9223372036854775807) : IntKind.i64.wrap x = x := by
  have : IntKind.i64.wrap x = if x % 18446744073709551616 ≥ 9223372036854775808 then x % 18446744073709551616 - 18446744073709551616 else x % 18446744073709551616 := by
    unfold IntKind.wrap
    simp [IntKind.signed, IntKind.bits]
  rw [this]
  split <;> omega

def cmpI (op : BinOp) (x y : Int) : Option Bool :=
  match op with
  | .eql => some (x == y)
  | .neq => some (x != y)
  | .lss => some (decide (x < y))
  | .leq => some (decide (x ≤ y))
  | .gtr => some (decide (x > y))
  | .geq => some (decide (x ≥ y))
  | _ => none

def bitsI (op : BinOp) (k : IntKind) (x y : Int) : Int :=
  let a := BitVec.ofInt k.bits x
  let b := BitVec.ofInt k.bits y
  match op with
  | .and => k.wrap (a &&& b).toNat
  | .or => k.wrap (a ||| b).toNat
  | .xor => k.wrap (a ^^^ b).toNat
  | _ => k.wrap (a &&& ~~~b).toNat

/-- x op y: the value, and what it asks. -/
def binA (op : BinOp) : AV → AV → AV × Prop
  | .int k a, .int k' b =>
    match op with
    | .shl => (.int k (k.wrap (a * 2 ^ (min b.toNat k.bits))), 0 ≤ b)
    | .shr => (.int k (a.fdiv (2 ^ (min b.toNat k.bits))), 0 ≤ b)
    | .add => (.int k (k.wrap (a + b)), k = k')
    | .sub => (.int k (k.wrap (a - b)), k = k')
    | .mul => (.int k (k.wrap (a * b)), k = k')
    | .quo => (.int k (k.wrap (a.tdiv b)), k = k' ∧ b ≠ 0)
    | .rem => (.int k (a.tmod b), k = k' ∧ b ≠ 0)
    | .and => (.int k (bitsI .and k a b), k = k')
    | .or => (.int k (bitsI .or k a b), k = k')
    | .xor => (.int k (bitsI .xor k a b), k = k')
    | .andNot => (.int k (bitsI .andNot k a b), k = k')
    | .eql => (.bool (a == b), k = k')
    | .neq => (.bool (a != b), k = k')
    | .lss => (.bool (decide (a < b)), k = k')
    | .leq => (.bool (decide (a ≤ b)), k = k')
    | .gtr => (.bool (decide (a > b)), k = k')
    | .geq => (.bool (decide (a ≥ b)), k = k')
  | .str a, .str b =>
    match op with
    | .add => (.str (a ++ b), ((a.size + b.size : Nat) : Int) ≤ 9223372036854775807)
    | .eql => (.bool (a.toList == b.toList), True)
    | .neq => (.bool (!(a.toList == b.toList)), True)
    | .lss => (.bool (Op.bytesLess a.toList b.toList), True)
    | .leq => (.bool (Op.bytesLess a.toList b.toList || a.toList == b.toList), True)
    | .gtr => (.bool (!(Op.bytesLess a.toList b.toList || a.toList == b.toList)), True)
    | .geq => (.bool (!(Op.bytesLess a.toList b.toList)), True)
    | _ => (.junk, False)
  | _, _ => (.junk, False)

theorem binA_ok {P : Program} {op : BinOp} {t : TypeId} {x y : Operand} {v u : AV} {a b : Value} {μ : Mu} {w : World} (hv : VR μ w v a) (hu : VR μ w u b) (hs : (binA op v u).2) :
    ∃ c, Sem.run P (do eqGuard op t x y a b; binOp op t a b) w = .ok c w ∧ VR μ w (binA op v u).1 c := by
  unfold binA at hs ⊢
  split at hs
  case h_1 k a' k' b' =>
    have ha : a = .int k a' := hv
    have hb : b = .int k' b' := hu
    subst ha hb
    have hg : Sem.run P (eqGuard op t x y (.int k a') (.int k' b')) w = .ok () w := by
      unfold eqGuard; cases op <;> simp
    simp only [Sem.run_bind, hg, Result.andThen_ok]
    cases op <;> simp only at hs ⊢
    case add => subst hs; exact ⟨_, by simp [binOp, Op.intArith], rfl⟩
    case sub => subst hs; exact ⟨_, by simp [binOp, Op.intArith], rfl⟩
    case mul => subst hs; exact ⟨_, by simp [binOp, Op.intArith], rfl⟩
    case quo => obtain ⟨rfl, h0⟩ := hs; exact ⟨_, by simp [binOp, Op.intDiv, h0], rfl⟩
    case rem => obtain ⟨rfl, h0⟩ := hs; exact ⟨_, by simp [binOp, Op.intDiv, h0], rfl⟩
    case and => subst hs; exact ⟨.int k (bitsI .and k a' b'), by simp [binOp, Op.intBits, bitsI], rfl⟩
    case or => subst hs; exact ⟨.int k (bitsI .or k a' b'), by simp [binOp, Op.intBits, bitsI], rfl⟩
    case xor => subst hs; exact ⟨.int k (bitsI .xor k a' b'), by simp [binOp, Op.intBits, bitsI], rfl⟩
    case andNot => subst hs; exact ⟨.int k (bitsI .andNot k a' b'), by simp [binOp, Op.intBits, bitsI], rfl⟩
    case shl => exact ⟨_, by simp [binOp, Op.shift, show ¬ b' < 0 by omega], rfl⟩
    case shr => exact ⟨_, by simp [binOp, Op.shift, show ¬ b' < 0 by omega], rfl⟩
    case eql => subst hs; exact ⟨_, by simp [binOp, Op.intCmp], rfl⟩
    case neq => subst hs; exact ⟨_, by simp [binOp, Op.intCmp], rfl⟩
    case lss => subst hs; exact ⟨_, by simp [binOp, Op.intCmp], rfl⟩
    case leq => subst hs; exact ⟨_, by simp [binOp, Op.intCmp], rfl⟩
    case gtr => subst hs; exact ⟨_, by simp [binOp, Op.intCmp], rfl⟩
    case geq => subst hs; exact ⟨_, by simp [binOp, Op.intCmp], rfl⟩
  case h_2 a' b' =>
    have ha : a = .string a' := hv
    have hb : b = .string b' := hu
    subst ha hb
    have hg : Sem.run P (eqGuard op t x y (.string a') (.string b')) w = .ok () w := by
      unfold eqGuard; cases op <;> simp
    simp only [Sem.run_bind, hg, Result.andThen_ok]
    cases op <;> simp only at hs ⊢
    case add =>
      refine ⟨_, ?_, rfl⟩
      simp [binOp, Op.stringOp]
      simp at hs
      omega
    all_goals exact ⟨_, by simp [binOp, Op.stringOp], rfl⟩
  case h_3 => exact hs.elim

end Go.AM
