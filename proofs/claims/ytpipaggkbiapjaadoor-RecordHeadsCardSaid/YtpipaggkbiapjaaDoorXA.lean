import Derived.Test.YtpipaggkbiapjaaDoorAmU
/- Typed values over the by-value logic: encodings; what each operation that writes nothing gives. -/
namespace Go.AX
open Go.AM

/-- A Go text, by its bytes. -/
structure Str where
  l : List UInt8
  deriving DecidableEq, Inhabited

def Str.ba (s : Str) : ByteArray := ⟨s.l.toArray⟩

/-- One cell by value. -/
def AV1 : AV → Prop
  | .bool _ => True
  | .int _ _ => True
  | .str _ => True
  | .nilp => True
  | .vref _ _ _ => True
  | .nils => True
  | .sl _ _ _ => True
  | .fn _ _ _ => True
  | .nilf => True
  | .z0 => True
  | _ => False

/-- A Lean type that stands for a Go type: its cells, and the value. -/
class Enc (α : Type) where
  sz : Nat
  agg : Bool
  cl : α → List AV
  v : α → AV
  pos : 0 < sz
  one : agg = false → sz = 1
  len : ∀ x, (cl x).length = sz
  val : ∀ x, ∀ u ∈ cl x, u.val
  cell : ∀ x, ∀ u ∈ cl x, AV1 u
  veq : ∀ x, v x = if agg then .agg sz (ofL (cl x)) else ofL (cl x) 0

def ec {α : Type} [Enc α] (x : α) : Nat → AV := ofL (Enc.cl x)

instance : Enc Int := ⟨1, false, fun n => [.int .i64 n], fun n => .int .i64 n, by decide, fun _ => rfl, fun _ => rfl, by intro x u hu; simp at hu; subst hu; trivial, by intro x u hu; simp at hu; subst hu; trivial, fun _ => rfl⟩
instance : Enc UInt8 := ⟨1, false, fun n => [.int .u8 n.toNat], fun n => .int .u8 n.toNat, by decide, fun _ => rfl, fun _ => rfl, by intro x u hu; simp at hu; subst hu; trivial, by intro x u hu; simp at hu; subst hu; trivial, fun _ => rfl⟩
instance : Enc UInt32 := ⟨1, false, fun n => [.int .u32 n.toNat], fun n => .int .u32 n.toNat, by decide, fun _ => rfl, fun _ => rfl, by intro x u hu; simp at hu; subst hu; trivial, by intro x u hu; simp at hu; subst hu; trivial, fun _ => rfl⟩
instance : Enc UInt64 := ⟨1, false, fun n => [.int .u64 n.toNat], fun n => .int .u64 n.toNat, by decide, fun _ => rfl, fun _ => rfl, by intro x u hu; simp at hu; subst hu; trivial, by intro x u hu; simp at hu; subst hu; trivial, fun _ => rfl⟩
instance : Enc Bool := ⟨1, false, fun n => [.bool n], fun n => .bool n, by decide, fun _ => rfl, fun _ => rfl, by intro x u hu; simp at hu; subst hu; trivial, by intro x u hu; simp at hu; subst hu; trivial, fun _ => rfl⟩
instance : Enc Str := ⟨1, false, fun s => [.str s.ba], fun s => .str s.ba, by decide, fun _ => rfl, fun _ => rfl, by intro x u hu; simp at hu; subst hu; trivial, by intro x u hu; simp at hu; subst hu; trivial, fun _ => rfl⟩

/-- A Go rune (int32). -/
structure I32 where
  n : Int
  deriving DecidableEq, Inhabited
instance : Enc I32 := ⟨1, false, fun s => [.int .i32 s.n], fun s => .int .i32 s.n, by decide, fun _ => rfl, fun _ => rfl, by intro x u hu; simp at hu; subst hu; trivial, by intro x u hu; simp at hu; subst hu; trivial, fun _ => rfl⟩

section
variable {α β : Type} [Enc α] [Enc β]

theorem ec_val (x : α) (d : Nat) : (ec x d).val := by
  unfold ec ofL
  rw [List.getD_eq_getElem?_getD]
  cases h : (Enc.cl x)[d]? with
  | none => trivial
  | some u => exact Enc.val x u (List.mem_of_getElem? h)
theorem ec_encV : EncV (Enc.sz α) (ec : α → Nat → AV) := ⟨Enc.pos, fun x d _ => ec_val x d⟩
theorem ec_tight : Tight (Enc.sz α) (ec : α → Nat → AV) := fun x j hj => by
  have := Enc.len x
  simp [ec, ofL, List.getD_eq_getElem?_getD, List.getElem?_eq_none (by omega : (Enc.cl x).length ≤ j)]

theorem v_val (x : α) : (Enc.v x).val := by
  rw [Enc.veq]
  split
  · exact fun i _ => ec_val x i
  · exact ec_val x 0

/-- A list as a slice by value. -/
def L (xs : List α) : AV := VS (Enc.sz α) ec xs
theorem L_val (xs : List α) : (L xs).val := VS_val ec_encV

instance : Enc (List α) := ⟨1, false, fun xs => [L xs], fun xs => L xs, by decide, fun _ => rfl, fun _ => rfl, by intro x u hu; simp at hu; subst hu; exact L_val _, by intro x u hu; simp at hu; subst hu; trivial, fun _ => rfl⟩

/-- A pointer into a list by value: element i, from cell o on. -/
def EP (xs : List α) (i : Int) (o : Nat) : AV := .vref (rowL (Enc.sz α) ec xs) (xs.length * Enc.sz α) (i.toNat * Enc.sz α + o)

/-- Whether there is an element i; the element. -/
def getI (xs : List α) (i : Int) : Option α := if 0 ≤ i then xs[i.toNat]? else none
end

theorem getI_in {α : Type} {xs : List α} {i : Int} {a : α} (h : getI xs i = some a) : 0 ≤ i ∧ i < xs.length ∧ xs[i.toNat]? = some a := by
  unfold getI at h
  split at h
  · rename_i h0
    have := (List.getElem?_eq_some_iff.1 h).1
    exact ⟨h0, by omega, h⟩
  · cases h

def optG {α : Type} [Inhabited α] (g : Bool) (o : Option α) : Option α := if g then o else some default
theorem optG_t {α : Type} [Inhabited α] {g : Bool} {o : Option α} {x : α} (h : optG g o = some x) (hg : g = true) : o = some x := by subst hg; exact h

theorem bind_some {α β : Type} {o : Option α} {f : α → Option β} {r : β} (h : o.bind f = some r) : ∃ x, o = some x ∧ f x = some r := Option.bind_eq_some_iff.1 h
theorem ite_t {α : Type} {c : Bool} {a b : Option α} {r : α} (hc : c = true) (h : (if c = true then a else b) = some r) : a = some r := by rw [if_pos hc] at h; exact h
theorem ite_f {α : Type} {c : Bool} {a b : Option α} {r : α} (hc : c = false) (h : (if c = true then a else b) = some r) : b = some r := by rw [if_neg (by rw [hc]; simp)] at h; exact h
/-- A guard. -/
def need (c : Prop) [Decidable c] : Option Unit := if c then some () else none
theorem need_t {c : Prop} [Decidable c] {u : Unit} (h : need c = some u) : c := by unfold need at h; split at h; assumption; cases h
theorem some_in {α : Type} {a b : α} (h : some a = some b) : a = b := Option.some.inj h

/-! ### what operations give -/
/-- The operation gives v, if its test is so. -/
def PVok (C : Cx) (h : Hp) (env : Env) (i : I) (gc : Bool) (v : AV) : Prop := gc = true → (pv C h env i).1 = v ∧ (pv C h env i).2

section
variable {C : Cx} {nt : Nat} {env : Env} {h : Hp} {K : Env → Hp → Prop} {gc gx gy gz : Bool} {t : TypeId}

theorem TL.p {d : Nat} {g : Option (Nat × Bool)} {i : I} {v : AV} {ks : List KO} (hp : PVok C h env i gc v) (hg : gcOf env g = some gc) (hd : Nat.ble (d + 1) nt = true)
    (rest : TL C.P nt ks K ((d, gc, v) :: env) h) : TL C.P nt (⟨some d, g, i⟩ :: ks) K env h := by
  have hd' : d < nt := Nat.le_of_ble_eq_true hd
  cases gc with
  | true =>
    obtain ⟨h1, h2⟩ := hp rfl
    refine TL.pure (gc := true) hg (fun d' e => by injection e with e; omega) (fun _ => h2) ?_
    rw [h1]
    exact rest
  | false =>
    refine TL.pure (gc := false) hg (fun d' e => by injection e with e; omega) (fun e => by cases e) ?_
    exact TL.under (d := some d) rest

theorem gcT {d : Nat} {g p : Bool} (h : lk env d = some (g, .bool p)) : gcOf env (some (d, true)) = some (g && p) := by simp [gcOf, h]
theorem gcF {d : Nat} {g p : Bool} (h : lk env d = some (g, .bool p)) : gcOf env (some (d, false)) = some (g && !p) := by simp [gcOf, h]
theorem gcT1 {d : Nat} {p : Bool} (h : lk env d = some (true, .bool p)) : gcOf env (some (d, true)) = some p := by simp [gcOf, h]
theorem gcF1 {d : Nat} {p : Bool} (h : lk env d = some (true, .bool p)) : gcOf env (some (d, false)) = some (!p) := by simp [gcOf, h]

variable {x y z : X} {u u1 u2 : AV}

theorem p_mv (hx : ev env x = (gx, u)) (hg : gc = true → gx = true := by first | exact fun _ => rfl | simp_all) : PVok C h env (.mv x) gc u := fun e => by
  have : pv C h env (.mv x) = (u, gx = true) := by simp only [pv, hx]
  rw [this]; exact ⟨rfl, hg e⟩

theorem p_pk {p q r : Bool} (hx : ev env x = (gx, .bool p)) (hy : ev env y = (gy, .bool q)) (hz : ev env z = (gz, .bool r)) (hg : gc = true → gx = true ∧ (p = true → gy = true) ∧ (p = false → gz = true) := by simp_all) :
    PVok C h env (.pk x y z) gc (.bool (cond p q r)) := fun e => by
  have : pv C h env (.pk x y z) = (.bool (cond p q r), gx = true ∧ (p = true → gy = true) ∧ (p = false → gz = true)) := by simp only [pv, pkA, hx, hy, hz]
  rw [this]; exact ⟨rfl, hg e⟩
theorem p_or {p r : Bool} (hx : ev env x = (gx, .bool p)) (hz : ev env z = (gz, .bool r)) (hg : gc = true → gx = true ∧ (p = false → gz = true) := by simp_all) :
    PVok C h env (.pk x (.b true) z) gc (.bool (p || r)) := fun e => by
  have := p_pk (C := C) (h := h) (gc := gc) hx (show ev env (.b true) = (true, .bool true) from rfl) hz (fun e => ⟨(hg e).1, fun _ => rfl, (hg e).2⟩) e
  cases p <;> exact this
theorem p_and {p q : Bool} (hx : ev env x = (gx, .bool p)) (hy : ev env y = (gy, .bool q)) (hg : gc = true → gx = true ∧ (p = true → gy = true) := by simp_all) :
    PVok C h env (.pk x y (.b false)) gc (.bool (p && q)) := fun e => by
  have := p_pk (C := C) (h := h) (gc := gc) hx hy (show ev env (.b false) = (true, .bool false) from rfl) (fun e => ⟨(hg e).1, (hg e).2, fun _ => rfl⟩) e
  cases p <;> exact this

/-! #### numbers -/
def wr (x : Int) : Int := IntKind.i64.wrap x
theorem wr_eq {x : Int} (h1 : -9223372036854775808 ≤ x) (h2 : x ≤ 9223372036854775807) : wr x = x := w64 h1 h2
def and64 (a b : Int) : Int := bitsI .and .i64 a b
def or64 (a b : Int) : Int := bitsI .or .i64 a b
def xor64 (a b : Int) : Int := bitsI .xor .i64 a b
def shl64 (a b : Int) : Int := IntKind.i64.wrap (a * 2 ^ (min b.toNat 64))
def shr64 (a b : Int) : Int := a.fdiv (2 ^ (min b.toNat 64))

theorem p_bin {op : BinOp} {v : AV} {k k' : IntKind} {a b : Int} (hx : ev env x = (gx, .int k a)) (hy : ev env y = (gy, .int k' b)) (hv : gc = true → (binA op (.int k a) (.int k' b)).1 = v ∧ (binA op (.int k a) (.int k' b)).2)
    (hg : gc = true → gx = true ∧ gy = true := by first | exact fun _ => ⟨rfl, rfl⟩ | simp_all) : PVok C h env (.bin op t x y) gc v := fun e => by
  have h1 := hv e
  have : pv C h env (.bin op t x y) = ((binA op (.int k a) (.int k' b)).1, (gx = true ∧ gy = true) ∧ (binA op (.int k a) (.int k' b)).2) := by simp only [pv, hx, hy]; rfl
  rw [this]
  exact ⟨h1.1, hg e, h1.2⟩

section i64
variable {a b : Int} (hx : ev env x = (gx, .int .i64 a)) (hy : ev env y = (gy, .int .i64 b)) (hg : gc = true → gx = true ∧ gy = true := by first | exact fun _ => ⟨rfl, rfl⟩ | simp_all)
include hx hy hg
theorem p_add : PVok C h env (.bin .add t x y) gc (.int .i64 (wr (a + b))) := p_bin hx hy (fun _ => ⟨rfl, rfl⟩) hg
theorem p_sub : PVok C h env (.bin .sub t x y) gc (.int .i64 (wr (a - b))) := p_bin hx hy (fun _ => ⟨rfl, rfl⟩) hg
theorem p_mul : PVok C h env (.bin .mul t x y) gc (.int .i64 (wr (a * b))) := p_bin hx hy (fun _ => ⟨rfl, rfl⟩) hg
theorem p_and64 : PVok C h env (.bin .and t x y) gc (.int .i64 (and64 a b)) := p_bin hx hy (fun _ => ⟨rfl, rfl⟩) hg
theorem p_or64 : PVok C h env (.bin .or t x y) gc (.int .i64 (or64 a b)) := p_bin hx hy (fun _ => ⟨rfl, rfl⟩) hg
theorem p_xor64 : PVok C h env (.bin .xor t x y) gc (.int .i64 (xor64 a b)) := p_bin hx hy (fun _ => ⟨rfl, rfl⟩) hg
end i64
section cmpk
variable {k : IntKind} {a b : Int} (hx : ev env x = (gx, .int k a)) (hy : ev env y = (gy, .int k b)) (hg : gc = true → gx = true ∧ gy = true := by first | exact fun _ => ⟨rfl, rfl⟩ | simp_all)
include hx hy hg
theorem p_eql : PVok C h env (.bin .eql t x y) gc (.bool (a == b)) := p_bin hx hy (fun _ => ⟨rfl, rfl⟩) hg
theorem p_neq : PVok C h env (.bin .neq t x y) gc (.bool (a != b)) := p_bin hx hy (fun _ => ⟨rfl, rfl⟩) hg
theorem p_lss : PVok C h env (.bin .lss t x y) gc (.bool (decide (a < b))) := p_bin hx hy (fun _ => ⟨rfl, rfl⟩) hg
theorem p_leq : PVok C h env (.bin .leq t x y) gc (.bool (decide (a ≤ b))) := p_bin hx hy (fun _ => ⟨rfl, rfl⟩) hg
theorem p_gtr : PVok C h env (.bin .gtr t x y) gc (.bool (decide (a > b))) := p_bin hx hy (fun _ => ⟨rfl, rfl⟩) hg
theorem p_geq : PVok C h env (.bin .geq t x y) gc (.bool (decide (a ≥ b))) := p_bin hx hy (fun _ => ⟨rfl, rfl⟩) hg
end cmpk
theorem p_quo {a b : Int} (hx : ev env x = (gx, .int .i64 a)) (hy : ev env y = (gy, .int .i64 b)) (h0 : gc = true → b ≠ 0) (hg : gc = true → gx = true ∧ gy = true := by first | exact fun _ => ⟨rfl, rfl⟩ | simp_all) :
    PVok C h env (.bin .quo t x y) gc (.int .i64 (wr (a.tdiv b))) := p_bin hx hy (fun e => ⟨rfl, rfl, h0 e⟩) hg
theorem p_rem {a b : Int} (hx : ev env x = (gx, .int .i64 a)) (hy : ev env y = (gy, .int .i64 b)) (h0 : gc = true → b ≠ 0) (hg : gc = true → gx = true ∧ gy = true := by first | exact fun _ => ⟨rfl, rfl⟩ | simp_all) :
    PVok C h env (.bin .rem t x y) gc (.int .i64 (a.tmod b)) := p_bin hx hy (fun e => ⟨rfl, rfl, h0 e⟩) hg
theorem p_shl {a b : Int} {k' : IntKind} (hx : ev env x = (gx, .int .i64 a)) (hy : ev env y = (gy, .int k' b)) (h0 : gc = true → 0 ≤ b) (hg : gc = true → gx = true ∧ gy = true := by first | exact fun _ => ⟨rfl, rfl⟩ | simp_all) :
    PVok C h env (.bin .shl t x y) gc (.int .i64 (shl64 a b)) := p_bin hx hy (fun e => ⟨rfl, h0 e⟩) hg
theorem p_shr {a b : Int} {k' : IntKind} (hx : ev env x = (gx, .int .i64 a)) (hy : ev env y = (gy, .int k' b)) (h0 : gc = true → 0 ≤ b) (hg : gc = true → gx = true ∧ gy = true := by first | exact fun _ => ⟨rfl, rfl⟩ | simp_all) :
    PVok C h env (.bin .shr t x y) gc (.int .i64 (shr64 a b)) := p_bin hx hy (fun e => ⟨rfl, h0 e⟩) hg

theorem and1 {a b : Bool} (h : (a && b) = true) : a = true := by cases a <;> simp_all
theorem and2 {a b : Bool} (h : (a && b) = true) : b = true := by cases a <;> simp_all
theorem and_i {a b : Bool} (h1 : a = true) (h2 : b = true) : (a && b) = true := by subst h1 h2; rfl
theorem not_t {a : Bool} (h : a = false) : (!a) = true := by subst h; rfl

/-! #### unsigned numbers -/
theorem wrapU8 (n : Int) : IntKind.u8.wrap n = n % 256 := by simp [IntKind.wrap, IntKind.signed, IntKind.bits]
theorem wrapU32 (n : Int) : IntKind.u32.wrap n = n % 4294967296 := by simp [IntKind.wrap, IntKind.signed, IntKind.bits]
theorem wrapU64 (n : Int) : IntKind.u64.wrap n = n % 18446744073709551616 := by simp [IntKind.wrap, IntKind.signed, IntKind.bits]

def u8 (n : Int) : UInt8 := UInt8.ofNat (n % 256).toNat
def u32 (n : Int) : UInt32 := UInt32.ofNat (n % 4294967296).toNat
def u64 (n : Int) : UInt64 := UInt64.ofNat (n % 18446744073709551616).toNat
theorem u8_nat (n : Int) : ((u8 n).toNat : Int) = IntKind.u8.wrap n := by
  rw [wrapU8]; simp only [u8, UInt8.toNat_ofNat']; omega
theorem u32_nat (n : Int) : ((u32 n).toNat : Int) = IntKind.u32.wrap n := by
  rw [wrapU32]; simp only [u32, UInt32.toNat_ofNat']; omega
theorem u64_nat (n : Int) : ((u64 n).toNat : Int) = IntKind.u64.wrap n := by
  rw [wrapU64]; simp only [u64, UInt64.toNat_ofNat']; omega

theorem u8_self (n : UInt8) : u8 n.toNat = n := by
  unfold u8
  have : (((n.toNat : Nat) : Int) % 256).toNat = n.toNat := by have := n.toNat_lt; omega
  rw [this]; exact UInt8.ofNat_toNat
theorem u32_self (n : UInt32) : u32 n.toNat = n := by
  unfold u32
  have : (((n.toNat : Nat) : Int) % 4294967296).toNat = n.toNat := by have := n.toNat_lt; omega
  rw [this]; exact UInt32.ofNat_toNat
theorem u64_self (n : UInt64) : u64 n.toNat = n := by
  unfold u64
  have : (((n.toNat : Nat) : Int) % 18446744073709551616).toNat = n.toNat := by have := n.toNat_lt; omega
  rw [this]; exact UInt64.ofNat_toNat

theorem bv8 (x : UInt8) : BitVec.ofInt IntKind.u8.bits (x.toNat : Int) = x.toBitVec := by
  apply BitVec.eq_of_toNat_eq
  have := x.toNat_lt
  show (BitVec.ofInt 8 (x.toNat : Int)).toNat = x.toNat
  simp
theorem bv32 (x : UInt32) : BitVec.ofInt IntKind.u32.bits (x.toNat : Int) = x.toBitVec := by
  apply BitVec.eq_of_toNat_eq
  have := x.toNat_lt
  show (BitVec.ofInt 32 (x.toNat : Int)).toNat = x.toNat
  simp
theorem bv64 (x : UInt64) : BitVec.ofInt IntKind.u64.bits (x.toNat : Int) = x.toBitVec := by
  apply BitVec.eq_of_toNat_eq
  have := x.toNat_lt
  show (BitVec.ofInt 64 (x.toNat : Int)).toNat = x.toNat
  simp

theorem bits8 (x y : UInt8) : bitsI .and .u8 x.toNat y.toNat = (x &&& y).toNat ∧ bitsI .or .u8 x.toNat y.toNat = (x ||| y).toNat ∧ bitsI .xor .u8 x.toNat y.toNat = (x ^^^ y).toNat := by
  simp only [bitsI, bv8, wrapU8]
  refine ⟨?_, ?_, ?_⟩
  · show (((x &&& y).toNat : Nat) : Int) % 256 = ((x &&& y).toNat : Int)
    have := (x &&& y).toNat_lt; omega
  · show (((x ||| y).toNat : Nat) : Int) % 256 = ((x ||| y).toNat : Int)
    have := (x ||| y).toNat_lt; omega
  · show (((x ^^^ y).toNat : Nat) : Int) % 256 = ((x ^^^ y).toNat : Int)
    have := (x ^^^ y).toNat_lt; omega
theorem bits32 (x y : UInt32) : bitsI .and .u32 x.toNat y.toNat = (x &&& y).toNat ∧ bitsI .or .u32 x.toNat y.toNat = (x ||| y).toNat ∧ bitsI .xor .u32 x.toNat y.toNat = (x ^^^ y).toNat := by
  simp only [bitsI, bv32, wrapU32]
  refine ⟨?_, ?_, ?_⟩
  · show (((x &&& y).toNat : Nat) : Int) % 4294967296 = ((x &&& y).toNat : Int)
    have := (x &&& y).toNat_lt; omega
  · show (((x ||| y).toNat : Nat) : Int) % 4294967296 = ((x ||| y).toNat : Int)
    have := (x ||| y).toNat_lt; omega
  · show (((x ^^^ y).toNat : Nat) : Int) % 4294967296 = ((x ^^^ y).toNat : Int)
    have := (x ^^^ y).toNat_lt; omega
theorem bits64 (x y : UInt64) : bitsI .and .u64 x.toNat y.toNat = (x &&& y).toNat ∧ bitsI .or .u64 x.toNat y.toNat = (x ||| y).toNat ∧ bitsI .xor .u64 x.toNat y.toNat = (x ^^^ y).toNat := by
  simp only [bitsI, bv64, wrapU64]
  refine ⟨?_, ?_, ?_⟩
  · show (((x &&& y).toNat : Nat) : Int) % 18446744073709551616 = ((x &&& y).toNat : Int)
    have := (x &&& y).toNat_lt; omega
  · show (((x ||| y).toNat : Nat) : Int) % 18446744073709551616 = ((x ||| y).toNat : Int)
    have := (x ||| y).toNat_lt; omega
  · show (((x ^^^ y).toNat : Nat) : Int) % 18446744073709551616 = ((x ^^^ y).toNat : Int)
    have := (x ^^^ y).toNat_lt; omega

/-- Shifts of unsigned numbers. -/
def shl8 (x : UInt8) (n : Nat) : UInt8 := UInt8.ofNat (x.toNat * 2 ^ n)
def shr8 (x : UInt8) (n : Nat) : UInt8 := UInt8.ofNat (x.toNat / 2 ^ n)
def shl32 (x : UInt32) (n : Nat) : UInt32 := UInt32.ofNat (x.toNat * 2 ^ n)
def shr32 (x : UInt32) (n : Nat) : UInt32 := UInt32.ofNat (x.toNat / 2 ^ n)
def shlu64 (x : UInt64) (n : Nat) : UInt64 := UInt64.ofNat (x.toNat * 2 ^ n)
def shru64 (x : UInt64) (n : Nat) : UInt64 := UInt64.ofNat (x.toNat / 2 ^ n)

theorem shl_mod {a n k : Nat} (_ : 0 < k) : (a * 2 ^ min n k) % 2 ^ k = (a * 2 ^ n) % 2 ^ k := by
  rcases Nat.le_total n k with h | h
  · rw [Nat.min_eq_left h]
  · rw [Nat.min_eq_right h]
    obtain ⟨m, rfl⟩ := Nat.exists_eq_add_of_le h
    rw [Nat.pow_add, Nat.mul_mod_left, ← Nat.mul_assoc, Nat.mul_right_comm, Nat.mul_mod_left]
theorem shr_min {a n k : Nat} (ha : a < 2 ^ k) : a / 2 ^ min n k = a / 2 ^ n := by
  rcases Nat.le_total n k with h | h
  · rw [Nat.min_eq_left h]
  · rw [Nat.min_eq_right h, Nat.div_eq_of_lt ha, Nat.div_eq_of_lt (Nat.lt_of_lt_of_le ha (Nat.pow_le_pow_right (by decide) h))]

theorem shl8_ok (x : UInt8) (n : Nat) : IntKind.u8.wrap ((x.toNat : Int) * 2 ^ (min n IntKind.u8.bits)) = ((shl8 x n).toNat : Int) := by
  rw [wrapU8]; simp only [shl8, UInt8.toNat_ofNat']
  have := shl_mod (a := x.toNat) (n := n) (k := 8) (by decide)
  rw [← this]; show _ = (((x.toNat * 2 ^ min n 8) % 256 : Nat) : Int)
  simp [IntKind.bits]
theorem shl32_ok (x : UInt32) (n : Nat) : IntKind.u32.wrap ((x.toNat : Int) * 2 ^ (min n IntKind.u32.bits)) = ((shl32 x n).toNat : Int) := by
  rw [wrapU32]; simp only [shl32, UInt32.toNat_ofNat']
  have := shl_mod (a := x.toNat) (n := n) (k := 32) (by decide)
  rw [← this]; show _ = (((x.toNat * 2 ^ min n 32) % 4294967296 : Nat) : Int)
  simp [IntKind.bits]
theorem shlu64_ok (x : UInt64) (n : Nat) : IntKind.u64.wrap ((x.toNat : Int) * 2 ^ (min n IntKind.u64.bits)) = ((shlu64 x n).toNat : Int) := by
  rw [wrapU64]; simp only [shlu64, UInt64.toNat_ofNat']
  have := shl_mod (a := x.toNat) (n := n) (k := 64) (by decide)
  rw [← this]; show _ = (((x.toNat * 2 ^ min n 64) % 18446744073709551616 : Nat) : Int)
  simp [IntKind.bits]
theorem fdiv_nat (a m : Nat) : ((a : Int).fdiv ((2 : Int) ^ m)) = ((a / 2 ^ m : Nat) : Int) := by
  rw [Int.fdiv_eq_ediv_of_nonneg _ (by exact_mod_cast Nat.zero_le (2 ^ m))]; simp
theorem shr8_ok (x : UInt8) (n : Nat) : ((x.toNat : Int).fdiv (2 ^ (min n IntKind.u8.bits))) = ((shr8 x n).toNat : Int) := by
  have h8 : IntKind.u8.bits = 8 := rfl
  have h1 := x.toNat_lt
  rw [h8, fdiv_nat, shr_min (by simpa using h1)]
  simp only [shr8, UInt8.toNat_ofNat']
  rw [Nat.mod_eq_of_lt (Nat.lt_of_le_of_lt (Nat.div_le_self _ _) h1)]
theorem shr32_ok (x : UInt32) (n : Nat) : ((x.toNat : Int).fdiv (2 ^ (min n IntKind.u32.bits))) = ((shr32 x n).toNat : Int) := by
  have h8 : IntKind.u32.bits = 32 := rfl
  have h1 := x.toNat_lt
  rw [h8, fdiv_nat, shr_min (by simpa using h1)]
  simp only [shr32, UInt32.toNat_ofNat']
  rw [Nat.mod_eq_of_lt (Nat.lt_of_le_of_lt (Nat.div_le_self _ _) h1)]
theorem shru64_ok (x : UInt64) (n : Nat) : ((x.toNat : Int).fdiv (2 ^ (min n IntKind.u64.bits))) = ((shru64 x n).toNat : Int) := by
  have h8 : IntKind.u64.bits = 64 := rfl
  have h1 := x.toNat_lt
  rw [h8, fdiv_nat, shr_min (by simpa using h1)]
  simp only [shru64, UInt64.toNat_ofNat']
  rw [Nat.mod_eq_of_lt (Nat.lt_of_le_of_lt (Nat.div_le_self _ _) h1)]

section cmp
variable {k : IntKind} {a b : Nat} (hx : ev env x = (gx, .int k a)) (hy : ev env y = (gy, .int k b)) (hg : gc = true → gx = true ∧ gy = true := by first | exact fun _ => ⟨rfl, rfl⟩ | simp_all)
include hx hy hg
theorem pu_eql : PVok C h env (.bin .eql t x y) gc (.bool (a == b)) := p_bin hx hy (fun _ => ⟨by show AV.bool ((a : Int) == b) = AV.bool (a == b); rw [show ((a : Int) == b) = (a == b) by rw [Bool.eq_iff_iff]; simp; omega], rfl⟩) hg
theorem pu_neq : PVok C h env (.bin .neq t x y) gc (.bool (a != b)) := p_bin hx hy (fun _ => ⟨by show AV.bool ((a : Int) != b) = AV.bool (a != b); rw [show ((a : Int) != b) = (a != b) by rw [Bool.eq_iff_iff]; simp; omega], rfl⟩) hg
theorem pu_lss : PVok C h env (.bin .lss t x y) gc (.bool (decide (a < b))) := p_bin hx hy (fun _ => ⟨by simp [binA], rfl⟩) hg
theorem pu_leq : PVok C h env (.bin .leq t x y) gc (.bool (decide (a ≤ b))) := p_bin hx hy (fun _ => ⟨by simp [binA], rfl⟩) hg
theorem pu_gtr : PVok C h env (.bin .gtr t x y) gc (.bool (decide (a > b))) := p_bin hx hy (fun _ => ⟨by simp [binA], rfl⟩) hg
theorem pu_geq : PVok C h env (.bin .geq t x y) gc (.bool (decide (a ≥ b))) := p_bin hx hy (fun _ => ⟨by simp [binA], rfl⟩) hg
end cmp

section cmpp8
variable {a b : UInt8} (hx : ev env x = (gx, .int .u8 a.toNat)) (hy : ev env y = (gy, .int .u8 b.toNat)) (hg : gc = true → gx = true ∧ gy = true := by first | exact fun _ => ⟨rfl, rfl⟩ | simp_all)
include hx hy hg
theorem p8_eql : PVok C h env (.bin .eql t x y) gc (.bool (a == b)) := by
  have := pu_eql (C := C) (h := h) (t := t) hx hy hg
  rwa [show (a.toNat == b.toNat) = (a == b) by rw [Bool.eq_iff_iff]; simp [UInt8.toNat_inj]] at this
theorem p8_neq : PVok C h env (.bin .neq t x y) gc (.bool (a != b)) := by
  have := pu_neq (C := C) (h := h) (t := t) hx hy hg
  rwa [show (a.toNat != b.toNat) = (a != b) by rw [Bool.eq_iff_iff]; simp [UInt8.toNat_inj]] at this
theorem p8_lss : PVok C h env (.bin .lss t x y) gc (.bool (decide (a < b))) := pu_lss hx hy hg
theorem p8_leq : PVok C h env (.bin .leq t x y) gc (.bool (decide (a ≤ b))) := pu_leq hx hy hg
theorem p8_gtr : PVok C h env (.bin .gtr t x y) gc (.bool (decide (a > b))) := pu_gtr hx hy hg
theorem p8_geq : PVok C h env (.bin .geq t x y) gc (.bool (decide (a ≥ b))) := pu_geq hx hy hg
end cmpp8
section cmpp32
variable {a b : UInt32} (hx : ev env x = (gx, .int .u32 a.toNat)) (hy : ev env y = (gy, .int .u32 b.toNat)) (hg : gc = true → gx = true ∧ gy = true := by first | exact fun _ => ⟨rfl, rfl⟩ | simp_all)
include hx hy hg
theorem p32_eql : PVok C h env (.bin .eql t x y) gc (.bool (a == b)) := by
  have := pu_eql (C := C) (h := h) (t := t) hx hy hg
  rwa [show (a.toNat == b.toNat) = (a == b) by rw [Bool.eq_iff_iff]; simp [UInt32.toNat_inj]] at this
theorem p32_neq : PVok C h env (.bin .neq t x y) gc (.bool (a != b)) := by
  have := pu_neq (C := C) (h := h) (t := t) hx hy hg
  rwa [show (a.toNat != b.toNat) = (a != b) by rw [Bool.eq_iff_iff]; simp [UInt32.toNat_inj]] at this
theorem p32_lss : PVok C h env (.bin .lss t x y) gc (.bool (decide (a < b))) := pu_lss hx hy hg
theorem p32_leq : PVok C h env (.bin .leq t x y) gc (.bool (decide (a ≤ b))) := pu_leq hx hy hg
theorem p32_gtr : PVok C h env (.bin .gtr t x y) gc (.bool (decide (a > b))) := pu_gtr hx hy hg
theorem p32_geq : PVok C h env (.bin .geq t x y) gc (.bool (decide (a ≥ b))) := pu_geq hx hy hg
end cmpp32
section cmppu64
variable {a b : UInt64} (hx : ev env x = (gx, .int .u64 a.toNat)) (hy : ev env y = (gy, .int .u64 b.toNat)) (hg : gc = true → gx = true ∧ gy = true := by first | exact fun _ => ⟨rfl, rfl⟩ | simp_all)
include hx hy hg
theorem pu64_eql : PVok C h env (.bin .eql t x y) gc (.bool (a == b)) := by
  have := pu_eql (C := C) (h := h) (t := t) hx hy hg
  rwa [show (a.toNat == b.toNat) = (a == b) by rw [Bool.eq_iff_iff]; simp [UInt64.toNat_inj]] at this
theorem pu64_neq : PVok C h env (.bin .neq t x y) gc (.bool (a != b)) := by
  have := pu_neq (C := C) (h := h) (t := t) hx hy hg
  rwa [show (a.toNat != b.toNat) = (a != b) by rw [Bool.eq_iff_iff]; simp [UInt64.toNat_inj]] at this
theorem pu64_lss : PVok C h env (.bin .lss t x y) gc (.bool (decide (a < b))) := pu_lss hx hy hg
theorem pu64_leq : PVok C h env (.bin .leq t x y) gc (.bool (decide (a ≤ b))) := pu_leq hx hy hg
theorem pu64_gtr : PVok C h env (.bin .gtr t x y) gc (.bool (decide (a > b))) := pu_gtr hx hy hg
theorem pu64_geq : PVok C h env (.bin .geq t x y) gc (.bool (decide (a ≥ b))) := pu_geq hx hy hg
end cmppu64
section u8
variable {a b : UInt8} (hx : ev env x = (gx, .int .u8 a.toNat)) (hy : ev env y = (gy, .int .u8 b.toNat)) (hg : gc = true → gx = true ∧ gy = true := by first | exact fun _ => ⟨rfl, rfl⟩ | simp_all)
include hx hy hg
theorem p8_and : PVok C h env (.bin .and t x y) gc (Enc.v (a &&& b)) := p_bin hx hy (fun _ => ⟨by simp only [binA, (bits8 a b).1]; rfl, rfl⟩) hg
theorem p8_or : PVok C h env (.bin .or t x y) gc (Enc.v (a ||| b)) := p_bin hx hy (fun _ => ⟨by simp only [binA, (bits8 a b).2.1]; rfl, rfl⟩) hg
theorem p8_xor : PVok C h env (.bin .xor t x y) gc (Enc.v (a ^^^ b)) := p_bin hx hy (fun _ => ⟨by simp only [binA, (bits8 a b).2.2]; rfl, rfl⟩) hg
theorem p8_add : PVok C h env (.bin .add t x y) gc (Enc.v (u8 ((a.toNat : Int) + b.toNat))) := p_bin hx hy (fun _ => ⟨by simp only [binA, ← u8_nat]; rfl, rfl⟩) hg
theorem p8_sub : PVok C h env (.bin .sub t x y) gc (Enc.v (u8 ((a.toNat : Int) - b.toNat))) := p_bin hx hy (fun _ => ⟨by simp only [binA, ← u8_nat]; rfl, rfl⟩) hg
end u8
section u32
variable {a b : UInt32} (hx : ev env x = (gx, .int .u32 a.toNat)) (hy : ev env y = (gy, .int .u32 b.toNat)) (hg : gc = true → gx = true ∧ gy = true := by first | exact fun _ => ⟨rfl, rfl⟩ | simp_all)
include hx hy hg
theorem p32_and : PVok C h env (.bin .and t x y) gc (Enc.v (a &&& b)) := p_bin hx hy (fun _ => ⟨by simp only [binA, (bits32 a b).1]; rfl, rfl⟩) hg
theorem p32_or : PVok C h env (.bin .or t x y) gc (Enc.v (a ||| b)) := p_bin hx hy (fun _ => ⟨by simp only [binA, (bits32 a b).2.1]; rfl, rfl⟩) hg
theorem p32_xor : PVok C h env (.bin .xor t x y) gc (Enc.v (a ^^^ b)) := p_bin hx hy (fun _ => ⟨by simp only [binA, (bits32 a b).2.2]; rfl, rfl⟩) hg
theorem p32_add : PVok C h env (.bin .add t x y) gc (Enc.v (u32 ((a.toNat : Int) + b.toNat))) := p_bin hx hy (fun _ => ⟨by simp only [binA, ← u32_nat]; rfl, rfl⟩) hg
theorem p32_mul : PVok C h env (.bin .mul t x y) gc (Enc.v (u32 ((a.toNat : Int) * b.toNat))) := p_bin hx hy (fun _ => ⟨by simp only [binA, ← u32_nat]; rfl, rfl⟩) hg
theorem p32_sub : PVok C h env (.bin .sub t x y) gc (Enc.v (u32 ((a.toNat : Int) - b.toNat))) := p_bin hx hy (fun _ => ⟨by simp only [binA, ← u32_nat]; rfl, rfl⟩) hg
end u32
section u64
variable {a b : UInt64} (hx : ev env x = (gx, .int .u64 a.toNat)) (hy : ev env y = (gy, .int .u64 b.toNat)) (hg : gc = true → gx = true ∧ gy = true := by first | exact fun _ => ⟨rfl, rfl⟩ | simp_all)
include hx hy hg
theorem pu64_and : PVok C h env (.bin .and t x y) gc (Enc.v (a &&& b)) := p_bin hx hy (fun _ => ⟨by simp only [binA, (bits64 a b).1]; rfl, rfl⟩) hg
theorem pu64_or : PVok C h env (.bin .or t x y) gc (Enc.v (a ||| b)) := p_bin hx hy (fun _ => ⟨by simp only [binA, (bits64 a b).2.1]; rfl, rfl⟩) hg
theorem pu64_xor : PVok C h env (.bin .xor t x y) gc (Enc.v (a ^^^ b)) := p_bin hx hy (fun _ => ⟨by simp only [binA, (bits64 a b).2.2]; rfl, rfl⟩) hg
theorem pu64_add : PVok C h env (.bin .add t x y) gc (Enc.v (u64 ((a.toNat : Int) + b.toNat))) := p_bin hx hy (fun _ => ⟨by simp only [binA, ← u64_nat]; rfl, rfl⟩) hg
theorem pu64_sub : PVok C h env (.bin .sub t x y) gc (Enc.v (u64 ((a.toNat : Int) - b.toNat))) := p_bin hx hy (fun _ => ⟨by simp only [binA, ← u64_nat]; rfl, rfl⟩) hg
theorem pu64_mul : PVok C h env (.bin .mul t x y) gc (Enc.v (u64 ((a.toNat : Int) * b.toNat))) := p_bin hx hy (fun _ => ⟨by simp only [binA, ← u64_nat]; rfl, rfl⟩) hg
theorem pu64_quo (h0 : gc = true → b ≠ 0) : PVok C h env (.bin .quo t x y) gc (Enc.v (a / b)) := p_bin hx hy (fun e => ⟨by
    simp only [binA, wrapU64]
    show AV.int .u64 _ = AV.int .u64 ((a / b).toNat : Int)
    rw [UInt64.toNat_div, Int.tdiv_eq_ediv_of_nonneg (by omega), ← Int.natCast_ediv]
    have h1 := a.toNat_lt
    have h2 := Nat.div_le_self a.toNat b.toNat
    generalize a.toNat / b.toNat = q at h2
    congr 1
    omega, rfl, fun e0 => h0 e (by apply UInt64.toNat_inj.1; simpa using e0)⟩) hg
theorem pu64_rem (h0 : gc = true → b ≠ 0) : PVok C h env (.bin .rem t x y) gc (Enc.v (a % b)) := p_bin hx hy (fun e => ⟨by
    simp only [binA]
    show AV.int .u64 _ = AV.int .u64 ((a % b).toNat : Int)
    rw [UInt64.toNat_mod, Int.tmod_eq_emod_of_nonneg (by omega), ← Int.natCast_emod], rfl, fun e0 => h0 e (by apply UInt64.toNat_inj.1; simpa using e0)⟩) hg
end u64
section ush
variable {k' : IntKind} {b : Nat}
theorem p8_shl {a : UInt8} (hx : ev env x = (gx, .int .u8 a.toNat)) (hy : ev env y = (gy, .int k' b)) (hg : gc = true → gx = true ∧ gy = true := by first | exact fun _ => ⟨rfl, rfl⟩ | simp_all) :
    PVok C h env (.bin .shl t x y) gc (Enc.v (shl8 a b)) := p_bin hx hy (fun _ => ⟨by simp only [binA, Int.toNat_natCast, shl8_ok]; rfl, by simp [binA]⟩) hg
theorem p8_shr {a : UInt8} (hx : ev env x = (gx, .int .u8 a.toNat)) (hy : ev env y = (gy, .int k' b)) (hg : gc = true → gx = true ∧ gy = true := by first | exact fun _ => ⟨rfl, rfl⟩ | simp_all) :
    PVok C h env (.bin .shr t x y) gc (Enc.v (shr8 a b)) := p_bin hx hy (fun _ => ⟨by simp only [binA, Int.toNat_natCast, shr8_ok]; rfl, by simp [binA]⟩) hg
theorem p32_shl {a : UInt32} (hx : ev env x = (gx, .int .u32 a.toNat)) (hy : ev env y = (gy, .int k' b)) (hg : gc = true → gx = true ∧ gy = true := by first | exact fun _ => ⟨rfl, rfl⟩ | simp_all) :
    PVok C h env (.bin .shl t x y) gc (Enc.v (shl32 a b)) := p_bin hx hy (fun _ => ⟨by simp only [binA, Int.toNat_natCast, shl32_ok]; rfl, by simp [binA]⟩) hg
theorem p32_shr {a : UInt32} (hx : ev env x = (gx, .int .u32 a.toNat)) (hy : ev env y = (gy, .int k' b)) (hg : gc = true → gx = true ∧ gy = true := by first | exact fun _ => ⟨rfl, rfl⟩ | simp_all) :
    PVok C h env (.bin .shr t x y) gc (Enc.v (shr32 a b)) := p_bin hx hy (fun _ => ⟨by simp only [binA, Int.toNat_natCast, shr32_ok]; rfl, by simp [binA]⟩) hg
theorem pu64_shl {a : UInt64} (hx : ev env x = (gx, .int .u64 a.toNat)) (hy : ev env y = (gy, .int k' b)) (hg : gc = true → gx = true ∧ gy = true := by first | exact fun _ => ⟨rfl, rfl⟩ | simp_all) :
    PVok C h env (.bin .shl t x y) gc (Enc.v (shlu64 a b)) := p_bin hx hy (fun _ => ⟨by simp only [binA, Int.toNat_natCast, shlu64_ok]; rfl, by simp [binA]⟩) hg
theorem pu64_shr {a : UInt64} (hx : ev env x = (gx, .int .u64 a.toNat)) (hy : ev env y = (gy, .int k' b)) (hg : gc = true → gx = true ∧ gy = true := by first | exact fun _ => ⟨rfl, rfl⟩ | simp_all) :
    PVok C h env (.bin .shr t x y) gc (Enc.v (shru64 a b)) := p_bin hx hy (fun _ => ⟨by simp only [binA, Int.toNat_natCast, shru64_ok]; rfl, by simp [binA]⟩) hg
end ush
end
end Go.AX
