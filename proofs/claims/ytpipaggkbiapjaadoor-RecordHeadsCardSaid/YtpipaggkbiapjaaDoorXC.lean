import Derived.Test.YtpipaggkbiapjaaDoorXB
/- What operations on lists, texts, structs and pointers give. -/
namespace Go.AX
open Go.AM

section
variable {C : Cx} {nt : Nat} {env : Env} {h : Hp} {K : Env → Hp → Prop} {gc gx gy gz : Bool} {t : TypeId} {x y z : X} {u u1 u2 : AV}
variable {α β : Type} [Enc α] [Enc β]

theorem pvE {i : I} {v : AV} {S : Prop} (e : pv C h env i = (v, S)) (hS : gc = true → S) : PVok C h env i gc v := fun hg => by rw [e]; exact ⟨rfl, hS hg⟩

/-! ### conversions -/
theorem p_cvt {s : TypeId} {k q : IntKind} {n : Int} {v : AV} (hs : srcOK C s) (ht : C.kd t = some (.int k)) (hx : ev env x = (gx, .int q n)) (hv : AV.int k (k.wrap n) = v)
    (hg : gc = true → gx = true := by first | exact fun _ => rfl | simp_all) : PVok C h env (.cvt s t x) gc v := by
  subst hv
  refine pvE (S := gx = true ∧ srcOK C s ∧ True) ?_ fun e => ⟨hg e, hs, trivial⟩
  simp only [pv, hx, cvtA, ht]
theorem p_cvtS {s : TypeId} {a : ByteArray} (hs : srcOK C s) (ht : C.kd t = some .str) (hx : ev env x = (gx, .str a))
    (hg : gc = true → gx = true := by first | exact fun _ => rfl | simp_all) : PVok C h env (.cvt s t x) gc (.str a) := by
  refine pvE (S := gx = true ∧ srcOK C s ∧ True) ?_ fun e => ⟨hg e, hs, trivial⟩
  simp only [pv, hx, cvtA, ht]
theorem cv_i64 (n : Int) : AV.int .i64 (IntKind.i64.wrap n) = .int .i64 (wr n) := rfl
theorem cv_self (n : Nat) (h : n < 9223372036854775808) : AV.int .i64 (IntKind.i64.wrap (n : Int)) = .int .i64 (n : Int) := by rw [w64 (by omega) (by omega)]
theorem cv_8 (n : UInt8) : AV.int .i64 (IntKind.i64.wrap (n.toNat : Int)) = .int .i64 (n.toNat : Int) := cv_self _ (by have := n.toNat_lt; omega)
theorem cv_32 (n : UInt32) : AV.int .i64 (IntKind.i64.wrap (n.toNat : Int)) = .int .i64 (n.toNat : Int) := cv_self _ (by have := n.toNat_lt; omega)
theorem cv_u8 (n : Int) : AV.int .u8 (IntKind.u8.wrap n) = Enc.v (u8 n) := by rw [← u8_nat]; rfl
theorem cv_u32 (n : Int) : AV.int .u32 (IntKind.u32.wrap n) = Enc.v (u32 n) := by rw [← u32_nat]; rfl
theorem cv_u64 (n : Int) : AV.int .u64 (IntKind.u64.wrap n) = Enc.v (u64 n) := by rw [← u64_nat]; rfl
theorem cv_i32 (n : Int) : AV.int .i32 (IntKind.i32.wrap n) = Enc.v (I32.mk (IntKind.i32.wrap n)) := rfl
theorem cv_8id (n : UInt8) : AV.int .u8 (IntKind.u8.wrap (n.toNat : Int)) = Enc.v n := by rw [cv_u8, u8_self]
theorem cv_32id (n : UInt32) : AV.int .u32 (IntKind.u32.wrap (n.toNat : Int)) = Enc.v n := by rw [cv_u32, u32_self]
theorem cv_64id (n : UInt64) : AV.int .u64 (IntKind.u64.wrap (n.toNat : Int)) = Enc.v n := by rw [cv_u64, u64_self]

/-! ### un -/
theorem p_not {p : Bool} (hx : ev env x = (gx, .bool p)) (hg : gc = true → gx = true := by first | exact fun _ => rfl | simp_all) : PVok C h env (.un .not x) gc (.bool (!p)) := by
  refine pvE (S := gx = true ∧ True) ?_ fun e => ⟨hg e, trivial⟩
  simp only [pv, hx, unA]
theorem p_neg {n : Int} (hx : ev env x = (gx, .int .i64 n)) (hg : gc = true → gx = true := by first | exact fun _ => rfl | simp_all) : PVok C h env (.un .neg x) gc (.int .i64 (wr (0 - n))) := by
  refine pvE (S := gx = true ∧ True) ?_ fun e => ⟨hg e, trivial⟩
  simp only [pv, hx, unA]; rfl

/-! ### lengths, least and greatest -/
theorem p_lenL {e : TypeId} {xs : List α} (hk : C.kd t = some (.slc e)) (hx : ev env x = (gx, L xs)) (hg : gc = true → gx = true := by first | exact fun _ => rfl | simp_all) :
    PVok C h env (.bi .len [t] [x]) gc (.int .i64 xs.length) := by
  refine pvE (S := (gx = true ∧ lenT C t (L xs)) ∧ True) ?_ fun e => ⟨⟨hg e, by unfold lenT; rw [hk]; trivial⟩, trivial⟩
  simp only [pv, hx]; rfl
theorem p_lenS {s : Str} (hk : C.kd t = some .str) (hx : ev env x = (gx, .str s.ba)) (hg : gc = true → gx = true := by first | exact fun _ => rfl | simp_all) :
    PVok C h env (.bi .len [t] [x]) gc (.int .i64 s.l.length) := by
  refine pvE (S := (gx = true ∧ lenT C t (.str s.ba)) ∧ True) ?_ fun e => ⟨⟨hg e, by unfold lenT; rw [hk]; trivial⟩, trivial⟩
  simp only [pv, hx, lenA, ba_size]
theorem p_lenR {e b off n st sz : Nat} (hk : C.kd t = some (.slc e)) (hx : ev env x = (gx, .rs b off n st sz)) (hr : gc = true → refOK h b st) (hg : gc = true → gx = true := by first | exact fun _ => rfl | simp_all) :
    PVok C h env (.bi .len [t] [x]) gc (.int .i64 n) := by
  refine pvE (S := (gx = true ∧ lenT C t (.rs b off n st sz)) ∧ refOK h b st) ?_ fun e => ⟨⟨hg e, by unfold lenT; rw [hk]; trivial⟩, hr e⟩
  simp only [pv, hx, lenA]
theorem p_min {ts : List TypeId} {a b : Int} (hx : ev env x = (gx, .int .i64 a)) (hy : ev env y = (gy, .int .i64 b)) (hg : gc = true → gx = true ∧ gy = true := by first | exact fun _ => ⟨rfl, rfl⟩ | simp_all) :
    PVok C h env (.bi .min ts [x, y]) gc (.int .i64 (min a b)) := by
  refine pvE (S := (gx = true ∧ gy = true) ∧ IntKind.i64 = IntKind.i64) ?_ fun e => ⟨hg e, rfl⟩
  simp only [pv, hx, hy, minA]
  have : (if (if false = true then a < b else b < a) then b else a) = min a b := by simp; omega
  rw [this]
theorem p_max {ts : List TypeId} {a b : Int} (hx : ev env x = (gx, .int .i64 a)) (hy : ev env y = (gy, .int .i64 b)) (hg : gc = true → gx = true ∧ gy = true := by first | exact fun _ => ⟨rfl, rfl⟩ | simp_all) :
    PVok C h env (.bi .max ts [x, y]) gc (.int .i64 (max a b)) := by
  refine pvE (S := (gx = true ∧ gy = true) ∧ IntKind.i64 = IntKind.i64) ?_ fun e => ⟨hg e, rfl⟩
  simp only [pv, hx, hy, minA]
  have : (if a < b then b else a) = max a b := by omega
  simp only [if_true, this]

/-! ### pointers into lists -/
theorem refOK_of {b st : Nat} {r : Row} (nd : Nd h) {j : Nat} (hi : h[j]? = some (b, r)) (hst : st = r.m) : refOK h b st := by
  unfold refOK; rw [nd.get hi]; exact hst

theorem p_iaL {e : TypeId} {ei : TI} {xs : List α} {k : IntKind} {i : Int} (hk : C.kd t = some (.slc e)) (he : C.ty e = some ei) (hs : ei.sz = Enc.sz α) (hx : ev env x = (gx, L xs)) (hy : ev env y = (gy, .int k i))
    {a : α} (hi : gc = true → getI xs i = some a) (hg : gc = true → gx = true ∧ gy = true := by first | exact fun _ => ⟨rfl, rfl⟩ | simp_all) : PVok C h env (.ia t x y) gc (EP xs i 0) := by
  refine pvE (S := (gx = true ∧ gy = true) ∧ (0 ≤ i ∧ i < xs.length) ∧ 0 < xs.length * Enc.sz α) ?_ fun e => ?_
  · simp only [pv, hx, hy, iaA, hk, he]
    show (AV.vref _ _ (i.toNat * ei.sz), _) = _
    rw [hs]; rfl
  · obtain ⟨h1, h2, _⟩ := getI_in (hi e)
    exact ⟨hg e, ⟨h1, h2⟩, Nat.mul_pos (by omega) Enc.pos⟩
theorem p_iaO {e : TypeId} {ei : TI} {xs : List α} {k : IntKind} {i : Int} {b : Nat} (hk : C.kd t = some (.slc e)) (he : C.ty e = some ei) (hs : ei.sz = Enc.sz α) (hx : ev env x = (gx, OL b xs)) (hy : ev env y = (gy, .int k i))
    (nd : Nd h) {j : Nat} {ty : TypeId} (hj : h[j]? = some (b, RL ty xs))
    {a : α} (hi : gc = true → getI xs i = some a) (hg : gc = true → gx = true ∧ gy = true := by first | exact fun _ => ⟨rfl, rfl⟩ | simp_all) : PVok C h env (.ia t x y) gc (OP b xs i 0) := by
  refine pvE (S := (gx = true ∧ gy = true) ∧ (0 ≤ i ∧ i < xs.length) ∧ refOK h b (xs.length * Enc.sz α)) ?_ fun e => ?_
  · simp only [pv, hx, hy, iaA, hk, he]
    show (AV.ref _ (0 + i.toNat * ei.sz) _, _) = _
    rw [hs, Nat.zero_add]; rfl
  · obtain ⟨h1, h2, _⟩ := getI_in (hi e)
    exact ⟨hg e, ⟨h1, h2⟩, refOK_of nd hj rfl⟩

theorem p_faE {xs : List α} {i : Int} {o n off : Nat} {fi : TI} (hf : fieldsA C t n = some (fi, off)) (hn : fi.sz ≠ 0) (hx : ev env x = (gx, EP xs i o)) (hg : gc = true → gx = true := by first | exact fun _ => rfl | simp_all) :
    PVok C h env (.fa t x n) gc (EP xs i (o + off)) := by
  refine pvE (S := gx = true ∧ fi.sz ≠ 0) ?_ fun e => ⟨hg e, hn⟩
  simp only [pv, hx, faA, hf, EP, Nat.add_assoc]
theorem p_faO {xs : List α} {i : Int} {b o n off : Nat} {fi : TI} (hf : fieldsA C t n = some (fi, off)) (hn : fi.sz ≠ 0) (hx : ev env x = (gx, OP b xs i o)) (nd : Nd h) {j : Nat} {ty : TypeId} (hj : h[j]? = some (b, RL ty xs))
    (hg : gc = true → gx = true := by first | exact fun _ => rfl | simp_all) : PVok C h env (.fa t x n) gc (OP b xs i (o + off)) := by
  refine pvE (S := gx = true ∧ fi.sz ≠ 0 ∧ refOK h b (xs.length * Enc.sz α)) ?_ fun e => ⟨hg e, hn, refOK_of nd hj rfl⟩
  simp only [pv, hx, faA, hf, OP, Nat.add_assoc]
/-- A field of a struct that lies alone. -/
theorem p_faV {b o n off st : Nat} {fi : TI} (hf : fieldsA C t n = some (fi, off)) (hn : fi.sz ≠ 0) (hx : ev env x = (gx, .ref b o st)) (nd : Nd h) {j : Nat} {r : Row} (hj : h[j]? = some (b, r)) (hst : st = r.m)
    (hg : gc = true → gx = true := by first | exact fun _ => rfl | simp_all) : PVok C h env (.fa t x n) gc (.ref b (o + off) st) := by
  refine pvE (S := gx = true ∧ fi.sz ≠ 0 ∧ refOK h b st) ?_ fun e => ⟨hg e, hn, refOK_of nd hj hst⟩
  simp only [pv, hx, faA, hf]
theorem p_faR {cells : Nat → AV} {m o n off : Nat} {fi : TI} (hf : fieldsA C t n = some (fi, off)) (hn : fi.sz ≠ 0) (hx : ev env x = (gx, .vref cells m o)) (hg : gc = true → gx = true := by first | exact fun _ => rfl | simp_all) :
    PVok C h env (.fa t x n) gc (.vref cells m (o + off)) := by
  refine pvE (S := gx = true ∧ fi.sz ≠ 0) ?_ fun e => ⟨hg e, hn⟩
  simp only [pv, hx, faA, hf]

theorem row_at {xs : List α} {i : Int} {a : α} (hi : getI xs i = some a) {o : Nat} (ho : o < Enc.sz α) : rowL (Enc.sz α) ec xs (i.toNat * Enc.sz α + o) = ec a o := by
  obtain ⟨_, h2, h3⟩ := getI_in hi
  rw [rowL_get (by omega) ho a]
  simp [List.getD_eq_getElem?_getD, h3]

theorem cut_ofL {l : List AV} {o m : Nat} : cutM (ofL l) o m = ofL ((l.drop o).take m) := cutM_ofL

/-- A part of an element. -/
theorem part_at {xs : List α} {i : Int} {a : α} {o : Nat} {ti : TI} {d : β} (hi : getI xs i = some a) (hd : ((Enc.cl a).drop o).take (Enc.sz β) = Enc.cl d) (ha : ti.isAgg = Enc.agg β) (hs : ti.sz = Enc.sz β) :
    partA ti (rowL (Enc.sz α) ec xs) (i.toNat * Enc.sz α + o) = Enc.v d ∧ i.toNat * Enc.sz α + o + ti.sz ≤ xs.length * Enc.sz α := by
  have hlen : o + Enc.sz β ≤ Enc.sz α := by
    have h1 := Enc.len d
    rw [← hd] at h1
    have h2 := Enc.len a
    have h3 := Enc.pos (α := β)
    simp at h1
    omega
  obtain ⟨_, h2, _⟩ := getI_in hi
  refine ⟨?_, ?_⟩
  · rw [Enc.veq]
    unfold partA
    rw [ha]
    split
    · rw [hs]
      congr 1
      funext k
      unfold cutM
      by_cases hk : k < Enc.sz β
      · rw [if_pos hk, Nat.add_assoc, row_at hi (by omega), ← hd]
        show ofL _ _ = ofL _ _
        simp only [ofL, List.getD_eq_getElem?_getD, List.getElem?_take, if_pos hk, List.getElem?_drop]
      · rw [if_neg hk]
        have := Enc.len d
        simp [ofL, List.getD_eq_getElem?_getD, List.getElem?_eq_none (show (Enc.cl d).length ≤ k by omega)]
    · have := Enc.pos (α := β)
      rw [row_at hi (by omega), ← hd]
      show ofL _ _ = ofL _ _
      simp only [ofL, List.getD_eq_getElem?_getD, List.getElem?_take, if_pos this, List.getElem?_drop, Nat.add_zero]
  · rw [hs]
    have : (i.toNat + 1) * Enc.sz α ≤ xs.length * Enc.sz α := Nat.mul_le_mul_right _ (by omega)
    rw [Nat.add_mul] at this
    omega

theorem p_ldE {xs : List α} {i : Int} {a : α} {o : Nat} {ti : TI} (d : β) (ht : C.ty t = some ti) (hk : ti.known = true) (hx : ev env x = (gx, EP xs i o)) (hi : gc = true → getI xs i = some a)
    (hd : ((Enc.cl a).drop o).take (Enc.sz β) = Enc.cl d) (ha : ti.isAgg = Enc.agg β) (hs : ti.sz = Enc.sz β) (hg : gc = true → gx = true := by first | exact fun _ => rfl | simp_all) : PVok C h env (.ld t x) gc (Enc.v d) := fun e => by
  obtain ⟨h1, h2⟩ := part_at (hi e) hd ha hs
  have : pv C h env (.ld t x) = (partA ti (rowL (Enc.sz α) ec xs) (i.toNat * Enc.sz α + o), gx = true ∧ ti.known = true ∧ i.toNat * Enc.sz α + o + ti.sz ≤ xs.length * Enc.sz α ∧ (ti.isAgg = false → ti.sz = 1)) := by
    simp only [pv, hx, loadA, ht, EP]
  rw [this]
  exact ⟨h1, hg e, hk, h2, fun hh => by rw [hs]; exact Enc.one (by rw [← ha]; exact hh)⟩
theorem p_ldO {xs : List α} {i : Int} {a : α} {b o : Nat} {ti : TI} (d : β) (ht : C.ty t = some ti) (hk : ti.known = true) (hx : ev env x = (gx, OP b xs i o)) (nd : Nd h) {j : Nat} {ty : TypeId} (hj : h[j]? = some (b, RL ty xs))
    (hi : gc = true → getI xs i = some a) (hd : ((Enc.cl a).drop o).take (Enc.sz β) = Enc.cl d) (ha : ti.isAgg = Enc.agg β) (hs : ti.sz = Enc.sz β) (hg : gc = true → gx = true := by first | exact fun _ => rfl | simp_all) :
    PVok C h env (.ld t x) gc (Enc.v d) := fun e => by
  obtain ⟨h1, h2⟩ := part_at (hi e) hd ha hs
  have hr := nd.get hj
  have : pv C h env (.ld t x) = (partA ti (rowL (Enc.sz α) ec xs) (i.toNat * Enc.sz α + o), gx = true ∧ ti.known = true ∧ xs.length * Enc.sz α = (RL ty xs).m ∧ i.toNat * Enc.sz α + o + ti.sz ≤ (RL ty xs).m ∧ (ti.isAgg = false → ti.sz = 1)) := by
    simp only [pv, hx, loadA, ht, OP, hr]; rfl
  rw [this]
  exact ⟨h1, hg e, hk, rfl, h2, fun hh => by rw [hs]; exact Enc.one (by rw [← ha]; exact hh)⟩

/-- One cell of a struct that lies alone. -/
theorem p_ldV {b o st : Nat} {ti : TI} {l : List AV} {v : AV} (ht : C.ty t = some ti) (hk : ti.known = true) (hx : ev env x = (gx, .ref b o st)) (nd : Nd h) {j : Nat} {ty : TypeId} (hj : h[j]? = some (b, RV ty l)) (hst : st = l.length)
    (hv : l[o]? = some v) (ha : ti.isAgg = false) (hs : ti.sz = 1) (hg : gc = true → gx = true := by first | exact fun _ => rfl | simp_all) : PVok C h env (.ld t x) gc v := fun e => by
  have hr := nd.get hj
  have : pv C h env (.ld t x) = (partA ti (ofL l) o, gx = true ∧ ti.known = true ∧ st = l.length ∧ o + ti.sz ≤ l.length ∧ (ti.isAgg = false → ti.sz = 1)) := by
    simp only [pv, hx, loadA, ht, hr]; rfl
  rw [this]
  have := (List.getElem?_eq_some_iff.1 hv).1
  refine ⟨?_, hg e, hk, hst, by omega, fun _ => hs⟩
  simp [partA, ha, ofL, List.getD_eq_getElem?_getD, hv]
/-- Some cells of a struct that lies alone. -/
theorem p_ldVa {b o st : Nat} {ti : TI} {l l' : List AV} (ht : C.ty t = some ti) (hk : ti.known = true) (hx : ev env x = (gx, .ref b o st)) (nd : Nd h) {j : Nat} {ty : TypeId} (hj : h[j]? = some (b, RV ty l)) (hst : st = l.length)
    (hv : (l.drop o).take ti.sz = l') (ha : ti.isAgg = true) (hs : o + ti.sz ≤ l.length) (hg : gc = true → gx = true := by first | exact fun _ => rfl | simp_all) : PVok C h env (.ld t x) gc (.agg ti.sz (ofL l')) := fun e => by
  have hr := nd.get hj
  have : pv C h env (.ld t x) = (partA ti (ofL l) o, gx = true ∧ ti.known = true ∧ st = l.length ∧ o + ti.sz ≤ l.length ∧ (ti.isAgg = false → ti.sz = 1)) := by
    simp only [pv, hx, loadA, ht, hr]; rfl
  rw [this]
  refine ⟨?_, hg e, hk, hst, hs, fun hh => by rw [ha] at hh; cases hh⟩
  simp [partA, ha, cutM_ofL, hv]
/-- Through a pointer to what lies for good. -/
theorem p_ldR {o m : Nat} {ti : TI} {l : List AV} {v : AV} (ht : C.ty t = some ti) (hk : ti.known = true) (hx : ev env x = (gx, .vref (ofL l) m o)) (hm : m = l.length)
    (hv : l[o]? = some v) (ha : ti.isAgg = false) (hs : ti.sz = 1) (hg : gc = true → gx = true := by first | exact fun _ => rfl | simp_all) : PVok C h env (.ld t x) gc v := fun e => by
  have : pv C h env (.ld t x) = (partA ti (ofL l) o, gx = true ∧ ti.known = true ∧ o + ti.sz ≤ m ∧ (ti.isAgg = false → ti.sz = 1)) := by
    simp only [pv, hx, loadA, ht]
  rw [this]
  have := (List.getElem?_eq_some_iff.1 hv).1
  refine ⟨?_, hg e, hk, by omega, fun _ => hs⟩
  simp [partA, ha, ofL, List.getD_eq_getElem?_getD, hv]
theorem p_ldRa {o m : Nat} {ti : TI} {l l' : List AV} (ht : C.ty t = some ti) (hk : ti.known = true) (hx : ev env x = (gx, .vref (ofL l) m o)) (hm : m = l.length)
    (hv : (l.drop o).take ti.sz = l') (ha : ti.isAgg = true) (hs : o + ti.sz ≤ l.length) (hg : gc = true → gx = true := by first | exact fun _ => rfl | simp_all) : PVok C h env (.ld t x) gc (.agg ti.sz (ofL l')) := fun e => by
  have : pv C h env (.ld t x) = (partA ti (ofL l) o, gx = true ∧ ti.known = true ∧ o + ti.sz ≤ m ∧ (ti.isAgg = false → ti.sz = 1)) := by
    simp only [pv, hx, loadA, ht]
  rw [this]
  refine ⟨?_, hg e, hk, by omega, fun hh => by rw [ha] at hh; cases hh⟩
  simp [partA, ha, cutM_ofL, hv]

/-! ### parts of values -/
theorem p_fd {n off m : Nat} {fi : TI} {l : List AV} {v : AV} (hf : fieldsA C t n = some (fi, off)) (hk : fi.known = true) (hx : ev env x = (gx, .agg m (ofL l))) (hv : l[off]? = some v) (ha : fi.isAgg = false) (hs : fi.sz = 1) (hm : off + 1 ≤ m)
    (hg : gc = true → gx = true := by first | exact fun _ => rfl | simp_all) : PVok C h env (.fd t x n) gc v := by
  refine pvE (S := gx = true ∧ fi.known = true ∧ off + fi.sz ≤ m ∧ (fi.isAgg = false → fi.sz = 1)) ?_ fun e => ⟨hg e, hk, by omega, fun _ => hs⟩
  simp only [pv, hx, fdA, hf]
  simp [partA, ha, ofL, List.getD_eq_getElem?_getD, hv]
theorem p_fda {n off m : Nat} {fi : TI} {l l' : List AV} (hf : fieldsA C t n = some (fi, off)) (hk : fi.known = true) (hx : ev env x = (gx, .agg m (ofL l))) (hv : (l.drop off).take fi.sz = l') (ha : fi.isAgg = true) (hm : off + fi.sz ≤ m)
    (hg : gc = true → gx = true := by first | exact fun _ => rfl | simp_all) : PVok C h env (.fd t x n) gc (.agg fi.sz (ofL l')) := by
  refine pvE (S := gx = true ∧ fi.known = true ∧ off + fi.sz ≤ m ∧ (fi.isAgg = false → fi.sz = 1)) ?_ fun e => ⟨hg e, hk, hm, fun hh => by rw [ha] at hh; cases hh⟩
  simp only [pv, hx, fdA, hf]
  simp [partA, ha, cutM_ofL, hv]
theorem p_ex {n m : Nat} {l : List AV} {v : AV} (hx : ev env x = (gx, .tup m (ofL l))) (hv : l[n]? = some v) (hm : n < m) (hg : gc = true → gx = true := by first | exact fun _ => rfl | simp_all) : PVok C h env (.ex x n) gc v := by
  refine pvE (S := gx = true ∧ n < m) ?_ fun e => ⟨hg e, hm⟩
  simp only [pv, hx, exA]
  simp [ofL, List.getD_eq_getElem?_getD, hv]
theorem p_bld {ps : List (Nat × X)} {i : TI} {fs : List (TypeId × Nat)} {l : List AV} (ht : C.ty t = some i) (hk : i.kd = .struct fs) (hall : allTy C fs ∧ fits C fs i.sz) (hl : tabL i.sz 0 (fillA C h fs env i.z ps).1 = l)
    (hS : gc = true → (fillA C h fs env i.z ps).2) : PVok C h env (.bld t ps) gc (.agg i.sz (ofL l)) := by
  refine pvE (S := (allTy C fs ∧ fits C fs i.sz) ∧ (fillA C h fs env i.z ps).2) ?_ fun e => ⟨hall, hS e⟩
  simp only [pv, bldA, ht, hk, hl]

/-! ### cuts -/
theorem p_sliL {e : TypeId} {ei : TI} {xs : List α} {lo hi : Option X} {g1 g2 : Bool} {l k : Int} (hk : C.kd t = some (.slc e)) (he : C.ty e = some ei) (hs : ei.sz = Enc.sz α) (hx : ev env x = (gx, L xs))
    (h1 : boundA env lo 0 = some (g1, l)) (h2 : boundA env hi xs.length = some (g2, k)) (hb : gc = true → 0 ≤ l ∧ l ≤ k ∧ k ≤ xs.length)
    (hg : gc = true → gx = true ∧ g1 = true ∧ g2 = true := by first | exact fun _ => ⟨rfl, rfl, rfl⟩ | simp_all) : PVok C h env (.sli t x lo hi none) gc (L (slc xs l k)) := fun e => by
  have hb' := hb e
  have : pv C h env (.sli t x lo hi none) = (CS ei.sz (rowL (Enc.sz α) ec xs) (l.toNat * ei.sz) (k - l).toNat, gx = true ∧ (g1 = true ∧ g2 = true) ∧ (0 ≤ l ∧ l ≤ k ∧ k ≤ xs.length) ∧ xs.length * ei.sz ≤ xs.length * Enc.sz α) := by
    have : sliA C h env t (L xs) lo hi = (CS ei.sz (rowL (Enc.sz α) ec xs) (l.toNat * ei.sz) (k - l).toNat, (g1 = true ∧ g2 = true) ∧ (0 ≤ l ∧ l ≤ k ∧ k ≤ xs.length) ∧ xs.length * ei.sz ≤ xs.length * Enc.sz α) := by
      simp only [sliA, hk, L]
      rw [sliB_VS]
      simp only [he, h1, h2]
    simp only [pv, hx, this]
  rw [this, hs]
  refine ⟨?_, (hg e).1, (hg e).2, hb', Nat.le_refl _⟩
  rw [CS_rowL Enc.pos _ _ (by omega)]
  rfl
theorem p_sliS {s : Str} {lo hi : Option X} {g1 g2 : Bool} {l k : Int} (hk : C.kd t = some .str) (hx : ev env x = (gx, .str s.ba))
    (h1 : boundA env lo 0 = some (g1, l)) (h2 : ∀ n, n = s.l.length → boundA env hi n = some (g2, k)) (hb : gc = true → 0 ≤ l ∧ l ≤ k ∧ k ≤ s.l.length)
    (hg : gc = true → gx = true ∧ g1 = true ∧ g2 = true := by first | exact fun _ => ⟨rfl, rfl, rfl⟩ | simp_all) : PVok C h env (.sli t x lo hi none) gc (Enc.v (Str.mk (slc s.l l k))) := fun e => by
  have hb' := hb e
  have : sliA C h env t (.str s.ba) lo hi = (.str (s.ba.extract l.toNat k.toNat), (g1 = true ∧ g2 = true) ∧ 0 ≤ l ∧ l ≤ k ∧ k ≤ s.ba.size) := by
    simp only [sliA, hk, sliB, h1, h2 _ (ba_size s)]
  have : pv C h env (.sli t x lo hi none) = (.str (s.ba.extract l.toNat k.toNat), gx = true ∧ (g1 = true ∧ g2 = true) ∧ 0 ≤ l ∧ l ≤ k ∧ k ≤ s.ba.size) := by
    simp only [pv, hx, this]
  rw [this, ba_extract s hb'.1 hb'.2.1]
  refine ⟨rfl, (hg e).1, (hg e).2, hb'.1, hb'.2.1, ?_⟩
  have h1 : ((Str.ba s).size : Int) = s.l.length := by rw [ba_size]
  rw [h1]
  exact hb'.2.2
/-- Part of an own list. -/
def OS {α : Type} [Enc α] (b : Nat) (xs : List α) (l k : Int) : AV := .rs b (l.toNat * Enc.sz α) (k - l).toNat (xs.length * Enc.sz α) (Enc.sz α)
theorem p_sliO {e : TypeId} {ei : TI} {xs : List α} {b : Nat} {lo hi : Option X} {g1 g2 : Bool} {l k : Int} (hk : C.kd t = some (.slc e)) (he : C.ty e = some ei) (hs : ei.sz = Enc.sz α) (hx : ev env x = (gx, OL b xs)) (nd : Nd h) {j : Nat} {ty : TypeId} (hj : h[j]? = some (b, RL ty xs))
    (h1 : boundA env lo 0 = some (g1, l)) (h2 : boundA env hi xs.length = some (g2, k)) (hb : gc = true → (0 ≤ l ∧ l ≤ k ∧ k ≤ xs.length) ∧ (l = 0 ∨ l < xs.length))
    (hg : gc = true → gx = true ∧ g1 = true ∧ g2 = true := by first | exact fun _ => ⟨rfl, rfl, rfl⟩ | simp_all) : PVok C h env (.sli t x lo hi none) gc (OS b xs l k) := fun e => by
  have hb' := hb e
  have : sliA C h env t (OL b xs) lo hi = (.rs b (0 + l.toNat * ei.sz) (k - l).toNat (xs.length * Enc.sz α) (Enc.sz α), (g1 = true ∧ g2 = true) ∧ (0 ≤ l ∧ l ≤ k ∧ k ≤ xs.length) ∧ (l = 0 ∨ l < xs.length) ∧ Enc.sz α = ei.sz ∧ 0 < Enc.sz α ∧ refOK h b (xs.length * Enc.sz α)) := by
    simp only [sliA, hk, sliB, OL, he, h1, h2]
  have : pv C h env (.sli t x lo hi none) = (.rs b (0 + l.toNat * ei.sz) (k - l).toNat (xs.length * Enc.sz α) (Enc.sz α), gx = true ∧ (g1 = true ∧ g2 = true) ∧ (0 ≤ l ∧ l ≤ k ∧ k ≤ xs.length) ∧ (l = 0 ∨ l < xs.length) ∧ Enc.sz α = ei.sz ∧ 0 < Enc.sz α ∧ refOK h b (xs.length * Enc.sz α)) := by
    simp only [pv, hx, this]
  rw [this, hs, Nat.zero_add]
  exact ⟨rfl, (hg e).1, (hg e).2, hb'.1, hb'.2, rfl, Enc.pos, refOK_of nd hj rfl⟩
/-- x[:0:0]. -/
theorem p_sz0 {e : TypeId} {xs : List α} {lo hi : Option X} {m : X} (hk : C.kd t = some (.slc e)) (he : (C.ty e).isSome = true) (hz : zz lo hi m = true) (hx : ev env x = (gx, L xs)) (hg : gc = true → gx = true := by first | exact fun _ => rfl | simp_all) :
    PVok C h env (.sli t x lo hi (some m)) gc .z0 := by
  have : sz0A C h t (L xs) = (.z0, (C.ty e).isSome = true) := by simp only [sz0A, hk, L, sz0B_VS]
  refine pvE (S := zz lo hi m = true ∧ gx = true ∧ (C.ty e).isSome = true) ?_ fun e => ⟨hz, hg e, he⟩
  simp only [pv, hx, this]
theorem p_sz0R {e : TypeId} {b off n st sz : Nat} {lo hi : Option X} {m : X} (hk : C.kd t = some (.slc e)) (he : (C.ty e).isSome = true) (hz : zz lo hi m = true) (hx : ev env x = (gx, .rs b off n st sz)) (hr : gc = true → refOK h b st) (hg : gc = true → gx = true := by first | exact fun _ => rfl | simp_all) :
    PVok C h env (.sli t x lo hi (some m)) gc .z0 := by
  have : sz0A C h t (.rs b off n st sz) = (.z0, (C.ty e).isSome = true ∧ refOK h b st) := by simp only [sz0A, hk, sz0B]
  refine pvE (S := zz lo hi m = true ∧ gx = true ∧ (C.ty e).isSome = true ∧ refOK h b st) ?_ fun e => ⟨hz, hg e, he, hr e⟩
  simp only [pv, hx, this]

/-! ### texts -/
section str
variable {s r : Str} (hx : ev env x = (gx, .str s.ba)) (hy : ev env y = (gy, .str r.ba)) (hg : gc = true → gx = true ∧ gy = true := by first | exact fun _ => ⟨rfl, rfl⟩ | simp_all)
include hx hy hg
theorem ps_bin {op : BinOp} {v : AV} {S : Prop} (hb : binA op (.str s.ba) (.str r.ba) = (v, S)) (hS : gc = true → S) : PVok C h env (.bin op t x y) gc v := by
  refine pvE (S := (gx = true ∧ gy = true) ∧ S) ?_ fun e => ⟨hg e, hS e⟩
  have : binAll C h op t (.str s.ba) (.str r.ba) = (v, S) := by rw [← hb]; rfl
  simp only [pv, hx, hy, this]
theorem ps_add (hl : gc = true → ((s.l.length + r.l.length : Nat) : Int) ≤ 9223372036854775807) : PVok C h env (.bin .add t x y) gc (Enc.v (Str.mk (s.l ++ r.l))) :=
  ps_bin hx hy hg (S := ((s.ba.size + r.ba.size : Nat) : Int) ≤ 9223372036854775807) (by simp only [binA, ba_app]; rfl) (fun e => by rw [ba_size, ba_size]; exact hl e)
theorem ps_eql : PVok C h env (.bin .eql t x y) gc (.bool (s.l == r.l)) := ps_bin hx hy hg (S := True) (by simp only [binA, ba_toList]) (fun _ => trivial)
theorem ps_neq : PVok C h env (.bin .neq t x y) gc (.bool (!(s.l == r.l))) := ps_bin hx hy hg (S := True) (by simp only [binA, ba_toList]) (fun _ => trivial)
theorem ps_lss : PVok C h env (.bin .lss t x y) gc (.bool (Op.bytesLess s.l r.l)) := ps_bin hx hy hg (S := True) (by simp only [binA, ba_toList]) (fun _ => trivial)
theorem ps_leq : PVok C h env (.bin .leq t x y) gc (.bool (Op.bytesLess s.l r.l || s.l == r.l)) := ps_bin hx hy hg (S := True) (by simp only [binA, ba_toList]) (fun _ => trivial)
theorem ps_gtr : PVok C h env (.bin .gtr t x y) gc (.bool (!(Op.bytesLess s.l r.l || s.l == r.l))) := ps_bin hx hy hg (S := True) (by simp only [binA, ba_toList]) (fun _ => trivial)
theorem ps_geq : PVok C h env (.bin .geq t x y) gc (.bool (!(Op.bytesLess s.l r.l))) := ps_bin hx hy hg (S := True) (by simp only [binA, ba_toList]) (fun _ => trivial)
end str
theorem p_ix {s : Str} {k : IntKind} {i : Int} {a : UInt8} (hk : C.kd t = some .str) (hx : ev env x = (gx, .str s.ba)) (hy : ev env y = (gy, .int k i)) (hi : gc = true → getI s.l i = some a) (hg : gc = true → gx = true ∧ gy = true := by first | exact fun _ => ⟨rfl, rfl⟩ | simp_all) :
    PVok C h env (.ix t x y) gc (Enc.v a) := fun e => by
  have : pv C h env (.ix t x y) = (.int .u8 (btA s.ba i), (gx = true ∧ gy = true) ∧ C.kd t = some .str ∧ 0 ≤ i ∧ i < s.ba.size) := by
    simp only [pv, hx, hy, ixA]
  rw [this]
  obtain ⟨h1, h2, h3⟩ := getI_in (hi e)
  have h4 : (s.ba.size : Int) = s.l.length := by rw [ba_size]
  refine ⟨?_, hg e, hk, h1, by rw [h4]; exact h2⟩
  have hlt : i.toNat < s.l.length := by omega
  have hb : btA s.ba i = (a.toNat : Int) := by
    unfold btA
    have hsz : i.toNat < s.ba.size := by rw [ba_size]; exact hlt
    rw [dif_pos hsz]
    have : s.ba[i.toNat]'hsz = a := by
      show s.l.toArray[i.toNat] = a
      have := (List.getElem?_eq_some_iff.1 h3).2
      exact this
    rw [this]
  rw [hb]; rfl

/-! ### tests -/
theorem p_ncR {b o st : Nat} (hx : ev env x = (gx, .ref b o st)) (hr : gc = true → refOK h b st) (hg : gc = true → gx = true := by first | exact fun _ => rfl | simp_all) : PVok C h env (.nc x) gc (.ref b o st) := by
  refine pvE (S := gx = true ∧ refOK h b st) ?_ fun e => ⟨hg e, hr e⟩
  simp only [pv, hx, ncA]
theorem p_ncV {cells : Nat → AV} {m o : Nat} (hx : ev env x = (gx, .vref cells m o)) (hg : gc = true → gx = true := by first | exact fun _ => rfl | simp_all) : PVok C h env (.nc x) gc (.vref cells m o) := by
  refine pvE (S := gx = true ∧ True) ?_ fun e => ⟨hg e, trivial⟩
  simp only [pv, hx, ncA]
theorem p_ncF {f m : Nat} {cs : Nat → AV} (hx : ev env x = (gx, .fn f m cs)) (hg : gc = true → gx = true := by first | exact fun _ => rfl | simp_all) : PVok C h env (.nc x) gc (.fn f m cs) := by
  refine pvE (S := gx = true ∧ True) ?_ fun e => ⟨hg e, trivial⟩
  simp only [pv, hx, ncA]
theorem p_mf {f : Nat} {cs : List X} {l : List AV} (hl : (evs env cs).map (·.2) = l) (hg : gc = true → allG (evs env cs)) : PVok C h env (.mf f cs) gc (.fn f cs.length (ofL l)) := by
  refine pvE (S := allG (evs env cs)) ?_ hg
  simp only [pv, hl]
theorem p_eqB {p q : Bool} (hk : C.kd t = some .bool) (hx : ev env x = (gx, .bool p)) (hy : ev env y = (gy, .bool q)) (hg : gc = true → gx = true ∧ gy = true := by first | exact fun _ => ⟨rfl, rfl⟩ | simp_all) :
    PVok C h env (.bin .eql t x y) gc (.bool (p == q)) := by
  refine pvE (S := (gx = true ∧ gy = true) ∧ True) ?_ fun e => ⟨hg e, trivial⟩
  have : binAll C h .eql t (.bool p) (.bool q) = (.bool (p == q), True) := by
    show eqA C h t false (.bool p) (.bool q) = _
    simp only [eqA, hk, eqB]; rfl
  simp only [pv, hx, hy, this]
theorem p_neB {p q : Bool} (hk : C.kd t = some .bool) (hx : ev env x = (gx, .bool p)) (hy : ev env y = (gy, .bool q)) (hg : gc = true → gx = true ∧ gy = true := by first | exact fun _ => ⟨rfl, rfl⟩ | simp_all) :
    PVok C h env (.bin .neq t x y) gc (.bool (p != q)) := by
  refine pvE (S := (gx = true ∧ gy = true) ∧ True) ?_ fun e => ⟨hg e, trivial⟩
  have : binAll C h .neq t (.bool p) (.bool q) = (.bool (p != q), True) := by
    show eqA C h t true (.bool p) (.bool q) = _
    simp only [eqA, hk, eqB]; rfl
  simp only [pv, hx, hy, this]
/-- A pointer that is there, and nil. -/
theorem p_eqP {e b o st : Nat} (hk : C.kd t = some (.ptr e)) (hx : ev env x = (gx, .ref b o st)) (hy : ev env y = (gy, .nilp)) (hr : gc = true → refOK h b st) (hg : gc = true → gx = true ∧ gy = true := by first | exact fun _ => ⟨rfl, rfl⟩ | simp_all) :
    PVok C h env (.bin .eql t x y) gc (.bool false) := by
  refine pvE (S := (gx = true ∧ gy = true) ∧ refOK h b st) ?_ fun e => ⟨hg e, hr e⟩
  have : binAll C h .eql t (.ref b o st) .nilp = (.bool false, refOK h b st) := by
    show eqA C h t false _ _ = _
    simp only [eqA, hk, eqB]; rfl
  simp only [pv, hx, hy, this]
theorem p_neP {e b o st : Nat} (hk : C.kd t = some (.ptr e)) (hx : ev env x = (gx, .ref b o st)) (hy : ev env y = (gy, .nilp)) (hr : gc = true → refOK h b st) (hg : gc = true → gx = true ∧ gy = true := by first | exact fun _ => ⟨rfl, rfl⟩ | simp_all) :
    PVok C h env (.bin .neq t x y) gc (.bool true) := by
  refine pvE (S := (gx = true ∧ gy = true) ∧ refOK h b st) ?_ fun e => ⟨hg e, hr e⟩
  have : binAll C h .neq t (.ref b o st) .nilp = (.bool true, refOK h b st) := by
    show eqA C h t true _ _ = _
    simp only [eqA, hk, eqB]; rfl
  simp only [pv, hx, hy, this]
theorem p_eqN {e : Nat} (hk : C.kd t = some (.ptr e)) (hx : ev env x = (gx, .nilp)) (hy : ev env y = (gy, .nilp)) (hg : gc = true → gx = true ∧ gy = true := by first | exact fun _ => ⟨rfl, rfl⟩ | simp_all) :
    PVok C h env (.bin .eql t x y) gc (.bool true) := by
  refine pvE (S := (gx = true ∧ gy = true) ∧ True) ?_ fun e => ⟨hg e, trivial⟩
  have : binAll C h .eql t .nilp .nilp = (.bool true, True) := by
    show eqA C h t false _ _ = _
    simp only [eqA, hk, eqB]; rfl
  simp only [pv, hx, hy, this]
theorem p_neN {e : Nat} (hk : C.kd t = some (.ptr e)) (hx : ev env x = (gx, .nilp)) (hy : ev env y = (gy, .nilp)) (hg : gc = true → gx = true ∧ gy = true := by first | exact fun _ => ⟨rfl, rfl⟩ | simp_all) :
    PVok C h env (.bin .neq t x y) gc (.bool false) := by
  refine pvE (S := (gx = true ∧ gy = true) ∧ True) ?_ fun e => ⟨hg e, trivial⟩
  have : binAll C h .neq t .nilp .nilp = (.bool false, True) := by
    show eqA C h t true _ _ = _
    simp only [eqA, hk, eqB]; rfl
  simp only [pv, hx, hy, this]
/-- Two structs. -/
theorem p_eqT {fs : List (TypeId × Nat)} {m m' : Nat} {c d : Nat → AV} {q : Bool} (hk : C.kd t = some (.struct fs)) (hx : ev env x = (gx, .agg m c)) (hy : ev env y = (gy, .agg m' d)) (hq : (eqFs C m m' c d fs).1 = q ∧ (eqFs C m m' c d fs).2)
    (hg : gc = true → gx = true ∧ gy = true := by first | exact fun _ => ⟨rfl, rfl⟩ | simp_all) : PVok C h env (.bin .eql t x y) gc (.bool q) := by
  refine pvE (S := (gx = true ∧ gy = true) ∧ (eqFs C m m' c d fs).2) ?_ fun e => ⟨hg e, hq.2⟩
  have : binAll C h .eql t (.agg m c) (.agg m' d) = (.bool q, (eqFs C m m' c d fs).2) := by
    show eqA C h t false _ _ = _
    simp only [eqA, hk, eqB, hq.1]; rfl
  simp only [pv, hx, hy, this]
theorem p_neT {fs : List (TypeId × Nat)} {m m' : Nat} {c d : Nat → AV} {q : Bool} (hk : C.kd t = some (.struct fs)) (hx : ev env x = (gx, .agg m c)) (hy : ev env y = (gy, .agg m' d)) (hq : (eqFs C m m' c d fs).1 = q ∧ (eqFs C m m' c d fs).2)
    (hg : gc = true → gx = true ∧ gy = true := by first | exact fun _ => ⟨rfl, rfl⟩ | simp_all) : PVok C h env (.bin .neq t x y) gc (.bool (!q)) := by
  refine pvE (S := (gx = true ∧ gy = true) ∧ (eqFs C m m' c d fs).2) ?_ fun e => ⟨hg e, hq.2⟩
  have : binAll C h .neq t (.agg m c) (.agg m' d) = (.bool (!q), (eqFs C m m' c d fs).2) := by
    show eqA C h t true _ _ = _
    simp only [eqA, hk, eqB, hq.1]; rfl
  simp only [pv, hx, hy, this]
end
end Go.AX
