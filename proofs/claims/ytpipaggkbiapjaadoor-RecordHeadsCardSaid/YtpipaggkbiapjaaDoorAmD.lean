import Derived.Test.YtpipaggkbiapjaaDoorAmC
import Derived.Laws.StructEq
/- Equality; then every operation that writes nothing. -/
namespace Go.AM

def refOK (h : Hp) (b st : Nat) : Prop := match h.get b with
  | some r => st = r.m
  | none => False

theorem Sim.ref {μ h w b off st v} (s : Sim μ h w) (hr : refOK h b st) (hv : VR μ w (.ref b off st) v) :
    ∃ r B cs, h.get b = some r ∧ st = r.m ∧ μ.f b = some B ∧ B.L = r.m ∧ v = .pointer (some ⟨B.g, off, none⟩) ∧ w.heap[B.g]? = some (.cells cs r.ty (0, 0)) ∧ cs.size = B.E ∧ r.m ≤ B.E ∧
      ∀ i, i < r.m → ∃ u, cs[i]? = some u ∧ VR μ w (r.cells i) u := by
  unfold refOK at hr
  cases hg : h.get b with
  | none => rw [hg] at hr; exact hr.elim
  | some r =>
    rw [hg] at hr
    simp only at hr
    obtain ⟨B, cs, _, h1, h2, h3, h4, h5, h6⟩ := (s.row b r hg).resolve_left fun hh => hv.2.1 hh.1
    exact ⟨r, B, cs, rfl, hr, h1, h2, (hv.2.2 B h1).2 (by omega), h3, h4, h5, h6⟩

theorem Sim.rs {μ h w b off len st sz v} (s : Sim μ h w) (hr : refOK h b st) (hv : VR μ w (.rs b off len st sz) v) :
    (∃ r x, h.get b = some r ∧ r.m = 0 ∧ st = 0 ∧ len = 0 ∧ off = 0 ∧ μ.vir b ∧ μ.f b = none ∧ v = .slice x 0 0) ∨ ∃ r B cs cap, h.get b = some r ∧ st = r.m ∧ μ.f b = some B ∧ B.L = r.m ∧ v = .slice (some ⟨B.g, off, none⟩) len cap ∧ off + cap * sz = B.E ∧ off + len * sz ≤ st ∧
      w.heap[B.g]? = some (.cells cs r.ty (0, 0)) ∧ cs.size = B.E ∧ r.m ≤ B.E ∧ ∀ i, i < r.m → ∃ u, cs[i]? = some u ∧ VR μ w (r.cells i) u := by
  unfold refOK at hr
  cases hg : h.get b with
  | none => rw [hg] at hr; exact hr.elim
  | some r =>
    rw [hg] at hr
    simp only at hr
    rcases s.row b r hg with ⟨hvir, hn, h0⟩ | ⟨B, cs, hnv, h1, h2, h3, h4, h5, h6⟩
    · obtain ⟨hst, hl, x, hx⟩ := hv.2.2.1 hvir
      exact .inl ⟨r, x, rfl, h0, hst, hl, by have := hv.2.1; omega, hvir, hn, hx⟩
    obtain ⟨cap, e, hc⟩ := (hv.2.2.2 B h1).2 (by omega)
    exact .inr ⟨r, B, cs, cap, rfl, hr, h1, h2, e, hc, hv.2.1, h3, h4, h5, h6⟩

def ng (neg e : Bool) : Bool := if neg then !e else e

def Cx.kd (C : Cx) (t : TypeId) : Option TK' := (C.ty t).map fun i => i.kd

/-- '==' of two cells. -/
def eqS (C : Cx) (t : TypeId) (u v : AV) : Bool × Prop :=
  match C.kd t, u, v with
  | some (.int _), .int k a, .int k' b => (a == b, k = k')
  | some .bool, .bool a, .bool b => (a == b, True)
  | some .str, .str a, .str b => (a.toList == b.toList, True)
  | _, _, _ => (false, False)

def eqFs (C : Cx) (m m' : Nat) (xs ys : Nat → AV) : List (TypeId × Nat) → Bool × Prop
  | [] => (true, True)
  | (t, o) :: r => ((eqS C t (xs o) (ys o)).1 && (eqFs C m m' xs ys r).1, (o < m ∧ o < m' ∧ (eqS C t (xs o) (ys o)).2) ∧ (eqFs C m m' xs ys r).2)

def eqB (C : Cx) (h : Hp) (neg : Bool) (k : Option TK') (u v : AV) : AV × Prop :=
  match k, u, v with
  | some .bool, .bool a, .bool b => (.bool (ng neg (a == b)), True)
  | some (.ptr _), .nilp, .nilp => (.bool (ng neg true), True)
  | some (.ptr _), .ref b _ st, .nilp => (.bool (ng neg false), refOK h b st)
  | some (.ptr _), .vref _ _ _, .nilp => (.bool (ng neg false), True)
  | some (.slc _), .nils, .nils => (.bool (ng neg true), True)
  | some (.slc _), .sl _ _ n, .nils => (.bool (ng neg false), 0 < n)
  | some (.slc _), .rs b _ len st _, .nils => (.bool (ng neg false), refOK h b st ∧ 0 < len)
  | some .func, .nilf, .nilf => (.bool (ng neg true), True)
  | some .func, .fn _ _ _, .nilf => (.bool (ng neg false), True)
  | some (.struct fs), .agg m xs, .agg m' ys => (.bool (ng neg (eqFs C m m' xs ys fs).1), (eqFs C m m' xs ys fs).2)
  | _, _, _ => (.junk, False)

def eqA (C : Cx) (h : Hp) (t : TypeId) (neg : Bool) (u v : AV) : AV × Prop := eqB C h neg (C.kd t) u v

def binAll (C : Cx) (h : Hp) (op : BinOp) (t : TypeId) (u v : AV) : AV × Prop :=
  match u, v with
  | .int _ _, .int _ _ => binA op u v
  | .str _, .str _ => binA op u v
  | _, _ => match op with
    | .eql => eqA C h t false u v
    | .neq => eqA C h t true u v
    | _ => (.junk, False)

theorem kd_ok {C : Cx} {t : TypeId} {k : TK'} (h : C.kd t = some k) : ∃ i, C.ty t = some i ∧ i.kd = k ∧ KindOK C.P t k := by
  obtain ⟨i, hi, rfl⟩ := Option.map_eq_some_iff.1 (show (C.ty t).map (fun i => i.kd) = some k from h)
  exact ⟨i, hi, rfl, (C.ok t i hi).1⟩

theorem eqS_ok {C : Cx} {t : TypeId} {u v : AV} {a b : Value} {μ : Mu} {w : World} (hu : VR μ w u a) (hv : VR μ w v b) (hs : (eqS C t u v).2) (d : Nat) :
    (Op.equalIn (d + 1) t a b).run C.P w = .ok (eqS C t u v).1 w ∧ (isAgg t).run C.P w = .ok false w := by
  unfold eqS at hs ⊢
  split at hs
  case h_1 _ k0 k x k' y h =>
    have ha : a = .int k x := hu
    have hb : b = .int k' y := hv
    subst ha hb
    simp only at hs
    subst hs
    obtain ⟨i, hi, hk, hK⟩ := kd_ok h
    exact ⟨run_equalIn_int w d t k k0 x y hK, by simp [isAgg, run_und hK]⟩
  case h_2 _ x y h =>
    have ha : a = .bool x := hu
    have hb : b = .bool y := hv
    subst ha hb
    obtain ⟨i, hi, hk, hK⟩ := kd_ok h
    exact ⟨run_equalIn_bool' w d t x y hK, by simp [isAgg, run_und hK]⟩
  case h_3 _ x y h =>
    have ha : a = .string x := hu
    have hb : b = .string y := hv
    subst ha hb
    obtain ⟨i, hi, hk, hK⟩ := kd_ok h
    exact ⟨run_equalIn_string w d t x y hK, by simp [isAgg, run_und hK]⟩
  case h_4 => exact hs.elim

theorem eqFs_ok {C : Cx} {μ : Mu} {w : World} {m m' : Nat} {xs ys : Nat → AV} {as bs : Array Value} (ha : as.size = m ∧ ∀ i, i < m → VR μ w (xs i) (as.getD i undef))
    (hb : bs.size = m' ∧ ∀ i, i < m' → VR μ w (ys i) (bs.getD i undef)) (d : Nat) :
    ∀ (l : List Field), l.all (fun f => f.name != "_") = true → (eqFs C m m' xs ys (l.map fun f => (f.type, f.offset))).2 →
      (Op.eqFields (d + 1) as bs l).run C.P w = .ok (eqFs C m m' xs ys (l.map fun f => (f.type, f.offset))).1 w
  | [], _, _ => by simp [Op.eqFields, eqFs]
  | f :: l, hn, hs => by
    simp only [List.all_cons, Bool.and_eq_true] at hn
    simp only [List.map_cons, eqFs] at hs ⊢
    obtain ⟨⟨h1, h2, h3⟩, h4⟩ := hs
    have hx := ha.2 _ h1
    have hy := hb.2 _ h2
    obtain ⟨e1, e2⟩ := eqS_ok hx hy h3 d
    have ih := eqFs_ok ha hb d l hn.2 h4
    have p1 : (part f.type as f.offset).run C.P w = .ok (as.getD f.offset undef) w := by
      have : f.offset < as.size := by omega
      simp [part, e2, Array.getD, this]
    have p2 : (part f.type bs f.offset).run C.P w = .ok (bs.getD f.offset undef) w := by
      have : f.offset < bs.size := by omega
      simp [part, e2, Array.getD, this]
    have hne : f.name ≠ "_" := by simpa using hn.1
    simp only [Op.eqFields, hne, ne_eq, not_false_iff, if_true, Sem.run_bind, p1, p2, e1, Result.andThen_ok]
    cases hq : (eqS C f.type (xs f.offset) (ys f.offset)).1 <;> simp [ih]

theorem run_eql {P : Program} {op : BinOp} {t : TypeId} {x y : Operand} {a b : Value} {w : World} {e : Bool}
    (hab : ∀ k n k' n', ¬ (a = .int k n ∧ b = .int k' n')) (hf : (∀ k n, a ≠ .float k n) ∧ (∀ k n m, a ≠ .complex k n m) ∧ (∀ s, a ≠ .string s))
    (hg : Sem.run P (eqGuard op t x y a b) w = .ok () w)
    (he : (Op.equal t a b).run P w = .ok e w) (hop : op = .eql ∨ op = .neq) :
    Sem.run P (do eqGuard op t x y a b; binOp op t a b) w = .ok (.bool (ng (decide (op = .neq)) e)) w := by
  simp only [Sem.run_bind, hg, Result.andThen_ok]
  rcases hop with rfl | rfl <;> cases a <;> cases b <;>
    first
    | (exfalso; exact hab _ _ _ _ ⟨rfl, rfl⟩)
    | (exfalso; exact hf.1 _ _ rfl)
    | (exfalso; exact hf.2.1 _ _ _ rfl)
    | (exfalso; exact hf.2.2 _ rfl)
    | simp [binOp, he, ng]

theorem equal_of {P : Program} {t : TypeId} {a b : Value} {w : World} {e : Bool} (h : ∀ d, (Op.equalIn (d + 1) t a b).run P w = .ok e w) : (Op.equal t a b).run P w = .ok e w := by
  have := h 9999
  simpa [Op.equal, Op.maxDepth] using this

theorem eqA_ok {C : Cx} {h : Hp} {op : BinOp} {t : TypeId} {x y : Operand} {u v : AV} {a b : Value} {μ : Mu} {w : World} (hS : Sim μ h w) (hu : VR μ w u a) (hv : VR μ w v b)
    (hop : op = .eql ∨ op = .neq) (hs : (eqA C h t (decide (op = .neq)) u v).2) :
    ∃ c, Sem.run C.P (do eqGuard op t x y a b; binOp op t a b) w = .ok c w ∧ VR μ w (eqA C h t (decide (op = .neq)) u v).1 c := by
  unfold eqA eqB at hs ⊢
  split at hs
  case h_1 _ p q hk =>
    obtain rfl : a = .bool p := hu
    obtain rfl : b = .bool q := hv
    obtain ⟨i, hi, hk, hK⟩ := kd_ok hk
    exact ⟨_, run_eql (by simp) (by simp) (by unfold eqGuard; cases op <;> simp) (equal_of fun d => run_equalIn_bool' w d t p q hK) hop, rfl⟩
  case h_2 _ e hk =>
    obtain rfl : a = .pointer none := hu
    obtain rfl : b = .pointer none := hv
    obtain ⟨i, hi, hk, hK⟩ := kd_ok hk
    exact ⟨_, run_eql (by simp) (by simp) (by unfold eqGuard; cases op <;> simp) (equal_of fun d => by simp [Op.equalIn, run_und hK]) hop, rfl⟩
  case h_3 _ e bb off st hk =>
    obtain ⟨r, B, cs, _, _, _, _, rfl, _⟩ := hS.ref hs hu
    obtain rfl : b = .pointer none := hv
    obtain ⟨i, hi, hk, hK⟩ := kd_ok hk
    exact ⟨_, run_eql (by simp) (by simp) (by unfold eqGuard; cases op <;> simp) (equal_of fun d => by simp [Op.equalIn, run_und hK]) hop, rfl⟩
  case h_4 _ e cells m off hk =>
    obtain ⟨g, o, rfl, _⟩ := hu
    obtain rfl : b = .pointer none := hv
    obtain ⟨i, hi, hk, hK⟩ := kd_ok hk
    exact ⟨_, run_eql (by simp) (by simp) (by unfold eqGuard; cases op <;> simp) (equal_of fun d => by simp [Op.equalIn, run_und hK]) hop, rfl⟩
  case h_5 _ e hk =>
    obtain rfl : a = .slice none 0 0 := hu
    obtain rfl : b = .slice none 0 0 := hv
    obtain ⟨i, hi, hk, hK⟩ := kd_ok hk
    exact ⟨_, run_eql (by simp) (by simp) (by unfold eqGuard; cases op <;> simp) (equal_of fun d => by simp [Op.equalIn, run_und hK]) hop, rfl⟩
  case h_6 _ e cells m n hk =>
    obtain ⟨ad, cap, rfl, _⟩ := hu.resolve_left fun hh => by have : 0 < n := hs; omega
    obtain rfl : b = .slice none 0 0 := hv
    obtain ⟨i, hi, hk, hK⟩ := kd_ok hk
    exact ⟨_, run_eql (by simp) (by simp) (by unfold eqGuard; cases op <;> simp) (equal_of fun d => by simp [Op.equalIn, run_und hK]) hop, rfl⟩
  case h_7 _ e bb off len st sz hk =>
    obtain ⟨r, B, cs, cap, _, _, _, _, rfl, _⟩ := (hS.rs hs.1 hu).resolve_left fun ⟨_, _, _, _, _, hl, _⟩ => by have := hs.2; omega
    obtain rfl : b = .slice none 0 0 := hv
    obtain ⟨i, hi, hk, hK⟩ := kd_ok hk
    exact ⟨_, run_eql (by simp) (by simp) (by unfold eqGuard; cases op <;> simp) (equal_of fun d => by simp [Op.equalIn, run_und hK]) hop, rfl⟩
  case h_8 _ hk =>
    obtain rfl : a = .nilFunc := hu
    obtain rfl : b = .nilFunc := hv
    obtain ⟨i, hi, hk, ⟨_, _, _, hK⟩⟩ := kd_ok hk
    exact ⟨_, run_eql (by simp) (by simp) (by unfold eqGuard; cases op <;> simp) (equal_of fun d => by simp [Op.equalIn, run_und hK]) hop, rfl⟩
  case h_9 _ f m cs hk =>
    obtain ⟨vs, rfl, _⟩ := hu
    obtain rfl : b = .nilFunc := hv
    obtain ⟨i, hi, hk, ⟨_, _, _, hK⟩⟩ := kd_ok hk
    exact ⟨_, run_eql (by simp) (by simp) (by unfold eqGuard; cases op <;> simp) (equal_of fun d => by simp [Op.equalIn, run_und hK]) hop, rfl⟩
  case h_10 _ fs m xs m' ys hk =>
    obtain ⟨as, rfl, ha⟩ := hu
    obtain ⟨bs, rfl, hb⟩ := hv
    obtain ⟨i, hi, hk, ⟨fields, hK, rfl, h3, h4, h5⟩⟩ := kd_ok hk
    have hg : Sem.run C.P (eqGuard op t x y (.agg as) (.agg bs)) w = .ok () w := by
      unfold eqGuard; rcases hop with rfl | rfl <;> simp [h4]
    have hfo : C.P.fieldsOf t = fields := by simp [Program.fieldsOf, hK]
    have he : (Op.equal t (.agg as) (.agg bs)).run C.P w = .ok (eqFs C m m' xs ys (fields.toList.map fun f : Field => (f.type, f.offset))).1 w := by
      have := run_equalIn_struct (P := C.P) w 9999 t as bs (by rw [hfo]; exact hK) h3
      simp only [Op.equal, Op.maxDepth]
      rw [this, hfo]
      exact eqFs_ok ha hb 9998 fields.toList h5 hs
    exact ⟨_, run_eql (by simp) (by simp) hg he hop, rfl⟩
  case h_11 => exact hs.elim

theorem binAll_ok {C : Cx} {h : Hp} {op : BinOp} {t : TypeId} {x y : Operand} {u v : AV} {a b : Value} {μ : Mu} {w : World} (hS : Sim μ h w) (hu : VR μ w u a) (hv : VR μ w v b)
    (hs : (binAll C h op t u v).2) : ∃ c, Sem.run C.P (do eqGuard op t x y a b; binOp op t a b) w = .ok c w ∧ VR μ w (binAll C h op t u v).1 c := by
  unfold binAll at hs ⊢
  split at hs
  · exact binA_ok hu hv hs
  · exact binA_ok hu hv hs
  · split at hs
    · simpa using eqA_ok (op := .eql) hS hu hv (.inl rfl) (by simpa using hs)
    · simpa using eqA_ok (op := .neq) hS hu hv (.inr rfl) (by simpa using hs)
    · exact hs.elim

end Go.AM
