import Derived.Test.YtpipaggkbiapjaaDoorAmM
/- Lists in rows; loops over kept slots. -/
namespace Go.AM
open Go.RowKit

def encI (k : IntKind) (n : Int) : Nat → AV := fun _ => .int k n
def encS (s : ByteArray) : Nat → AV := fun _ => .str s
def encB (b : Bool) : Nat → AV := fun _ => .bool b
/-- A list of lists, one cell each. -/
def encV {α : Type} (sz : Nat) (enc : α → Nat → AV) (xs : List α) : Nat → AV := fun _ => VS sz enc xs

section
variable {α : Type} {sz : Nat} {enc : α → Nat → AV} {xs ys : List α}

theorem rowL_get {j d : Nat} (hj : j < xs.length) (hd : d < sz) (z : α) : rowL sz enc xs (j * sz + d) = enc (xs.getD j z) d := by
  unfold rowL
  rw [catC_lt hd]
  simp [hj]

theorem rowL_get0 {j : Nat} (hj : j < xs.length) (hd : 0 < sz) (z : α) : rowL sz enc xs (j * sz) = enc (xs.getD j z) 0 := rowL_get (d := 0) hj hd z

theorem rowL_one {j : Nat} (hj : j < xs.length) (z : α) : rowL 1 enc xs j = enc (xs.getD j z) 0 := by
  have := rowL_get (sz := 1) (enc := enc) hj (d := 0) (by omega) z
  simpa using this

theorem rowL_out (h0 : 0 < sz) {j : Nat} (h : xs.length * sz ≤ j) : rowL sz enc xs j = .junk := by
  unfold rowL catC
  have : ¬ j / sz < xs.length := by
    rw [Nat.not_lt]
    exact (Nat.le_div_iff_mul_le h0).2 h
  simp [this]

theorem rowL_split (_ : 0 < sz) (j : Nat) : rowL sz enc xs j = match xs[j / sz]? with | some x => enc x (j % sz) | none => .junk := by
  unfold rowL catC
  simp only [List.getElem?_map]
  cases xs[j / sz]? <;> rfl

theorem rowI {k : IntKind} {xs : List Int} {j : Nat} (hj : j < xs.length) : rowL 1 (encI k) xs j = .int k (xs.getD j 0) := rowL_one hj 0
theorem rowS {xs : List ByteArray} {j : Nat} (hj : j < xs.length) : rowL 1 encS xs j = .str (xs.getD j ByteArray.empty) := rowL_one hj _
theorem rowV {β : Type} {s' : Nat} {e' : β → Nat → AV} {xs : List (List β)} {j : Nat} (hj : j < xs.length) : rowL 1 (encV s' e') xs j = VS s' e' (xs.getD j []) := rowL_one hj []

/-- Nothing behind its cells. -/
def Tight (sz : Nat) (enc : α → Nat → AV) : Prop := ∀ x j, sz ≤ j → enc x j = .junk

theorem cutM_rowL (ht : Tight sz enc) {j : Nat} (hj : j < xs.length) (z : α) : cutM (rowL sz enc xs) (j * sz) sz = enc (xs.getD j z) := by
  funext d
  unfold cutM
  by_cases hd : d < sz
  · rw [if_pos hd, rowL_get hj hd z]
  · rw [if_neg hd, ht _ _ (by omega)]

theorem CS_rowL (h0 : 0 < sz) (l k : Nat) (hk : l + k ≤ xs.length) : CS sz (rowL sz enc xs) (l * sz) k = VS sz enc ((xs.drop l).take k) := by
  have hlen : ((xs.drop l).take k).length = k := by simp; omega
  unfold CS VS
  rw [hlen]
  congr 1
  funext j
  unfold cutM
  by_cases hj : j < k * sz
  · rw [if_pos hj, rowL_split h0, rowL_split h0, Nat.mul_comm l sz, Nat.mul_add_div h0, Nat.mul_add_mod]
    have hlt : j / sz < k := Nat.div_lt_of_lt_mul (by rw [Nat.mul_comm]; exact hj)
    rw [List.getElem?_take, if_pos hlt, List.getElem?_drop]
  · rw [if_neg hj, rowL_out h0 (by rw [hlen]; omega)]

theorem CS_all (h0 : 0 < sz) : CS sz (rowL sz enc xs) 0 xs.length = VS sz enc xs := by
  have := CS_rowL (xs := xs) (enc := enc) h0 0 xs.length (by omega)
  simpa using this

theorem CS_all' (h0 : 0 < sz) {n : Nat} (hn : n = xs.length) : CS sz (rowL sz enc xs) 0 n = VS sz enc xs := by
  subst hn
  exact CS_all h0

theorem CS_one (l k : Nat) (hk : l + k ≤ xs.length) : CS 1 (rowL 1 enc xs) l k = VS 1 enc ((xs.drop l).take k) := by
  have := CS_rowL (xs := xs) (enc := enc) (sz := 1) (by omega) l k hk
  simpa using this

theorem appC_rowL (h0 : 0 < sz) {m k : Nat} (hm : m = xs.length * sz) (hk : k = ys.length * sz) {pc : Nat → AV} (hpc : ∀ j, j < k → pc j = rowL sz enc ys j) :
    appC (rowL sz enc xs) m pc k = rowL sz enc (xs ++ ys) := by
  funext j
  unfold appC
  subst hm hk
  by_cases h1 : j < xs.length * sz
  · rw [if_pos h1, rowL_split h0, rowL_split h0]
    have hlt : j / sz < xs.length := Nat.div_lt_of_lt_mul (by rw [Nat.mul_comm]; exact h1)
    rw [List.getElem?_append_left hlt]
  · rw [if_neg h1]
    by_cases h2 : j < xs.length * sz + ys.length * sz
    · rw [if_pos h2, hpc _ (by omega), rowL_split h0, rowL_split h0]
      obtain ⟨q, rfl⟩ : ∃ q, j = xs.length * sz + q := ⟨j - xs.length * sz, by omega⟩
      have e1 : (xs.length * sz + q) / sz = xs.length + q / sz := by rw [Nat.mul_comm, Nat.mul_add_div h0]
      have e2 : (xs.length * sz + q) % sz = q % sz := by rw [Nat.mul_comm, Nat.mul_add_mod]
      rw [e1, e2, List.getElem?_append_right (Nat.le_add_right _ _)]
      have e3 : xs.length * sz + q - xs.length * sz = q := Nat.add_sub_cancel_left ..
      have e4 : xs.length + q / sz - xs.length = q / sz := Nat.add_sub_cancel_left ..
      rw [e3, e4]
    · rw [if_neg h2, rowL_out h0 (by rw [List.length_append, Nat.add_mul]; omega)]

theorem putC_rowL (h0 : 0 < sz) {j o : Nat} (hj : j < xs.length) (ho : o = j * sz) {y : α} {pc : Nat → AV} (hpc : ∀ d, d < sz → pc d = enc y d) : putC (rowL sz enc xs) o sz pc = rowL sz enc (xs.set j y) := by
  funext i
  subst ho
  unfold putC
  rw [rowL_split h0 (xs := xs.set j y)]
  by_cases h1 : j * sz ≤ i ∧ i < j * sz + sz
  · rw [if_pos h1]
    obtain ⟨d, rfl⟩ : ∃ d, i = j * sz + d := ⟨i - j * sz, by omega⟩
    have hd : d < sz := by omega
    have e1 : (j * sz + d) / sz = j := by rw [Nat.mul_comm, Nat.mul_add_div h0, Nat.div_eq_of_lt hd, Nat.add_zero]
    have e2 : (j * sz + d) % sz = d := by rw [Nat.mul_comm, Nat.mul_add_mod, Nat.mod_eq_of_lt hd]
    rw [e1, e2, List.getElem?_set_self hj, hpc _ (by omega)]
    simp
  · rw [if_neg h1, rowL_split h0]
    have : i / sz ≠ j := by
      intro e
      subst e
      have h2 := Nat.div_mul_le_self i sz
      have h3 := Nat.lt_div_mul_add h0 (a := i)
      omega
    rw [List.getElem?_set_ne (fun e => this e.symm)]

theorem putC_one {j : Nat} (hj : j < xs.length) {y : α} {pc : Nat → AV} (hpc : pc 0 = enc y 0) : putC (rowL 1 enc xs) j 1 pc = rowL 1 enc (xs.set j y) :=
  putC_rowL (by omega) hj (by omega) (fun d hd => by obtain rfl : d = 0 := by omega
                                                     exact hpc)

theorem rep_rowL {i : TI} {n : Nat} (hs : i.sz = sz) (h0 : 0 < sz) {z : α} (hz : ∀ d, d < sz → i.z d = enc z d) : rep i n = rowL sz enc (List.replicate n z) := by
  funext j
  subst hs
  rw [rowL_split h0]
  unfold rep catC
  simp only [List.getElem?_replicate]
  by_cases hj : j / i.sz < n
  · simp only [hj, if_true]
    exact hz _ (Nat.mod_lt _ h0)
  · simp only [hj, if_false]

theorem cutM_ofL {l : List AV} {o m : Nat} : cutM (ofL l) o m = ofL ((l.drop o).take m) := by
  funext j
  unfold cutM ofL
  simp only [List.getD_eq_getElem?_getD, List.getElem?_take, List.getElem?_drop]
  by_cases hj : j < m
  · rw [if_pos hj, if_pos hj]
  · rw [if_neg hj, if_neg hj]; rfl

theorem putC_ofL {l : List AV} {o : Nat} {pc : Nat → AV} (h : o < l.length) : putC (ofL l) o 1 pc = ofL (l.set o (pc 0)) := by
  funext j
  unfold putC ofL
  simp only [List.getD_eq_getElem?_getD]
  by_cases hj : o ≤ j ∧ j < o + 1
  · obtain rfl : j = o := by omega
    rw [if_pos hj, List.getElem?_set_self h]
    simp
  · rw [if_neg hj, List.getElem?_set_ne (by omega)]

theorem rowL_val (h0 : 0 < sz) (he : ∀ x d, d < sz → (enc x d).val) (j : Nat) : (rowL sz enc xs j).val := by
  rw [rowL_split h0]
  cases xs[j / sz]? with
  | none => trivial
  | some x => exact he x _ (Nat.mod_lt _ h0)

/-- Values that lie nowhere among own rows. -/
def EncV (sz : Nat) (enc : α → Nat → AV) : Prop := 0 < sz ∧ ∀ x d, d < sz → (enc x d).val

theorem VS_val (he : EncV sz enc) : (VS sz enc xs).val := fun j _ => rowL_val he.1 he.2 j
theorem VS_nob (he : EncV sz enc) {b : Nat} : nob b (VS sz enc xs) := (VS_val he).nob
theorem VS_fixOK (he : EncV sz enc) {b : Nat} : fixOK b (VS sz enc xs) := (VS_val he).nob
theorem rowL_nob (he : EncV sz enc) {b : Nat} (i : Nat) : nob b (rowL sz enc xs i) := (rowL_val he.1 he.2 i).nob
theorem rowL_vale (he : EncV sz enc) (i : Nat) : (rowL sz enc xs i).val := rowL_val he.1 he.2 i
theorem encI_ok {k : IntKind} : EncV 1 (encI k) := ⟨by omega, fun _ _ _ => trivial⟩
theorem encS_ok : EncV 1 encS := ⟨by omega, fun _ _ _ => trivial⟩
theorem encB_ok : EncV 1 encB := ⟨by omega, fun _ _ _ => trivial⟩
theorem encV_ok (he : EncV sz enc) : EncV 1 (encV sz enc) := ⟨by omega, fun _ _ _ => VS_val he⟩

/-- Structs of so many cells. -/
def encR (f : α → List AV) (x : α) : Nat → AV := ofL (f x)
theorem encR_tight {f : α → List AV} (h : ∀ x, (f x).length = sz) : Tight sz (encR f) := fun x j hj => by
  simp [encR, ofL, List.getD_eq_getElem?_getD, h x, hj]
end

theorem encR_all {α : Type} {sz : Nat} {f : α → List AV} {p : AV → Prop} (hl : ∀ x, (f x).length = sz) (hp : ∀ x, ∀ v ∈ f x, p v) : ∀ x d, d < sz → p (encR f x d) := fun x d hd => by
  have hd' : d < (f x).length := by rw [hl x]; exact hd
  simp only [encR, ofL, List.getD_eq_getElem?_getD, List.getElem?_eq_getElem hd', Option.getD_some]
  exact hp x _ (List.getElem_mem hd')

/-! ### what the evaluators make of lists -/
section
variable {α : Type} {sz : Nat} {enc : α → Nat → AV} {xs : List α} {C : Cx} {h : Hp} {env : Env} {t e : TypeId} {ei : TI}

theorem lenA_VS : lenA h (VS sz enc xs) = (.int .i64 xs.length, True) := rfl
theorem lenU_VS : lenU (some (.slc e)) (VS sz enc xs) = True := rfl
theorem iaB_VS {k : IntKind} {i : Int} : iaB h ei (VS sz enc xs) (.int k i) = (.vref (rowL sz enc xs) (xs.length * sz) (i.toNat * ei.sz), (0 ≤ i ∧ i < xs.length) ∧ 0 < xs.length * sz) := rfl
theorem sliB_VS {lo hi : Option X} : sliB C h env (some (.slc e)) (VS sz enc xs) lo hi = match C.ty e, boundA env lo 0, boundA env hi xs.length with
    | some ei, some (g1, l), some (g2, k) => (CS ei.sz (rowL sz enc xs) (l.toNat * ei.sz) (k - l).toNat, (g1 = true ∧ g2 = true) ∧ (0 ≤ l ∧ l ≤ k ∧ k ≤ xs.length) ∧ xs.length * ei.sz ≤ xs.length * sz)
    | _, _, _ => (.junk, False) := rfl
theorem sz0B_VS : sz0B C h (some (.slc e)) (VS sz enc xs) = (.z0, (C.ty e).isSome = true) := rfl
theorem eqB_VS {neg : Bool} : eqB C h neg (some (.slc e)) (VS sz enc xs) .nils = (.bool (ng neg false), 0 < xs.length) := rfl
theorem binAll_VS {op : BinOp} {v : AV} : binAll C h op t (VS sz enc xs) v = match op with | .eql => eqA C h t false (VS sz enc xs) v | .neq => eqA C h t true (VS sz enc xs) v | _ => (.junk, False) := rfl
theorem srcA_VS : srcA h sz (VS sz enc xs) = some (xs.length, rowL sz enc xs, xs.length * sz ≤ xs.length * sz) := rfl
theorem cellsA_VS : cellsA h (VS sz enc xs) = some (1, (fun _ => VS sz enc xs), True) := rfl
theorem oneA_VS : oneA h (VS sz enc xs) = True := rfl
theorem lookV_VS : lookV h (VS sz enc xs) = (VS sz enc xs, (VS sz enc xs).val) := rfl
theorem fixV_VS {b : Nat} {r : Row} : fixV b r (VS sz enc xs) = VS sz enc xs := rfl
end

/-! ### one value for another -/
/-- What tells 'u' tells 'v', too. -/
def Wk (u v : AV) : Prop := ∀ μ w x, VR μ w u x → VR μ w v x
theorem Wk.refl (u : AV) : Wk u u := fun _ _ _ h => h
theorem Wk.nil {α : Type} {sz : Nat} {enc : α → Nat → AV} : Wk .nils (VS sz enc ([] : List α)) := fun _ _ _ h => .inl ⟨rfl, by simp, h⟩
theorem Wk.z0 {α : Type} {sz : Nat} {enc : α → Nat → AV} : Wk .z0 (VS sz enc ([] : List α)) := fun μ w x h => by
  obtain ⟨a, rfl⟩ := h
  cases a with
  | none => exact .inl ⟨rfl, by simp, rfl⟩
  | some a => exact .inr ⟨a, 0, rfl, Nat.le_refl _, fun hm => by simp at hm, fun i hi => by simp at hi⟩
theorem Wk.nilz : Wk .nils .z0 := fun _ _ _ h => ⟨none, h⟩

def cvE (t : Nat) (v : AV) : Env → Env
  | [] => []
  | (t', g, u) :: e => if t' = t then (t', g, v) :: e else (t', g, u) :: cvE t v e

section
variable {P : Program} {nt : Nat} {Q : Post} {env : Env} {h : Hp}

theorem cvE_lk {t : Nat} {v u : AV} {g : Bool} : ∀ {e : Env}, lk e t = some (g, u) → ∀ {t' : Nat} {g' : Bool} {v' : AV}, lk (cvE t v e) t' = some (g', v') → (t' = t ∧ g' = g ∧ v' = v) ∨ (t' ≠ t ∧ lk e t' = some (g', v'))
  | [], hl, _, _, _, _ => by simp [lk] at hl
  | (x, gx, ux) :: e, hl, t', g', v', hh => by
    simp only [lk] at hl
    simp only [cvE] at hh
    by_cases hx : x = t
    · subst hx
      rw [if_pos rfl] at hl hh
      simp only [Option.some.injEq, Prod.mk.injEq] at hl
      obtain ⟨rfl, rfl⟩ := hl
      simp only [lk] at hh ⊢
      by_cases ht : x = t'
      · rw [if_pos ht] at hh
        simp only [Option.some.injEq, Prod.mk.injEq] at hh
        exact .inl ⟨ht.symm, hh.1.symm, hh.2.symm⟩
      · rw [if_neg ht] at hh
        exact .inr ⟨fun e => ht e.symm, by rw [if_neg ht]; exact hh⟩
    · rw [if_neg hx] at hl hh
      simp only [lk] at hh ⊢
      by_cases ht : x = t'
      · rw [if_pos ht] at hh
        exact .inr ⟨fun e => hx (ht.trans e), by rw [if_pos ht]; exact hh⟩
      · rw [if_neg ht] at hh
        rcases cvE_lk hl hh with h1 | h1
        · exact .inl h1
        · exact .inr ⟨h1.1, by rw [if_neg ht]; exact h1.2⟩

/-- A slot's value is told otherwise. -/
theorem TK.cv {c : KC} (t : Nat) {g : Bool} {u : AV} (v : AV) (hl : lk env t = some (g, u)) (hw : Wk u v) (k : TK P nt c Q (cvE t v env) h) : TK P nt c Q env h :=
  fun c' hc μ a w s => k c' hc μ a w ⟨s.sim, fun t' g' v' e => by
    rcases cvE_lk hl e with ⟨rfl, rfl, rfl⟩ | ⟨_, h2⟩
    · exact ⟨fun hg => hw _ _ _ ((s.env t' g' u hl).1 hg), (s.env t' g' u hl).2⟩
    · exact s.env t' g' v' h2, s.size, s.defers⟩

theorem TL.cv {ks : List KO} {K : Env → Hp → Prop} (t : Nat) {g : Bool} {u : AV} (v : AV) (hl : lk env t = some (g, u)) (hw : Wk u v) (k : TL P nt ks K (cvE t v env) h) : TL P nt ks K env h :=
  fun os ho hz μ a w s => k os ho hz μ a w ⟨s.sim, fun t' g' v' e => by
    rcases cvE_lk hl e with ⟨rfl, rfl, rfl⟩ | ⟨_, h2⟩
    · exact ⟨fun hg => hw _ _ _ ((s.env t' g' u hl).1 hg), (s.env t' g' u hl).2⟩
    · exact s.env t' g' v' h2, s.size, s.defers⟩
end

/-! ### loops over kept slots -/
section
variable {P : Program} {nt : Nat} {Q : Post} {env : Env} {h : Hp}

theorem TK.loopE {b : KC} (ts : List Nat) {σ : Type} (I : σ → Env → Hp → Prop) (m : σ → Nat) (s0 : σ) (h0 : I s0 (keepE ts env) h)
    (round : ∀ s env1 h, I s env1 h → TK P nt b (thenQ (fun env' h' => ∃ s', I s' (keepE ts env') h' ∧ m s' < m s) Q) env1 h) : TK P nt (.loop b) Q env h :=
  TK.loop (fun s env h => I s (keepE ts env) h) m s0 h0 fun s _ h hI => TK.keep ts (round s _ h hI)
end

section
variable {C : Cx} {nt : Nat} {env : Env} {h : Hp} {K : Env → Hp → Prop}

/-- append of a list onto an own row of a list. -/
theorem TL.appL {α : Type} {sz : Nat} {enc : α → Nat → AV} (xs ys : List α) {k : KO} {ks : List KO} {t t' e : TypeId} {ei : TI} {x y : X} {b len n m : Nat} {pc : Nat → AV} {S : Prop} {r : Row}
    (hi : k.i = .bi .append [t, t'] [x, y]) (hg : k.g = none) (hd : ∀ d, k.d = some d → d < nt) (ht : C.kd t = some (.slc e)) (ht' : bytesOK C t') (he : C.ty e = some ei) (hes : ei.sz = sz)
    (hx : ev env x = (true, .rs b 0 len m sz)) (hr : h.get b = some r) (hr' : r = ⟨e, m, rowL sz enc xs⟩) (hlen : len = xs.length) (hm : m = xs.length * sz)
    (hy : (ev env y).1 = true) (hsrc : srcA h sz (ev env y).2 = some (n, pc, S)) (hS : S) (hn : n = ys.length) (hpc : ∀ j, j < n * sz → pc j = rowL sz enc ys j)
    (hsz : 0 < sz) (hby : 0 < ei.by') (hlim : (xs.length + ys.length) * ei.by' ≤ 140737488355328) (h1 : ∀ x d, d < sz → oneA h (enc x d))
    (rest : TL C.P nt ks K (putE k.d true (.rs b 0 (xs ++ ys).length ((xs ++ ys).length * sz) sz) env) (h.upd b ⟨e, (xs ++ ys).length * sz, rowL sz enc (xs ++ ys)⟩)) : TL C.P nt (k :: ks) K env h := by
  subst hes hr' hlen hm hn
  have happ := appC_rowL (enc := enc) (xs := xs) (ys := ys) hsz rfl rfl hpc
  refine TL.app (n := ys.length) (pc := pc) (S := S) hi hg hd ht ht' he hx hr rfl rfl hy hsrc hS hsz hby hlim (fun j hj => ?_) ?_
  · rw [hpc j hj, rowL_split hsz]
    have : j / ei.sz < ys.length := Nat.div_lt_of_lt_mul (by rw [Nat.mul_comm]; exact hj)
    rw [List.getElem?_eq_getElem this]
    exact h1 _ _ (Nat.mod_lt _ hsz)
  · have hl : (xs ++ ys).length = xs.length + ys.length := List.length_append
    simp only [happ]
    rw [hl, Nat.add_mul] at rest
    exact rest
end
end Go.AM
