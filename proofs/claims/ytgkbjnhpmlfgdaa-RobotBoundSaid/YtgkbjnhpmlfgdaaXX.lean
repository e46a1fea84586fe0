import Derived.Test.YtgkbjnhpmlfgdaaXZ
/- Lists of lists whose inner lists are turned through other names: the outer row tells places, and behind all other rows lie the inner lists, place by place. -/
namespace Go.AX
open Go.AM Go.RowKit

section
variable {α : Type} [Enc α]
/-- The inner lists' rows. -/
def zp (e : TypeId) (ns : List Nat) (pl : List (List α)) : Hp := List.zipWith (fun b xs => (b, RL e xs)) ns pl
/-- What tells of the inner list at a place. -/
def pcell (ns : List Nat) (pl : List (List α)) (q : Nat) : AV := OL (ns.getD q 0) (pl.getD q [])
def pcells (ns ix : List Nat) (pl : List (List α)) : List AV := ix.map (pcell ns pl)
def GP (ns ix : List Nat) (pl : List (List α)) : Prop := ns.length = pl.length ∧ ∀ q ∈ ix, q < pl.length
/-- The outer list. -/
def OX (b : Nat) (ix : List Nat) : AV := .rs b 0 ix.length (ix.length * 1) 1

variable {e : TypeId} {ns ix : List Nat} {pl : List (List α)} {q b : Nat} {xs ys : List α} {i : Int}
omit [Enc α] in
theorem GP.lt (h : GP ns ix pl) (hi : getI ix i = some q) : q < pl.length := h.2 q (List.mem_of_getElem? (getI_in hi).2.2)
omit [Enc α] in
theorem GP.nil : GP [] [] ([] : List (List α)) := ⟨rfl, fun q h => by cases h⟩
omit [Enc α] in
theorem GP.put (h : GP ns ix pl) (k : Nat) (hq : q < pl.length) : GP ns (ix.set k q) pl := ⟨h.1, fun x hx => by
  rcases List.mem_or_eq_of_mem_set hx with h1 | h1
  · exact h.2 x h1
  · rw [h1]; exact hq⟩
omit [Enc α] in
theorem GP.turn (h : GP ns ix pl) : GP ns ix (pl.set q ys) := ⟨by rw [List.length_set]; exact h.1, fun x hx => by rw [List.length_set]; exact h.2 x hx⟩
omit [Enc α] in
theorem GP.push (h : GP ns ix pl) : GP (ns ++ [b]) (ix ++ [pl.length]) (pl ++ [xs]) := ⟨by simp [h.1], fun x hx => by
  rw [List.length_append]
  rcases List.mem_append.1 hx with h1 | h1
  · have := h.2 x h1; omega
  · rw [List.mem_singleton.1 h1]; simp⟩
omit [Enc α] in
theorem lt_set {k : Nat} (h : k < pl.length) : k < (pl.set q ys).length := by rw [List.length_set]; exact h
theorem zp_at (h : ns.length = pl.length) (hq : q < pl.length) : (zp e ns pl)[q]? = some (ns.getD q 0, RL e (pl.getD q [])) := by
  unfold zp
  rw [List.getElem?_zipWith, List.getElem?_eq_getElem (by omega : q < ns.length), List.getElem?_eq_getElem hq]
  simp [List.getD_eq_getElem?_getD, hq, (by omega : q < ns.length)]
theorem zp_set (h : ns.length = pl.length) (hq : q < pl.length) : (zp e ns pl).set q (ns.getD q 0, RL e ys) = zp e ns (pl.set q ys) := by
  apply List.ext_getElem?
  intro k
  unfold zp
  rw [List.getElem?_set, List.getElem?_zipWith, List.getElem?_zipWith, List.getElem?_set, List.length_zipWith]
  by_cases hk : q = k
  · subst hk
    rw [if_pos rfl, if_pos (by omega), if_pos rfl, if_pos hq, List.getElem?_eq_getElem (by omega : q < ns.length)]
    simp [List.getD_eq_getElem?_getD, (by omega : q < ns.length)]
  · rw [if_neg hk, if_neg hk]
theorem zp_push (h : ns.length = pl.length) : zp e ns pl ++ [(b, RL e xs)] = zp e (ns ++ [b]) (pl ++ [xs]) := by
  unfold zp
  rw [List.zipWith_append h]; rfl
theorem pcell_turn {k : Nat} (hy : ys.length = (pl.getD q []).length) : pcell ns (pl.set q ys) k = pcell ns pl k := by
  unfold pcell
  refine OL_len ?_
  simp only [List.getD_eq_getElem?_getD, List.getElem?_set] at hy ⊢
  by_cases hk : q = k
  · subst hk
    rw [if_pos rfl]
    by_cases hq : q < pl.length
    · rw [if_pos hq]; simpa using hy
    · rw [if_neg hq, List.getElem?_eq_none (by omega)]
  · rw [if_neg hk]
theorem pcells_turn (hy : ys.length = (pl.getD q []).length) : pcells ns ix (pl.set q ys) = pcells ns ix pl := List.map_congr_left fun _ _ => pcell_turn hy
theorem pcell_push {k : Nat} (h : ns.length = pl.length) (hk : k < pl.length) : pcell (ns ++ [b]) (pl ++ [xs]) k = pcell ns pl k := by
  unfold pcell
  simp only [List.getD_eq_getElem?_getD]
  rw [List.getElem?_append_left (by omega), List.getElem?_append_left hk]
theorem pcells_push (h : GP ns ix pl) : pcells (ns ++ [b]) (ix ++ [pl.length]) (pl ++ [xs]) = pcells ns ix pl ++ [OL b xs] := by
  unfold pcells
  rw [List.map_append, List.map_congr_left (g := pcell ns pl) fun k hk => pcell_push h.1 (h.2 k hk)]
  have : pcell (ns ++ [b]) (pl ++ [xs]) pl.length = OL b xs := by
    unfold pcell
    have e1 : (ns ++ [b]).getD pl.length 0 = b := by rw [← h.1, List.getD_eq_getElem?_getD, List.getElem?_append_right (Nat.le_refl _), Nat.sub_self]; rfl
    have e2 : (pl ++ [xs]).getD pl.length [] = xs := by rw [List.getD_eq_getElem?_getD, List.getElem?_append_right (Nat.le_refl _), Nat.sub_self]; rfl
    rw [e1, e2]
  rw [List.map_singleton, this]
theorem pcells_put {k : Nat} : (pcells ns ix pl).set k (pcell ns pl q) = pcells ns (ix.set k q) pl := by
  unfold pcells
  rw [List.map_set]
theorem pcells_len : (pcells ns ix pl).length = ix.length := by simp [pcells]
theorem OX_len {jx : List Nat} (h : ix.length = jx.length) : OX b ix = OX b jx := by unfold OX; rw [h]
theorem Grid.m {T : Hp} {cs : List AV} {xss : List (List α)} {ty : TypeId} (h : Grid e T cs xss) : xss.length * Enc.sz (List α) = (RV ty cs).m := by
  have := h.len.2
  simp only [RV, Enc.sz]; omega
theorem poolAt (F : Hp) (h : ns.length = pl.length) (hq : q < pl.length) : (F ++ zp e ns pl)[F.length + q]? = some (ns.getD q 0, RL e (pl.getD q [])) := by
  rw [List.getElem?_append_right (by omega), Nat.add_sub_cancel_left]
  exact zp_at h hq
end

section
variable {C : Cx} {P : Program} {nt : Nat} {env : Env} {h : Hp} {K : Env → Hp → Prop} {Q : Post} {gc gx gy : Bool} {t : TypeId} {x y : X} {u : AV} {α : Type} [Enc α] {ns ix : List Nat} {pl : List (List α)} {q b : Nat} {i : Int} {F : Hp} {e' : TypeId}

theorem p_iaP {e : TypeId} {ei : TI} {k : IntKind} (hk : C.kd t = some (.slc e)) (he : C.ty e = some ei) (hs : ei.sz = 1) (hx : ev env x = (gx, OX b ix)) (hy : ev env y = (gy, .int k i))
    (nd : Nd h) {j : Nat} {ty : TypeId} (hj : h[j]? = some (b, RV ty (pcells ns ix pl))) (hi : gc = true → getI ix i = some q) (hg : gc = true → gx = true ∧ gy = true := by first | exact fun _ => ⟨rfl, rfl⟩ | simp_all) : PVok C h env (.ia t x y) gc (.ref b i.toNat ix.length) := by
  refine pvE (S := (gx = true ∧ gy = true) ∧ (0 ≤ i ∧ i < ix.length) ∧ refOK h b (ix.length * 1)) ?_ fun e => ?_
  · simp only [pv, hx, hy, iaA, hk, he]
    show (AV.ref b (0 + i.toNat * ei.sz) (ix.length * 1), (gx = true ∧ gy = true) ∧ (0 ≤ i ∧ i < (ix.length : Int)) ∧ refOK h b (ix.length * 1)) = _
    have e1 : 0 + i.toNat * ei.sz = i.toNat := by rw [hs]; omega
    rw [e1, Nat.mul_one]
  · obtain ⟨h1, h2, _⟩ := getI_in (hi e)
    exact ⟨hg e, ⟨h1, h2⟩, refOK_of nd hj (by rw [Nat.mul_one]; exact pcells_len.symm)⟩
theorem p_ldP {ti : TI} (ht : C.ty t = some ti) (hkn : ti.known = true) (hx : ev env x = (gx, .ref b i.toNat ix.length)) (nd : Nd h) {j : Nat} {ty : TypeId} (hj : h[j]? = some (b, RV ty (pcells ns ix pl))) (hi : gc = true → getI ix i = some q)
    (ha : ti.isAgg = false) (hs : ti.sz = 1) (hg : gc = true → gx = true := by first | exact fun _ => rfl | simp_all) : PVok C h env (.ld t x) gc (pcell ns pl q) := fun ee => by
  have hv : (pcells ns ix pl)[i.toNat]? = some (pcell ns pl q) := by
    unfold pcells
    rw [List.getElem?_map, (getI_in (hi ee)).2.2]; rfl
  exact p_ldV (l := pcells ns ix pl) ht hkn hx nd hj pcells_len.symm hv ha hs hg ee
theorem p_lenP {e : TypeId} (hk : C.kd t = some (.slc e)) (hx : ev env x = (gx, OX b ix)) (nd : Nd h) {j : Nat} {ty : TypeId} (hj : h[j]? = some (b, RV ty (pcells ns ix pl))) (hg : gc = true → gx = true := by first | exact fun _ => rfl | simp_all) :
    PVok C h env (.bi .len [t] [x]) gc (.int .i64 ix.length) := p_lenR hk hx (fun _ => refOK_of nd hj (by rw [Nat.mul_one]; exact pcells_len.symm)) hg
theorem p_iaQ {e : TypeId} {ei : TI} {k : IntKind} (hk : C.kd t = some (.slc e)) (he : C.ty e = some ei) (hs : ei.sz = Enc.sz α) (hx : ev env x = (gx, pcell ns pl q)) (hy : ev env y = (gy, .int k i)) (nd : Nd (F ++ zp e' ns pl)) (hG : GP ns ix pl) (hq : gc = true → q < pl.length)
    {a : α} (hi : gc = true → getI (pl.getD q []) i = some a) (hg : gc = true → gx = true ∧ gy = true := by first | exact fun _ => ⟨rfl, rfl⟩ | simp_all) : PVok C (F ++ zp e' ns pl) env (.ia t x y) gc (OP (ns.getD q 0) (pl.getD q []) i 0) := fun ee =>
  p_iaO hk he hs hx hy nd (poolAt F hG.1 (hq ee)) hi hg ee
theorem p_ldQ {ti : TI} {a : α} (ht : C.ty t = some ti) (hkn : ti.known = true) (hx : ev env x = (gx, OP (ns.getD q 0) (pl.getD q []) i 0)) (nd : Nd (F ++ zp e' ns pl)) (hG : GP ns ix pl) (hq : gc = true → q < pl.length) (hi : gc = true → getI (pl.getD q []) i = some a)
    (ha : ti.isAgg = Enc.agg α) (hs : ti.sz = Enc.sz α) (hg : gc = true → gx = true := by first | exact fun _ => rfl | simp_all) : PVok C (F ++ zp e' ns pl) env (.ld t x) gc (Enc.v a) := fun ee =>
  p_ldO a ht hkn hx nd (poolAt F hG.1 (hq ee)) hi (by simp [List.take_of_length_le, Enc.len]) ha hs hg ee
theorem p_lenQ {e : TypeId} (hk : C.kd t = some (.slc e)) (hx : ev env x = (gx, pcell ns pl q)) (nd : Nd (F ++ zp e' ns pl)) (hG : GP ns ix pl) (hq : gc = true → q < pl.length) (hg : gc = true → gx = true := by first | exact fun _ => rfl | simp_all) :
    PVok C (F ++ zp e' ns pl) env (.bi .len [t] [x]) gc (.int .i64 (pl.getD q []).length) := fun ee =>
  p_lenR hk hx (fun _ => refOK_of nd (poolAt F hG.1 (hq ee)) rfl) hg ee
theorem p_sliQ {e : TypeId} {ei : TI} {lo hi : Option X} {g1 g2 : Bool} {l k : Int} (hk : C.kd t = some (.slc e)) (he : C.ty e = some ei) (hs : ei.sz = Enc.sz α) (hx : ev env x = (gx, pcell ns pl q)) (nd : Nd (F ++ zp e' ns pl)) (hG : GP ns ix pl) (hq : gc = true → q < pl.length)
    (h1 : boundA env lo 0 = some (g1, l)) (h2 : boundA env hi (pl.getD q []).length = some (g2, k)) (hb : gc = true → (0 ≤ l ∧ l ≤ k ∧ k ≤ (pl.getD q []).length) ∧ (l = 0 ∨ l < (pl.getD q []).length))
    (hg : gc = true → gx = true ∧ g1 = true ∧ g2 = true := by first | exact fun _ => ⟨rfl, rfl, rfl⟩ | simp_all) : PVok C (F ++ zp e' ns pl) env (.sli t x lo hi none) gc (OS (ns.getD q 0) (pl.getD q []) l k) := fun ee =>
  p_sliO hk he hs hx nd (poolAt F hG.1 (hq ee)) h1 h2 hb hg ee
theorem Src_Q (nd : Nd (F ++ zp e' ns pl)) (hG : GP ns ix pl) (hq : q < pl.length) : Src (F ++ zp e' ns pl) (pcell ns pl q) (pl.getD q []) := Src_OL nd (poolAt F hG.1 hq)
theorem Src_QS {l k : Int} (nd : Nd (F ++ zp e' ns pl)) (hG : GP ns ix pl) (hq : q < pl.length) (hb : 0 ≤ l ∧ l ≤ k ∧ k ≤ (pl.getD q []).length) : Src (F ++ zp e' ns pl) (OS (ns.getD q 0) (pl.getD q []) l k) (slc (pl.getD q []) l k) := Src_OS nd (poolAt F hG.1 hq) hb

/-- An inner list's element is stored. -/
theorem TL.stQ {a' : α} {lu : List AV} {ti : TI} {ks : List KO} (nd : Nd (F ++ zp e' ns pl)) (hG : GP ns ix pl) (hq : q < pl.length) {j : Nat} {ty : TypeId} (hj : F[j]? = some (b, RV ty (pcells ns ix pl))) (ht : C.ty t = some ti)
    (hx : ev env x = (true, OP (ns.getD q 0) (pl.getD q []) i 0)) {a : α} (hi : getI (pl.getD q []) i = some a) (hy : ev env y = (true, u)) (hc : Cells (F ++ zp e' ns pl) u lu) (hsz : ti.sz = lu.length) (hlu : WkL lu (Enc.cl a'))
    (rest : Nd (F.set j (b, RV ty (pcells ns ix (pl.set q ((pl.getD q []).set i.toNat a')))) ++ zp e' ns (pl.set q ((pl.getD q []).set i.toNat a'))) → TL C.P nt ks K env (F.set j (b, RV ty (pcells ns ix (pl.set q ((pl.getD q []).set i.toNat a')))) ++ zp e' ns (pl.set q ((pl.getD q []).set i.toNat a')))) :
    TL C.P nt (⟨none, none, .st t x y⟩ :: ks) K env (F ++ zp e' ns pl) := by
  obtain ⟨h1, h2, _⟩ := getI_in hi
  refine TL.stW (i := i) (a' := a') nd ht hx (poolAt F hG.1 hq) rfl ⟨h1, h2⟩ hy hc hsz hlu fun nd' => ?_
  have e1 : (F ++ zp e' ns pl).set (F.length + q) (ns.getD q 0, RL e' ((pl.getD q []).set i.toNat a')) = F ++ zp e' ns (pl.set q ((pl.getD q []).set i.toNat a')) := by
    rw [List.set_append_right _ _ (by omega), Nat.add_sub_cancel_left, zp_set hG.1 hq]
  have e2 : F.set j (b, RV ty (pcells ns ix (pl.set q ((pl.getD q []).set i.toNat a')))) = F := by
    rw [pcells_turn (by simp)]
    apply List.ext_getElem?
    intro k
    by_cases hk : j = k
    · subst hk; rw [List.getElem?_set_self (List.getElem?_eq_some_iff.1 hj).1, hj]
    · rw [List.getElem?_set_ne hk]
  rw [e1] at nd' ⊢
  rw [e2] at rest
  exact rest nd'
/-- An inner list is stored by its place. -/
theorem TL.stP {q0 : Nat} {ti : TI} {ks : List KO} (nd : Nd (F ++ zp e' ns pl)) (hG : GP ns ix pl) (hq : q < pl.length) {j : Nat} {ty : TypeId} (hj : F[j]? = some (b, RV ty (pcells ns ix pl))) (ht : C.ty t = some ti)
    (hx : ev env x = (true, .ref b i.toNat ix.length)) (hi : getI ix i = some q0) (hy : ev env y = (true, pcell ns pl q)) (hsz : ti.sz = 1)
    (rest : Nd (F.set j (b, RV ty (pcells ns (ix.set i.toNat q) pl)) ++ zp e' ns pl) → TL C.P nt ks K env (F.set j (b, RV ty (pcells ns (ix.set i.toNat q) pl)) ++ zp e' ns pl)) :
    TL C.P nt (⟨none, none, .st t x y⟩ :: ks) K env (F ++ zp e' ns pl) := by
  obtain ⟨_, h2, _⟩ := getI_in hi
  have hjl : j < F.length := (List.getElem?_eq_some_iff.1 hj).1
  have hj' : (F ++ zp e' ns pl)[j]? = some (b, RV ty (pcells ns ix pl)) := by rw [List.getElem?_append_left hjl]; exact hj
  have hlt : i.toNat < (pcells ns ix pl).length := by rw [pcells_len]; omega
  have hr2 : refOK (F ++ zp e' ns pl) (ns.getD q 0) ((pl.getD q []).length * Enc.sz α) := refOK_of nd (poolAt F hG.1 hq) rfl
  have h1 : oneA (F ++ zp e' ns pl) (pcell ns pl q) := hr2
  refine TL.st (m := 1) (pc := fun _ => pcell ns pl q) (S := refOK (F ++ zp e' ns pl) (ns.getD q 0) ((pl.getD q []).length * Enc.sz α)) (r := RV ty (pcells ns ix pl)) rfl rfl rfl ht (off := i.toNat) (by rw [hx]; simp only [RV, pcells_len]) (nd.get hj') (by rw [hy]) (by rw [hy]; simp only [pcell, OL, cellsA]) hr2 hsz.symm (by simp only [RV]; omega) (allOne_of fun d _ => h1) ?_
  refine TL.setrow (q := { RV ty (pcells ns ix pl) with cells := putC (RV ty (pcells ns ix pl)).cells i.toNat 1 (fun _ => pcell ns pl q) }) (q' := RV ty (pcells ns (ix.set i.toNat q) pl)) nd hj' rfl (by simp [RV, pcells_len]) (fun k hk => ?_) fun nd' => ?_
  · simp only [RV]
    rw [putC_ofL hlt, pcells_put]
  · rw [List.set_append_left _ _ hjl] at nd' ⊢
    exact rest nd'

/-- []T{row}, the row an own one. -/
theorem TL.litP {d : Nat} {e : TypeId} {ei : TI} {ks : List KO} {z : X} {xs : List α} (nd : Nd h) (hk : C.kd t = some (.slc e)) (he : C.ty e = some ei) (hs : ei.sz = 1) (hz : ev env z = (true, OL b xs)) {j : Nat} {ty : TypeId} (hj : h[j]? = some (b, RL ty xs)) (hd : Nat.ble (d + 1) nt = true)
    (rest : TL C.P nt ks K ((d, true, .sl (ofL [OL b xs]) 1 1) :: env) h) : TL C.P nt (⟨some d, none, .bsl t 1 [(0, z)]⟩ :: ks) K env h := by
  have hr : refOK h b (xs.length * Enc.sz α) := refOK_of nd hj rfl
  refine TL.bslv (l := [fun _ => OL b xs]) (S := (0 = 0 ∧ (ev env z).1 = true ∧ refOK h b (xs.length * Enc.sz α) ∧ 1 = ei.sz) ∧ True) (gc := true) rfl rfl (dlt hd) hk he (by rw [hs]; omega) (by simp only [litA, hz, OL, cellsA]) (fun _ => ⟨⟨rfl, by rw [hz], hr, hs.symm⟩, trivial⟩) rfl ?_
  have e1 : catC ei.sz [fun _ => OL b xs] = ofL [OL b xs] := by
    funext j
    rw [hs]
    cases j with
    | zero => rfl
    | succ j => simp [catC, ofL, List.getD_eq_getElem?_getD]
  rw [e1, hs]
  exact rest
/-- An own row becomes an inner list. -/
theorem TL.appP {d b' : Nat} {t' e : TypeId} {ei : TI} {xs : List α} {ks : List KO} (nd : Nd (F ++ zp e' ns pl)) (hk : C.kd t = some (.slc e)) (hk' : bytesOK C t') (he : C.ty e = some ei) (hs : ei.sz = 1) (hx : ev env x = (true, OX b ix))
    {j : Nat} (hj : F[j]? = some (b, RV e (pcells ns ix pl))) {j2 : Nat} (hj2 : F[j2]? = some (b', RL e' xs)) (hne : Nat.beq j j2 = false) (hG : GP ns ix pl) (hy : ev env y = (true, .sl (ofL [OL b' xs]) 1 1)) (hby : 0 < ei.by') (hlim : (ix.length + 1) * ei.by' ≤ 140737488355328) (hd : Nat.ble (d + 1) nt = true)
    (rest : Nd ((F.set j (b, RV e (pcells (ns ++ [b']) (ix ++ [pl.length]) (pl ++ [xs])))).eraseIdx j2 ++ zp e' (ns ++ [b']) (pl ++ [xs])) → TL C.P nt ks K ((d, true, OX b (ix ++ [pl.length])) :: env) ((F.set j (b, RV e (pcells (ns ++ [b']) (ix ++ [pl.length]) (pl ++ [xs])))).eraseIdx j2 ++ zp e' (ns ++ [b']) (pl ++ [xs]))) :
    TL C.P nt (⟨some d, none, .bi .append [t, t'] [x, y]⟩ :: ks) K env (F ++ zp e' ns pl) := by
  have hjl : j < F.length := (List.getElem?_eq_some_iff.1 hj).1
  have hj2l : j2 < F.length := (List.getElem?_eq_some_iff.1 hj2).1
  have hj' : (F ++ zp e' ns pl)[j]? = some (b, RV e (pcells ns ix pl)) := by rw [List.getElem?_append_left hjl]; exact hj
  have hj2' : (F ++ zp e' ns pl)[j2]? = some (b', RL e' xs) := by rw [List.getElem?_append_left hj2l]; exact hj2
  have hjj : j ≠ j2 := fun hh => by rw [hh, show Nat.beq j2 j2 = true from Nat.beq_refl j2] at hne; cases hne
  have hx' : ev env x = (true, .rs b 0 ix.length (RV e (pcells ns ix pl)).m ei.sz) := by rw [hx, hs]; simp only [OX, RV, pcells_len, Nat.mul_one]
  have hr2 : refOK (F ++ zp e' ns pl) b' (xs.length * Enc.sz α) := refOK_of nd hj2' rfl
  refine TL.app (n := 1) (pc := ofL [OL b' xs]) (S := 1 * ei.sz ≤ 1) (r := RV e (pcells ns ix pl)) rfl rfl (dlt hd) hk hk' he hx' (nd.get hj') rfl (by rw [hs]; simp [RV, pcells_len]) (by rw [hy]) (by rw [hy]; simp only [srcA]) (by rw [hs]; omega) (by omega) hby hlim (fun k hk => ?_) ?_
  · rw [hs] at hk
    obtain rfl : k = 0 := by omega
    exact hr2
  · refine TL.setrow (q := ⟨e, (RV e (pcells ns ix pl)).m + 1 * ei.sz, appC (RV e (pcells ns ix pl)).cells (RV e (pcells ns ix pl)).m (ofL [OL b' xs]) (1 * ei.sz)⟩) (q' := RV e (pcells ns ix pl ++ [OL b' xs])) nd hj' rfl (by simp [RV, hs]) (fun i hi => ?_) fun nd1 => ?_
    · simp only [RV, hs] at hi ⊢
      unfold appC
      by_cases h1 : i < (pcells ns ix pl).length
      · rw [if_pos h1]
        simp [ofL, List.getD_eq_getElem?_getD, List.getElem?_append_left h1]
      · have : i = (pcells ns ix pl).length := by omega
        subst this
        rw [if_neg (by omega), if_pos (by omega), Nat.sub_self]
        simp [ofL, List.getD_eq_getElem?_getD]
    · rw [← pcells_push hG, List.set_append_left _ _ hjl] at nd1 ⊢
      have hmem : ∀ p, p ∈ (F.set j (b, RV e (pcells (ns ++ [b']) (ix ++ [pl.length]) (pl ++ [xs])))).eraseIdx j2 ++ zp e' (ns ++ [b']) (pl ++ [xs]) → p ∈ F.set j (b, RV e (pcells (ns ++ [b']) (ix ++ [pl.length]) (pl ++ [xs]))) ++ zp e' ns pl := by
        intro p hp
        rw [← zp_push hG.1] at hp
        rcases List.mem_append.1 hp with h1 | h1
        · exact List.mem_append_left _ (List.mem_of_mem_eraseIdx h1)
        · rcases List.mem_append.1 h1 with h2 | h2
          · exact List.mem_append_right _ h2
          · rw [List.mem_singleton.1 h2]
            refine List.mem_append_left _ (List.mem_of_getElem? (i := j2) ?_)
            rw [List.getElem?_set_ne hjj]
            exact hj2
      have nd3 : Nd ((F.set j (b, RV e (pcells (ns ++ [b']) (ix ++ [pl.length]) (pl ++ [xs])))).eraseIdx j2 ++ zp e' (ns ++ [b']) (pl ++ [xs])) := by
        have hp : ((F.set j (b, RV e (pcells (ns ++ [b']) (ix ++ [pl.length]) (pl ++ [xs])))).eraseIdx j2 ++ zp e' (ns ++ [b']) (pl ++ [xs])).Perm (F.set j (b, RV e (pcells (ns ++ [b']) (ix ++ [pl.length]) (pl ++ [xs]))) ++ zp e' ns pl) := by
          rw [← zp_push hG.1, ← List.append_assoc]
          refine (List.perm_append_singleton _ _).trans ?_
          rw [← List.cons_append]
          refine List.Perm.append_right _ ?_
          have h5 : (F.set j (b, RV e (pcells (ns ++ [b']) (ix ++ [pl.length]) (pl ++ [xs]))))[j2]? = some (b', RL e' xs) := by rw [List.getElem?_set_ne hjj]; exact hj2
          generalize F.set j (b, RV e (pcells (ns ++ [b']) (ix ++ [pl.length]) (pl ++ [xs]))) = G at h5
          clear hmem nd1
          induction G generalizing j2 with
          | nil => simp at h5
          | cons g G ih =>
            cases j2 with
            | zero =>
              simp only [List.getElem?_cons_zero, Option.some.injEq] at h5
              subst h5
              exact List.Perm.refl _
            | succ k =>
              simp only [List.getElem?_cons_succ] at h5
              rw [List.eraseIdx_cons_succ]
              refine (List.Perm.swap _ _ _).trans (List.Perm.cons _ ?_)
              have hall : ∀ (G : Hp) (k : Nat), G[k]? = some (b', RL e' xs) → ((b', RL e' xs) :: G.eraseIdx k).Perm G := by
                intro G
                induction G with
                | nil => intro k hk; simp at hk
                | cons g' G ih =>
                  intro k hk
                  cases k with
                  | zero =>
                    simp only [List.getElem?_cons_zero, Option.some.injEq] at hk
                    subst hk
                    exact List.Perm.refl _
                  | succ k =>
                    simp only [List.getElem?_cons_succ] at hk
                    rw [List.eraseIdx_cons_succ]
                    exact (List.Perm.swap _ _ _).trans (List.Perm.cons _ (ih k hk))
              exact hall G k h5
        unfold Nd at nd1 ⊢
        exact ((hp.map (·.1)).nodup_iff).2 nd1
      refine TL.subH (HSub_perm nd1 hmem) ?_
      have := rest nd3
      have e2 : OX b (ix ++ [pl.length]) = .rs b 0 (ix.length + 1) ((RV e (pcells ns ix pl)).m + 1 * ei.sz) ei.sz := by rw [hs]; simp only [OX, RV, pcells_len, List.length_append, List.length_singleton, Nat.mul_one]
      rw [e2] at this
      exact this

theorem TK.ownP {c : KC} (t : Nat) (ty : TypeId) {v : AV} (nd : Nd h) (hl : lk env t = some (true, v)) (hv : v = .nils ∨ v = .z0)
    (k : ∀ b, Nd ((b, RV ty []) :: h) → TK P nt c Q ((t, true, OX b []) :: env) ((b, RV ty []) :: h)) : TK P nt c Q env h :=
  TK.own t ty 1 (ofL []) hl hv fun b hb => k b (nd.cons _ hb)
theorem TL.ownP {ks : List KO} (t : Nat) (ty : TypeId) {v : AV} (nd : Nd h) (hl : lk env t = some (true, v)) (hv : v = .nils ∨ v = .z0)
    (k : ∀ b, Nd ((b, RV ty []) :: h) → TL P nt ks K ((t, true, OX b []) :: env) ((b, RV ty []) :: h)) : TL P nt ks K env h :=
  TL.own0 t ty 1 (ofL []) hl hv fun b hb => k b (nd.cons _ hb)
end
end Go.AX
