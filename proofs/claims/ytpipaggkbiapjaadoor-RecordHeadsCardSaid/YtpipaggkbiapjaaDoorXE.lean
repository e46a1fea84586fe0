import Derived.Test.YtpipaggkbiapjaaDoorXD
/- Slices that are written out; stores; append; loops; calls; results. -/
namespace Go.AX
open Go.AM

section
variable {C : Cx} {nt : Nat} {env : Env} {h : Hp} {K : Env → Hp → Prop} {gc gx gy gz : Bool} {t : TypeId} {x y z : X} {u u1 u2 : AV}
variable {α β : Type} [Enc α] [Enc β]

/-! ### slices written out -/
/-- The parts that are written are these values. -/
def LitL (env : Env) : Nat → List (Nat × X) → List α → Prop
  | _, [], [] => True
  | i, (k, x) :: r, a :: as => (k = i ∧ ev env x = (true, Enc.v a)) ∧ LitL env (i + 1) r as
  | _, _, _ => False

theorem litA_of : ∀ {ps : List (Nat × X)} {xs : List α} {i : Nat}, LitL env i ps xs → ∃ l S, litA h env (Enc.sz α) i ps = some (l, S) ∧ S ∧ l.length = xs.length ∧ ∀ (k d : Nat), d < Enc.sz α → ∀ pc : Nat → AV, l[k]? = some pc → ∃ a, xs[k]? = some a ∧ pc d = ec a d
  | [], [], _, _ => ⟨[], True, rfl, trivial, rfl, fun k d _ pc hp => by simp at hp⟩
  | (k, x) :: r, a :: as, i, ⟨⟨hk, hx⟩, hr⟩ => by
    obtain ⟨l, S, h1, h2, h3, h4⟩ := litA_of hr
    obtain ⟨pc, S', h5, h6, h7, _⟩ := Cells_v (h := h) a
    refine ⟨pc :: l, (k = i ∧ (ev env x).1 = true ∧ S' ∧ (Enc.cl a).length = Enc.sz α) ∧ S, by simp only [litA, hx, h5, h1], ⟨⟨hk, by rw [hx], h6, Enc.len a⟩, h2⟩, by simp [h3], fun k d hd q hq => ?_⟩
    cases k with
    | zero =>
      simp only [List.getElem?_cons_zero, Option.some.injEq] at hq
      subst hq
      exact ⟨a, rfl, h7 d (by rw [Enc.len a]; exact hd)⟩
    | succ k =>
      simp only [List.getElem?_cons_succ] at hq ⊢
      exact h4 k d hd q hq

theorem VS_congr {γ : Type} {sz : Nat} {e1 : γ → Nat → AV} {l : List γ} {xs : List α} (hs : sz = Enc.sz α) (hl : l.length = xs.length) (he : ∀ (k d : Nat), d < sz → ∀ pc : γ, l[k]? = some pc → ∃ a, xs[k]? = some a ∧ e1 pc d = ec a d) : rowL sz e1 l = rowL (Enc.sz α) ec xs := by
  subst hs
  funext j
  rw [rowL_split Enc.pos, rowL_split Enc.pos]
  cases hq : l[j / Enc.sz α]? with
  | none =>
    have : xs[j / Enc.sz α]? = none := by
      rw [List.getElem?_eq_none_iff] at hq ⊢; omega
    rw [this]
  | some pc =>
    obtain ⟨a, h1, h2⟩ := he _ _ (Nat.mod_lt j Enc.pos) pc hq
    rw [h1]
    exact h2

theorem TL.lit {d n : Nat} {ps : List (Nat × X)} {e : TypeId} {ei : TI} {ks : List KO} (xs : List α) (hk : C.kd t = some (.slc e)) (he : C.ty e = some ei) (hs : ei.sz = Enc.sz α) (hl : LitL env 0 ps xs) (hn : n = xs.length) (hlim : Nat.ble (n * Enc.sz α) 16777216 = true) (hd : Nat.ble (d + 1) nt = true)
    (rest : TL C.P nt ks K ((d, true, L xs) :: env) h) : TL C.P nt (⟨some d, none, .bsl t n ps⟩ :: ks) K env h := by
  obtain ⟨l, S, h1, h2, h3, h4⟩ := litA_of (h := h) hl
  refine TL.bslv (gc := true) rfl rfl (dlt hd) hk he (by rw [hs]; exact Nat.le_of_ble_eq_true hlim) (by rw [hs]; exact h1) (fun _ => h2) (by rw [h3, hn]) ?_
  have : (AV.sl (catC ei.sz l) (n * ei.sz) n) = L xs := by
    unfold L VS
    rw [← hn, hs]
    congr 1
    have := VS_congr (e1 := fun (p : Nat → AV) => p) (l := l) (xs := xs) rfl h3 h4
    rw [← this]
    simp [rowL]
  rw [this]
  exact rest

/-! ### stores -/
def splice (l : List AV) (o : Nat) (lu : List AV) : List AV := l.take o ++ lu ++ l.drop (o + lu.length)
theorem splice_len {l lu : List AV} {o : Nat} (ho : o + lu.length ≤ l.length) : (splice l o lu).length = l.length := by simp [splice]; omega
theorem putC_splice {l lu : List AV} {o : Nat} {pc : Nat → AV} (ho : o + lu.length ≤ l.length) (hpc : ∀ d, d < lu.length → pc d = ofL lu d) {i : Nat} (_ : i < l.length) : putC (ofL l) o lu.length pc i = ofL (splice l o lu) i := by
  unfold putC splice
  simp only [ofL, List.getD_eq_getElem?_getD]
  by_cases h1 : i < o
  · rw [if_neg (by omega), List.append_assoc, List.getElem?_append_left (by simp; omega), List.getElem?_take, if_pos h1]
  · by_cases h2 : i < o + lu.length
    · rw [if_pos (by omega), hpc _ (by omega), List.append_assoc, List.getElem?_append_right (by simp; omega), List.getElem?_append_left (by simp; omega)]
      simp only [ofL, List.getD_eq_getElem?_getD]
      congr 3
      simp; omega
    · rw [if_neg (by omega), List.getElem?_append_right (by simp; omega), List.getElem?_drop]
      congr 2
      simp; omega

theorem TL.setrow {P : Program} {ks : List KO} (nd : Nd h) {j b : Nat} {r q q' : Row} (hj : h[j]? = some (b, r)) (h1 : q'.ty = q.ty) (h2 : q'.m = q.m) (h3 : ∀ i, i < q.m → q'.cells i = q.cells i)
    (k : Nd (h.set j (b, q')) → TL P nt ks K env (h.set j (b, q'))) : TL P nt ks K env (h.upd b q) := by
  obtain ⟨hu, nd'⟩ := nd.upd (r' := q) hj
  obtain ⟨_, nd''⟩ := nd.upd (r' := q') hj
  have hj' : (h.set j (b, q))[j]? = some (b, q) := by rw [List.getElem?_set_self (List.getElem?_eq_some_iff.1 hj).1]
  rw [hu]
  intro os hl hz μ a w s
  refine k nd'' os hl hz μ a w ⟨?_, s.env, s.size, s.defers⟩
  have := Sim.set_congr (r' := q') nd' hj' s.sim h1 h2 h3
  rw [List.set_set] at this
  exact this

theorem allOne_of {pc : Nat → AV} : ∀ {n : Nat}, (∀ d, d < n → oneA h (pc d)) → allOne h pc n
  | 0, _ => trivial
  | n + 1, hh => ⟨allOne_of fun d hd => hh d (by omega), hh n (by omega)⟩

/-- Into a struct that lies alone. -/
theorem TL.stV {b o st : Nat} {l lu : List AV} {ti : TI} {ks : List KO} (nd : Nd h) (ht : C.ty t = some ti) (hx : ev env x = (true, .ref b o st)) {j : Nat} {ty : TypeId} (hj : h[j]? = some (b, RV ty l)) (hst : st = l.length)
    (hy : ev env y = (true, u)) (hc : Cells h u lu) (hsz : ti.sz = lu.length) (ho : Nat.ble (o + lu.length) l.length = true) (l' : List AV) (hl' : splice l o lu = l')
    (rest : Nd (h.set j (b, RV ty l')) → TL C.P nt ks K env (h.set j (b, RV ty l'))) : TL C.P nt (⟨none, none, .st t x y⟩ :: ks) K env h := by
  subst hst hl'
  obtain ⟨pc, S, h1, h2, h3, h4⟩ := hc
  have ho' := Nat.le_of_ble_eq_true ho
  refine TL.st (m := lu.length) (pc := pc) (S := S) (r := RV ty l) rfl rfl rfl ht hx (nd.get hj) (by rw [hy]) (by rw [hy]; exact h1) h2 hsz.symm ho' (allOne_of fun d hd => ?_) ?_
  · rw [h3 d hd]
    simp only [ofL, List.getD_eq_getElem?_getD, List.getElem?_eq_getElem hd, Option.getD_some]
    exact h4 _ (List.getElem_mem hd)
  · refine TL.setrow (q := { RV ty l with cells := putC (RV ty l).cells o lu.length pc }) (q' := RV ty (splice l o lu)) nd hj rfl (by simp [RV, splice_len ho']) (fun i hi => ?_) rest
    exact (putC_splice ho' h3 hi).symm
/-- Into an element of an own list. -/
theorem TL.stL {b o : Nat} {i : Int} {xs : List α} {a a' : α} {lu : List AV} {ti : TI} {ks : List KO} (nd : Nd h) (ht : C.ty t = some ti) (hx : ev env x = (true, OP b xs i o)) {j : Nat} {ty : TypeId} (hj : h[j]? = some (b, RL ty xs))
    (hi : getI xs i = some a) (hy : ev env y = (true, u)) (hc : Cells h u lu) (hsz : ti.sz = lu.length) (ho : Nat.ble (o + lu.length) (Enc.sz α) = true) (ha : splice (Enc.cl a) o lu = Enc.cl a')
    (rest : Nd (h.set j (b, RL ty (xs.set i.toNat a'))) → TL C.P nt ks K env (h.set j (b, RL ty (xs.set i.toNat a')))) : TL C.P nt (⟨none, none, .st t x y⟩ :: ks) K env h := by
  obtain ⟨pc, S, h1, h2, h3, h4⟩ := hc
  have ho' := Nat.le_of_ble_eq_true ho
  obtain ⟨hi0, hi1, hi2⟩ := getI_in hi
  have hfit : (i.toNat + 1) * Enc.sz α ≤ xs.length * Enc.sz α := Nat.mul_le_mul_right _ (by omega)
  rw [Nat.add_mul] at hfit
  refine TL.st (m := lu.length) (pc := pc) (S := S) (r := RL ty xs) rfl rfl rfl ht hx (nd.get hj) (by rw [hy]) (by rw [hy]; exact h1) h2 hsz.symm (by simp only [RL]; omega) (allOne_of fun d hd => ?_) ?_
  · rw [h3 d hd]
    simp only [ofL, List.getD_eq_getElem?_getD, List.getElem?_eq_getElem hd, Option.getD_some]
    exact h4 _ (List.getElem_mem hd)
  · refine TL.setrow (q := { RL ty xs with cells := putC (RL ty xs).cells (i.toNat * Enc.sz α + o) lu.length pc }) (q' := RL ty (xs.set i.toNat a')) nd hj rfl (by simp [RL]) (fun k hk => ?_) rest
    simp only [RL] at hk ⊢
    have hsz0 := Enc.pos (α := α)
    have hq : k / Enc.sz α < xs.length := Nat.div_lt_of_lt_mul (by rw [Nat.mul_comm]; exact hk)
    have hkd : k = k / Enc.sz α * Enc.sz α + k % Enc.sz α := by rw [Nat.mul_comm]; exact (Nat.div_add_mod _ _).symm
    have hm := Nat.mod_lt k hsz0
    rw [rowL_split hsz0]
    by_cases hki : k / Enc.sz α = i.toNat
    · have hkm : k / Enc.sz α * Enc.sz α = i.toNat * Enc.sz α := by rw [hki]
      rw [hki, List.getElem?_set_self (by omega)]
      show ec a' _ = _
      have e1 : ec a' (k % Enc.sz α) = putC (ofL (Enc.cl a)) o lu.length pc (k % Enc.sz α) := by
        rw [putC_splice (by rw [Enc.len a]; exact ho') h3 (by rw [Enc.len a]; exact hm), ha]; rfl
      rw [e1]
      unfold putC
      by_cases hc : o ≤ k % Enc.sz α ∧ k % Enc.sz α < o + lu.length
      · rw [if_pos hc, if_pos (by omega)]
        congr 1; omega
      · rw [if_neg hc, if_neg (by omega), rowL_split hsz0, hki, hi2]; rfl
    · rw [List.getElem?_set_ne (fun e => hki e.symm)]
      unfold putC
      have hno : ¬ (i.toNat * Enc.sz α + o ≤ k ∧ k < i.toNat * Enc.sz α + o + lu.length) := by
        rintro ⟨q1, q2⟩
        apply hki
        rcases Nat.lt_trichotomy (k / Enc.sz α) i.toNat with h5 | h5 | h5
        · have : (k / Enc.sz α + 1) * Enc.sz α ≤ i.toNat * Enc.sz α := Nat.mul_le_mul_right _ (by omega)
          rw [Nat.add_mul] at this
          omega
        · exact h5
        · have : (i.toNat + 1) * Enc.sz α ≤ k / Enc.sz α * Enc.sz α := Nat.mul_le_mul_right _ (by omega)
          rw [Nat.add_mul] at this
          omega
      rw [if_neg hno, rowL_split hsz0]

/-! ### append -/
/-- What is appended: these elements. -/
def Src (h : Hp) (u : AV) (ys : List α) : Prop := ∃ pc S, srcA h (Enc.sz α) u = some (ys.length, pc, S) ∧ S ∧ ∀ j, j < ys.length * Enc.sz α → pc j = rowL (Enc.sz α) ec ys j
theorem Src_L (ys : List α) : Src h (L ys) ys := ⟨_, _, rfl, Nat.le_refl _, fun _ _ => rfl⟩
theorem Src_nil : Src h .nils ([] : List α) := ⟨_, _, rfl, trivial, fun j hj => by simp at hj⟩
theorem Src_OL (nd : Nd h) {j b : Nat} {ty : TypeId} {ys : List α} (hj : h[j]? = some (b, RL ty ys)) : Src h (OL b ys) ys := by
  have hr := nd.get hj
  refine ⟨cutM (rowL (Enc.sz α) ec ys) 0 (ys.length * Enc.sz α), ys.length * Enc.sz α = (RL ty ys).m ∧ Enc.sz α = Enc.sz α, by simp only [srcA, OL, hr]; rfl, ⟨rfl, rfl⟩, fun k hk => ?_⟩
  rw [cutM_at hk, Nat.zero_add]
theorem Src_OS (nd : Nd h) {j b : Nat} {ty : TypeId} {ys : List α} {l k : Int} (hj : h[j]? = some (b, RL ty ys)) (hb : 0 ≤ l ∧ l ≤ k ∧ k ≤ ys.length) : Src h (OS b ys l k) (slc ys l k) := by
  have hr := nd.get hj
  have hlen : (slc ys l k).length = (k - l).toNat := by simp [slc]; omega
  refine ⟨cutM (rowL (Enc.sz α) ec ys) (l.toNat * Enc.sz α) ((k - l).toNat * Enc.sz α), ys.length * Enc.sz α = (RL ty ys).m ∧ Enc.sz α = Enc.sz α, by simp only [srcA, OS, hr, hlen]; rfl, ⟨rfl, rfl⟩, fun q hq => ?_⟩
  have := CS_rowL (sz := Enc.sz α) (enc := ec) (xs := ys) Enc.pos l.toNat (k - l).toNat (by omega)
  unfold CS VS at this
  injection this with h1 h2 h3
  rw [h1]; rfl
theorem Src_str (s : Str) : Src h (.str s.ba) s.l := by
  refine ⟨(fun j => .int .u8 (btA s.ba j)), Enc.sz UInt8 = 1, by rw [← ba_size]; rfl, rfl, fun j hj => ?_⟩
  have hj' : j < s.l.length := by simpa [Enc.sz] using hj
  show AV.int .u8 (btA s.ba j) = rowL 1 ec s.l j
  rw [rowL_one hj' 0]
  have : btA s.ba j = ((s.l.getD j 0).toNat : Int) := by
    unfold btA
    have hsz : ((j : Int)).toNat < s.ba.size := by rw [ba_size]; simpa using hj'
    rw [dif_pos hsz]
    have : s.ba[((j : Int)).toNat]'hsz = s.l.getD j 0 := by
      show s.l.toArray[j] = _
      rw [List.getD_eq_getElem?_getD, List.getElem?_eq_getElem hj']; rfl
    rw [this]
  rw [this]; rfl

theorem TL.appO {d b : Nat} {t' e : TypeId} {ei : TI} {xs ys : List α} {ks : List KO} (nd : Nd h) (hk : C.kd t = some (.slc e)) (hk' : bytesOK C t') (he : C.ty e = some ei) (hs : ei.sz = Enc.sz α) (hx : ev env x = (true, OL b xs)) {j : Nat} (hj : h[j]? = some (b, RL e xs))
    (hy : ev env y = (true, u)) (hsrc : Src h u ys) (hby : 0 < ei.by') (hlim : (xs.length + ys.length) * ei.by' ≤ 140737488355328) (hd : Nat.ble (d + 1) nt = true)
    (rest : Nd (h.set j (b, RL e (xs ++ ys))) → TL C.P nt ks K ((d, true, OL b (xs ++ ys)) :: env) (h.set j (b, RL e (xs ++ ys)))) : TL C.P nt (⟨some d, none, .bi .append [t, t'] [x, y]⟩ :: ks) K env h := by
  obtain ⟨pc, S, h1, h2, h3⟩ := hsrc
  refine TL.appL (sz := Enc.sz α) (enc := ec) (r := RL e xs) (S := S) (n := ys.length) (pc := pc) xs ys rfl rfl (dlt hd) hk hk' he hs hx (nd.get hj) rfl rfl rfl (by rw [hy]) (by rw [hy]; exact h1) h2 rfl h3 Enc.pos hby hlim (fun x d hd => ?_) ?_
  · unfold ec ofL
    rw [List.getD_eq_getElem?_getD]
    have : d < (Enc.cl x).length := by rw [Enc.len x]; exact hd
    rw [List.getElem?_eq_getElem this]
    exact oneA_AV1 (Enc.cell x _ (List.getElem_mem this))
  · obtain ⟨hu, nd'⟩ := nd.upd (r' := RL e (xs ++ ys)) hj
    have := rest nd'
    rw [← hu] at this
    exact this

/-- append onto nil, or what has no room: a new own row. -/
theorem TL.appN {d : Nat} {t' e : TypeId} {ei : TI} {ys : List α} {ks : List KO} {v : AV} (nd : Nd h) (hk : C.kd t = some (.slc e)) (hk' : bytesOK C t') (he : C.ty e = some ei) (hs : ei.sz = Enc.sz α) (hx : ev env x = (true, v)) (hv : v = .nils ∨ v = .z0)
    (hy : ev env y = (true, u)) (hsrc : Src h u ys) (hby : 0 < ei.by') (hlim : ys.length * ei.by' ≤ 140737488355328) (hd : Nat.ble (d + 1) nt = true)
    (rest : ∀ b, Nd ((b, RL e ys) :: h) → TL C.P nt ks K ((d, true, OL b ys) :: env) ((b, RL e ys) :: h)) : TL C.P nt (⟨some d, none, .bi .append [t, t'] [x, y]⟩ :: ks) K env h := by
  obtain ⟨pc, S, h1, h2, h3⟩ := hsrc
  refine TL.cons (gc := true) rfl ?_ (fun e => by simp at e)
  intro o μ a w ho hdst s _ N hN
  obtain ⟨ox, oy, hop, hcx, hcy⟩ := two_ops ho
  have vx := ev_ok hcx s.env (by rw [hx])
  rw [hx] at vx
  have vy := ev_ok hcy s.env (by rw [hy])
  rw [hy] at vy
  obtain ⟨μ', s', st, hn, hnx, hf⟩ := s.sim.own ⟨e, 0, rowL (Enc.sz α) ec ([] : List α)⟩ rfl
  have hxx : ∃ q, a.eval ox = .slice q 0 0 := by
    rcases hv with rfl | rfl
    · exact ⟨none, vx⟩
    · exact vx
  have sa : SimA nt μ' env ((μ.nx, ⟨e, 0, rowL (Enc.sz α) ec ([] : List α)⟩) :: h) a w := ⟨s', s.env.mono st, s.size, s.defers⟩
  have vx' : VR μ' w (.rs μ.nx 0 0 0 ei.sz) (a.eval ox) := ⟨by omega, by simp, fun _ => ⟨rfl, rfl, hxx⟩, fun B e => by rw [hf] at e; cases e⟩
  have nd1 : Nd ((μ.nx, RL e ys) :: h) := nd.cons _ hn
  have src' : srcA ((μ.nx, (⟨e, 0, rowL (Enc.sz α) ec ([] : List α)⟩ : Row)) :: h) ei.sz u = some (ys.length, pc, S) := by
    rw [hs]
    have mono : ∀ u', srcA h (Enc.sz α) u' = some (ys.length, pc, S) → srcA ((μ.nx, (⟨e, 0, rowL (Enc.sz α) ec ([] : List α)⟩ : Row)) :: h) (Enc.sz α) u' = some (ys.length, pc, S) := by
      intro u' hu
      cases u' <;> first
        | exact hu
        | (rename_i b' off len st' sz'
           simp only [srcA] at hu ⊢
           have hne : μ.nx ≠ b' := by rintro rfl; rw [hn] at hu; cases hu
           simp only [Hp.get, if_neg hne]
           exact hu)
    exact mono u h1
  refine app_wp rfl sa hop hdst (dlt hd) hk hk' he (ei := ei) (r := ⟨e, 0, rowL (Enc.sz α) ec ([] : List α)⟩) vx' (by simp [Hp.get]) rfl (by simp) (VR.mono st _ _ vy) src' h2 (by rw [hs]; exact Enc.pos) hby (by simpa using hlim) (fun q hq => ?_) N (fun μ2 env2 h2' a2 w2 s2 st2 k2 => hN μ2 env2 h2' a2 w2 s2 (st.trans st2) k2) ?_
  · rw [hs] at hq
    rw [h3 q hq, rowL_split Enc.pos]
    have hq2 : q / Enc.sz α < ys.length := Nat.div_lt_of_lt_mul (by rw [Nat.mul_comm]; exact hq)
    rw [List.getElem?_eq_getElem hq2]
    have : q % Enc.sz α < (Enc.cl ys[q / Enc.sz α]).length := by rw [Enc.len]; exact Nat.mod_lt _ Enc.pos
    show oneA _ (ec _ _)
    unfold ec ofL
    rw [List.getD_eq_getElem?_getD, List.getElem?_eq_getElem this]
    exact oneA_AV1 (Enc.cell _ _ (List.getElem_mem this))
  · have hap := appC_rowL (sz := Enc.sz α) (enc := ec) (xs := ([] : List α)) (ys := ys) (m := 0) (k := ys.length * Enc.sz α) Enc.pos (by simp) rfl h3
    have := rest μ.nx nd1
    simp only [Hp.upd, if_true, Nat.zero_add, putE]
    rw [hs, hap, List.nil_append]
    exact this

/-- Nothing is as good as nothing else. -/
theorem Wk_nil : Wk .nils (L ([] : List α)) := Wk.nil
theorem Wk_z0 : Wk .z0 (L ([] : List α)) := Wk.z0
theorem TL.wk {P : Program} {ks : List KO} {d : Nat} {g : Bool} {v v' : AV} (hw : Wk v v') (k : TL P nt ks K ((d, g, v') :: env) h) : TL P nt ks K ((d, g, v) :: env) h :=
  TL.cv d v' (by simp only [lk, if_true]; rfl) hw (by simpa [cvE] using k)
def WkL : List AV → List AV → Prop
  | [], [] => True
  | v :: r, v' :: r' => Wk v v' ∧ WkL r r'
  | _, _ => False
theorem WkL.at : ∀ {l l' : List AV}, WkL l l' → ∀ i : Nat, Wk (ofL l i) (ofL l' i)
  | [], [], _ => fun i => Wk.refl _
  | v :: r, v' :: r', hh => fun i => by
    cases i with
    | zero => exact hh.1
    | succ i => exact WkL.at hh.2 i
theorem Wk_agg {m : Nat} {l l' : List AV} (hl : WkL l l') : Wk (.agg m (ofL l)) (.agg m (ofL l')) := fun μ w _ ⟨vs, e, hm, hc⟩ =>
  ⟨vs, e, hm, fun i hi => WkL.at hl i μ w _ (hc i hi)⟩
/-- A slot taken for another value. -/
theorem TK.wk {P : Program} {Q : Post} {c : KC} (t : Nat) {v : AV} (v' : AV) {g : Bool} (hl : lk env t = some (g, v)) (hw : Wk v v') (k : TK P nt c Q (cvE t v' env) h) : TK P nt c Q env h := TK.cv t v' hl hw k
end

/-! ### loops -/
def iter {σ ρ : Type} (step : σ → Option (σ ⊕ ρ)) : Nat → σ → Option ρ
  | 0, _ => none
  | n + 1, s => match step s with
    | some (.inl s') => iter step n s'
    | some (.inr r) => some r
    | none => none
@[irreducible] def FUEL : Nat := 4611686018427387904
def run {σ ρ : Type} (step : σ → Option (σ ⊕ ρ)) (s : σ) : Option ρ := iter step FUEL s

/-- These rows are there. -/
def HSub (hc h : Hp) : Prop := ∀ b r, hc.get b = some r → h.get b = some r
theorem HSub.refl (h : Hp) : HSub h h := fun _ _ e => e
theorem HSub.pick {h : Hp} (nd : Nd h) {is : List Nat} (hd : is.Nodup) : HSub (AX.pick h is) h := fun _ _ e => get_pick nd hd e

section
variable {P : Program} {nt : Nat} {Q : Post} {env : Env} {h : Hp}

theorem TK.iter {b : KC} (ts : List Nat) {σ ρ : Type} {step : σ → Option (σ ⊕ ρ)} (I : σ → Env → Hp → Prop) {s0 : σ} {o : ρ} (hrun : run step s0 = some o) (h0 : I s0 (keepE ts env) h)
    (round : ∀ s env h x, I s env h → step s = some x → (∀ r, x = .inr r → r = o) → TK P nt b (thenQ (fun env' h' => ∃ s', x = .inl s' ∧ I s' (keepE ts env') h') Q) env h) : TK P nt (.loop b) Q env h := by
  unfold run at hrun
  generalize FUEL = n at hrun
  refine TK.loop (fun (s : { p : Nat × σ // AX.iter step p.1 p.2 = some o }) env h => I s.1.2 (keepE ts env) h) (fun s => s.1.1) ⟨(n, s0), hrun⟩ h0 ?_
  rintro ⟨⟨n, s⟩, hs⟩ env h hI
  simp only at hs hI
  cases n with
  | zero => simp [AX.iter] at hs
  | succ n =>
    simp only [AX.iter] at hs
    cases hx : step s with
    | none => rw [hx] at hs; cases hs
    | some x =>
      rw [hx] at hs
      refine TK.keep ts ((round s _ h x hI hx fun r hr => ?_).mono ?_)
      · subst hr; simp only [Option.some.injEq] at hs; exact hs
      · intro e env' h' q
        cases e with
        | normal =>
          obtain ⟨s', rfl, hI'⟩ := q
          exact ⟨⟨(n, s'), hs⟩, hI', Nat.lt_succ_self n⟩
        | _ => exact q

/-! ### results -/
theorem ret1 {t : Nat} {v : AV} {R : AV → Prop} (hl : lk env t = some (true, v)) (hR : R v) (hv : v.val) : RetQ [t] (fun r _ => R r ∧ r.val) .ret env h := by
  refine ⟨?_, ?_⟩ <;> simp only [resA, hl, Option.getD_some]
  exact ⟨hR, hv⟩
def lkL (env : Env) : List Nat → List AV → Prop
  | [], [] => True
  | t :: ts, v :: vs => lk env t = some (true, v) ∧ lkL env ts vs
  | _, _ => False
theorem lkL.len : ∀ {ts : List Nat} {vs : List AV}, lkL env ts vs → ts.length = vs.length
  | [], [], _ => rfl
  | _ :: _, _ :: _, hh => by simp [lkL.len hh.2]
theorem lkL.map : ∀ {ts : List Nat} {vs : List AV}, lkL env ts vs → (ts.map fun t => ((lk env t).getD (false, .junk)).2) = vs ∧ ∀ t ∈ ts, ((lk env t).getD (false, .junk)).1 = true
  | [], [], _ => ⟨rfl, fun t ht => by cases ht⟩
  | t :: ts, v :: vs, hh => by
    obtain ⟨h1, h2⟩ := lkL.map hh.2
    refine ⟨by simp only [List.map_cons, hh.1, Option.getD_some, h1], fun t' ht' => ?_⟩
    rcases List.mem_cons.1 ht' with rfl | ht'
    · rw [hh.1]; rfl
    · exact h2 t' ht'
theorem resN {t1 t2 : Nat} {ts : List Nat} {vs : List AV} (hl : lkL env (t1 :: t2 :: ts) vs) : (resA (t1 :: t2 :: ts) env).1 = .tup vs.length (ofL vs) ∧ (resA (t1 :: t2 :: ts) env).2 := by
  obtain ⟨h1, h2⟩ := lkL.map hl
  have h3 := lkL.len hl
  refine ⟨?_, h2⟩
  show AV.tup (t1 :: t2 :: ts).length (ofL ((t1 :: t2 :: ts).map fun t => ((lk env t).getD (false, .junk)).2)) = _
  rw [h1, h3]
theorem res0 : (resA [] env).1 = .tup 0 (ofL []) ∧ (resA [] env).2 := ⟨rfl, fun t ht => by cases ht⟩
theorem tup_val {l : List AV} (hl : ∀ v ∈ l, v.val) : (AV.tup l.length (ofL l)).val := fun i hi => by
  simp only [ofL, List.getD_eq_getElem?_getD, List.getElem?_eq_getElem hi, Option.getD_some]
  exact hl _ (List.getElem_mem hi)
theorem retN {t1 t2 : Nat} {ts : List Nat} {vs : List AV} {R : AV → Prop} (hl : lkL env (t1 :: t2 :: ts) vs) (hR : R (.tup vs.length (ofL vs))) (hv : ∀ v ∈ vs, v.val) : RetQ (t1 :: t2 :: ts) (fun r _ => R r ∧ r.val) .ret env h := by
  obtain ⟨h1, h2⟩ := resN hl
  exact ⟨h2, by rw [h1]; exact hR, by rw [h1]; exact tup_val hv⟩
theorem ret0 {R : AV → Prop} (hR : R (.tup 0 (ofL []))) : RetQ [] (fun r _ => R r ∧ r.val) .ret env h := ⟨res0.2, hR, tup_val (l := []) (fun v hv => by cases hv)⟩
def allVal : List AV → Prop
  | [] => True
  | v :: r => v.val ∧ allVal r
theorem allVal.mem : ∀ {l : List AV}, allVal l → ∀ v ∈ l, v.val
  | _ :: _, hh, v, hv => by
    rcases List.mem_cons.1 hv with rfl | hv
    · exact hh.1
    · exact allVal.mem hh.2 v hv
end
end Go.AX
