import Derived.Test.YtgkbjnhpmlfgdaaXV
/- Lists of lists whose inner lists grow in place: an outer row, and behind all other rows one row for each inner list. -/
namespace Go.AX
open Go.AM Go.RowKit

/-- The inner rows, the outer row's cells, and what they tell. -/
def Grid {α : Type} [Enc α] (e : TypeId) : Hp → List AV → List (List α) → Prop
  | [], [], [] => True
  | (b, r) :: T, c :: cs, xs :: xss => (r = RL e xs ∧ c = OL b xs) ∧ Grid e T cs xss
  | _, _, _ => False

section
variable {α : Type} [Enc α] {e : TypeId}
theorem Grid.len : ∀ {T : Hp} {cs : List AV} {xss : List (List α)}, Grid e T cs xss → T.length = xss.length ∧ cs.length = xss.length
  | [], [], [], _ => ⟨rfl, rfl⟩
  | (b, r) :: T, c :: cs, xs :: xss, h => by
    obtain ⟨h1, h2⟩ := Grid.len h.2
    exact ⟨by simp [h1], by simp [h2]⟩
theorem Grid.at : ∀ {T : Hp} {cs : List AV} {xss : List (List α)} {k : Nat} {a : List α}, Grid e T cs xss → xss[k]? = some a → ∃ nm, T[k]? = some (nm, RL e a) ∧ cs[k]? = some (OL nm a)
  | [], [], [], _, _, _, ha => by simp at ha
  | (b, r) :: T, c :: cs, xs :: xss, 0, a, h, ha => by
    simp only [List.getElem?_cons_zero, Option.some.injEq] at ha
    subst ha
    obtain ⟨⟨rfl, rfl⟩, _⟩ := h
    exact ⟨b, rfl, rfl⟩
  | (b, r) :: T, c :: cs, xs :: xss, k + 1, a, h, ha => by
    simp only [List.getElem?_cons_succ] at ha ⊢
    exact Grid.at h.2 ha
theorem Grid.set : ∀ {T : Hp} {cs : List AV} {xss : List (List α)} {k nm : Nat} {a ys : List α}, Grid e T cs xss → T[k]? = some (nm, RL e a) → Grid e (T.set k (nm, RL e ys)) (cs.set k (OL nm ys)) (xss.set k ys)
  | [], [], [], _, _, _, _, _, ha => by simp at ha
  | (b, r) :: T, c :: cs, xs :: xss, 0, nm, a, ys, h, ha => by
    simp only [List.getElem?_cons_zero, Option.some.injEq, Prod.mk.injEq] at ha
    obtain ⟨rfl, _⟩ := ha
    exact ⟨⟨rfl, rfl⟩, h.2⟩
  | (b, r) :: T, c :: cs, xs :: xss, k + 1, nm, a, ys, h, ha => by
    simp only [List.getElem?_cons_succ] at ha
    exact ⟨h.1, Grid.set h.2 ha⟩
theorem Grid.push : ∀ {T : Hp} {cs : List AV} {xss : List (List α)} {nm : Nat} {ys : List α}, Grid e T cs xss → Grid e (T ++ [(nm, RL e ys)]) (cs ++ [OL nm ys]) (xss ++ [ys])
  | [], [], [], _, _, _ => ⟨⟨rfl, rfl⟩, trivial⟩
  | _ :: _, _ :: _, _ :: _, _, _, h => ⟨h.1, Grid.push h.2⟩
end

theorem drop_get {h : Hp} {n i : Nat} : (h.drop n)[i]? = h[n + i]? := by rw [List.getElem?_drop]

/-- Some of the rows in front, and all behind. -/
theorem pickT_eq {h : Hp} {is : List Nat} {n : Nat} (hn : n ≤ h.length) : pick h is ++ h.drop n = pick h (is ++ (List.range (h.length - n)).map (n + ·)) := by
  have h1 : ∀ (l r : List Nat), pick h (l ++ r) = pick h l ++ pick h r := by
    intro l r
    induction l with
    | nil => rfl
    | cons i l ih =>
      simp only [List.cons_append, pick]
      split <;> simp [ih]
  rw [h1]
  congr 1
  have h2 : ∀ m, n + m ≤ h.length → pick h ((List.range m).map (n + ·)) = (h.drop n).take m := by
    intro m
    induction m with
    | zero => intro _; simp [pick]
    | succ m ih =>
      intro hm
      rw [List.range_succ, List.map_append, h1, ih (by omega)]
      have hlt : n + m < h.length := by omega
      simp only [List.map_cons, List.map_nil, pick, List.getElem?_eq_getElem hlt]
      rw [List.take_add_one, List.getElem?_drop, List.getElem?_eq_getElem hlt]
      rfl
  rw [h2 _ (by omega), List.take_of_length_le (by simp)]
theorem pickT_nodup {is : List Nat} {n m : Nat} (hd : is.Nodup) (hb : ∀ i ∈ is, i < n) : (is ++ (List.range m).map (n + ·)).Nodup := by
  rw [List.nodup_append]
  refine ⟨hd, ?_, fun a ha b hb' => ?_⟩
  · rw [List.nodup_iff_pairwise_ne, List.pairwise_map]
    exact List.Pairwise.imp (fun h => by omega) (List.pairwise_lt_range (n := m))
  · obtain ⟨k, _, rfl⟩ := List.mem_map.1 hb'
    have := hb a ha
    omega
theorem Nd.pickT {h : Hp} (nd : Nd h) (n : Nat) {is : List Nat} (hd : is.Nodup) (hb : ∀ i ∈ is, i < n) (hn : n ≤ h.length) : Nd (AX.pick h is ++ h.drop n) := by
  rw [pickT_eq hn]
  exact nd.pick (pickT_nodup hd hb)
theorem HSub.pickT {h : Hp} (nd : Nd h) (n : Nat) {is : List Nat} (hd : is.Nodup) (hb : ∀ i ∈ is, i < n) (hn : n ≤ h.length) : HSub (AX.pick h is ++ h.drop n) h := by
  rw [pickT_eq hn]
  exact HSub.pick nd (pickT_nodup hd hb)

section
variable {C : Cx} {P : Program} {nt : Nat} {env : Env} {h hS : Hp} {K : Env → Hp → Prop} {Q : Post} {gc gx gy : Bool} {t : TypeId} {x y : X} {u : AV} {α β : Type} [Enc α] [Enc β]

theorem HSub_perm {h h' : Hp} (nd : Nd h) (hp : ∀ p, p ∈ h' → p ∈ h) : HSub h' h := by
  intro b r hb
  have : ∀ {g : Hp}, g.get b = some r → (b, r) ∈ g := by
    intro g
    induction g with
    | nil => intro hh; cases hh
    | cons p g ih =>
      obtain ⟨z, q⟩ := p
      intro hh
      simp only [Hp.get] at hh
      by_cases hz : z = b
      · rw [if_pos hz] at hh
        injection hh with hh
        subst hz; subst hh
        exact List.mem_cons_self
      · rw [if_neg hz] at hh
        exact List.mem_cons_of_mem _ (ih hh)
  obtain ⟨j, hj⟩ := List.getElem?_of_mem (hp _ (this hb))
  exact nd.get hj

/-- Nil cells become own lists of nothing. -/
theorem TL.gridUp {ks : List KO} {b : Nat} {ty e : TypeId} : ∀ (m : Nat) {h T : Hp} {cs : List AV} {xss : List (List α)}, Nd ((b, RV ty (cs ++ List.replicate m .nils)) :: (h ++ T)) → Grid e T cs xss →
    (∀ T' cs', Grid e T' cs' (xss ++ List.replicate m ([] : List α)) → Nd ((b, RV ty cs') :: (h ++ T')) → TL P nt ks K env ((b, RV ty cs') :: (h ++ T'))) →
    TL P nt ks K env ((b, RV ty (cs ++ List.replicate m .nils)) :: (h ++ T))
  | 0, h, T, cs, xss, nd, hG, k => by
    simp only [List.replicate_zero, List.append_nil] at nd k ⊢
    exact k T cs hG nd
  | m + 1, h, T, cs, xss, nd, hG, k => by
    refine TL.ownC (α := α) nd (j := 0) rfl cs.length e (.inl (by simp)) fun b' nd' => ?_
    have e1 : (cs ++ List.replicate (m + 1) AV.nils).set cs.length (OL b' ([] : List α)) = (cs ++ [OL b' ([] : List α)]) ++ List.replicate m .nils := by
      rw [List.replicate_succ, List.set_append_right _ _ (Nat.le_refl _), Nat.sub_self, List.set_cons_zero, List.append_assoc]
      rfl
    simp only [List.set_cons_zero] at nd' ⊢
    rw [e1] at nd' ⊢
    have hsub : HSub ((b, RV ty ((cs ++ [OL b' ([] : List α)]) ++ List.replicate m .nils)) :: (h ++ (T ++ [(b', RL e ([] : List α))]))) ((b', RL e ([] : List α)) :: (b, RV ty ((cs ++ [OL b' ([] : List α)]) ++ List.replicate m .nils)) :: (h ++ T)) :=
      HSub_perm nd' fun p hp => by
        simp only [List.mem_cons, List.mem_append, List.not_mem_nil, or_false] at hp ⊢
        rcases hp with h1 | h1 | h1 | h1
        · exact .inr (.inl h1)
        · exact .inr (.inr (.inl h1))
        · exact .inr (.inr (.inr h1))
        · exact .inl h1
    refine TL.subH hsub ?_
    refine TL.gridUp m ?_ hG.push fun T' cs' hG' nd'' => k T' cs' (by rw [List.append_assoc] at hG'; exact hG') nd''
    unfold Nd at nd' ⊢
    refine (List.Perm.nodup_iff ?_).1 nd'
    simp only [List.map_cons, List.map_append, List.map_nil]
    refine (List.Perm.swap _ _ _).trans (List.Perm.cons _ ?_)
    rw [← List.append_assoc]
    exact (List.perm_append_singleton _ _).symm

/-- make of a list of lists that grow. -/
theorem TL.mkG {d : Nat} {e e' : TypeId} {ei : TI} {q q' : IntKind} {n : Int} {ks : List KO} (nd : Nd h) (hk : C.kd t = some (.slc e)) (he : C.ty e = some ei) (hs : ei.sz = 1) (hz : ei.z 0 = .nils)
    (hx : ev env x = (true, .int q n)) (hy : ev env y = (true, .int q' n)) (hby : 0 < ei.by') (hn : 0 ≤ n ∧ n * ei.by' ≤ 281474976710656) (hd : Nat.ble (d + 1) nt = true)
    (rest : ∀ b T cs, Grid e' T cs (List.replicate n.toNat ([] : List α)) → Nd ((b, RV e cs) :: (h ++ T)) → TL C.P nt ks K ((d, true, OL b (List.replicate n.toNat ([] : List α))) :: env) ((b, RV e cs) :: (h ++ T))) : TL C.P nt (⟨some d, none, .mk t x y⟩ :: ks) K env h := by
  have hn2 : n ≤ n * ei.by' := by
    have h1 : n * 1 ≤ n * (ei.by' : Int) := Int.mul_le_mul_of_nonneg_left (by omega) hn.1
    omega
  refine TL.mk rfl rfl (dlt hd) hk he hx hy hn.1 hn.2 (by omega) fun b hb => ?_
  refine TL.row_congr (r' := RV e (List.replicate n.toNat .nils)) rfl (by simp [RV, hs]) (fun i hi => ?_) ?_
  · have hi' : i < n.toNat := by simpa [hs] using hi
    simp only [RV]
    rw [rep_at (by rw [hs]; simpa using hi'), hs, Nat.mod_one, hz]
    simp [ofL, List.getD_eq_getElem?_getD, hi']
  · have hnd := nd.cons (RV e (List.replicate n.toNat .nils)) hb
    have := TL.gridUp (α := α) (P := C.P) (nt := nt) (env := (d, true, OL b (List.replicate n.toNat ([] : List α))) :: env) (K := K) (ks := ks) (b := b) (ty := e) (e := e') n.toNat (h := h) (T := []) (cs := []) (xss := []) (by simpa using hnd) trivial (fun T' cs' hG nd' => rest b T' cs' (by simpa using hG) nd')
    simp only [List.nil_append, List.append_nil, OL, List.length_replicate] at this
    rw [hs]
    exact this

/-- Where an inner list stands in the outer row. -/
theorem p_iaG {e : TypeId} {ei : TI} {xss : List (List α)} {k : IntKind} {i : Int} {b : Nat} {cs : List AV} {T : Hp} {e' : TypeId} (hG : Grid e' T cs xss) (hk : C.kd t = some (.slc e)) (he : C.ty e = some ei) (hs : ei.sz = 1) (hx : ev env x = (gx, OL b xss)) (hy : ev env y = (gy, .int k i))
    (nd : Nd h) {j : Nat} {ty : TypeId} (hj : h[j]? = some (b, RV ty cs)) {a : List α} (hi : gc = true → getI xss i = some a) (hg : gc = true → gx = true ∧ gy = true := by first | exact fun _ => ⟨rfl, rfl⟩ | simp_all) : PVok C h env (.ia t x y) gc (.ref b i.toNat cs.length) := by
  have hl := hG.len.2
  refine pvE (S := (gx = true ∧ gy = true) ∧ (0 ≤ i ∧ i < xss.length) ∧ refOK h b (xss.length * 1)) ?_ fun e => ?_
  · simp only [pv, hx, hy, iaA, hk, he]
    show (AV.ref b (0 + i.toNat * ei.sz) (xss.length * 1), (gx = true ∧ gy = true) ∧ (0 ≤ i ∧ i < (xss.length : Int)) ∧ refOK h b (xss.length * 1)) = _
    have e1 : 0 + i.toNat * ei.sz = i.toNat := by rw [hs]; omega
    have e2 : xss.length * 1 = cs.length := by omega
    rw [e1, e2]
  · obtain ⟨h1, h2, _⟩ := getI_in (hi e)
    exact ⟨hg e, ⟨h1, h2⟩, refOK_of nd hj (by rw [Nat.mul_one]; exact hl.symm)⟩
theorem p_ldG {e : TypeId} {ti : TI} {i : Int} {b nm : Nat} {cs : List AV} {a : List α} (ht : C.ty t = some ti) (hkn : ti.known = true) (hx : ev env x = (gx, .ref b i.toNat cs.length)) (nd : Nd h) {j : Nat} (hj : h[j]? = some (b, RV e cs)) (hc : cs[i.toNat]? = some (OL nm a))
    (ha : ti.isAgg = false) (hs : ti.sz = 1) (hg : gc = true → gx = true := by first | exact fun _ => rfl | simp_all) : PVok C h env (.ld t x) gc (OL nm a) := p_ldV (l := cs) ht hkn hx nd hj rfl hc ha hs hg
theorem gridAt {T : Hp} {cs : List AV} {xss : List (List α)} {i : Int} {a : List α} {e : TypeId} (hG : Grid e T cs xss) (hi : getI xss i = some a) : ∃ nm, T[i.toNat]? = some (nm, RL e a) ∧ cs[i.toNat]? = some (OL nm a) := hG.at (getI_in hi).2.2
theorem setAt {γ : Type} {l : List γ} {k : Nat} {a b : γ} (h : l[k]? = some a) : (l.set k b)[k]? = some b := List.getElem?_set_self (List.getElem?_eq_some_iff.1 h).1
theorem len_geF (F T : Hp) : F.length ≤ (F ++ T).length := by simp
/-- An inner list grows. -/
theorem TL.appG {d b k : Nat} {t' e : TypeId} {ei : TI} {xs ys : List α} {ks : List KO} {F T : Hp} (nd : Nd (F ++ T)) (hk : C.kd t = some (.slc e)) (hk' : bytesOK C t') (he : C.ty e = some ei) (hs : ei.sz = Enc.sz α) (hx : ev env x = (true, OL b xs)) (hT : T[k]? = some (b, RL e xs))
    (hy : ev env y = (true, u)) (hsrc : Src (F ++ T) u ys) (hby : 0 < ei.by') (hlim : (xs.length + ys.length) * ei.by' ≤ 140737488355328) (hd : Nat.ble (d + 1) nt = true)
    (rest : Nd (F ++ T.set k (b, RL e (xs ++ ys))) → TL C.P nt ks K ((d, true, OL b (xs ++ ys)) :: env) (F ++ T.set k (b, RL e (xs ++ ys)))) : TL C.P nt (⟨some d, none, .bi .append [t, t'] [x, y]⟩ :: ks) K env (F ++ T) := by
  refine TL.appO nd hk hk' he hs hx (j := F.length + k) (by rw [List.getElem?_append_right (by omega), Nat.add_sub_cancel_left]; exact hT) hy hsrc hby hlim hd fun nd' => ?_
  have e1 : (F ++ T).set (F.length + k) (b, RL e (xs ++ ys)) = F ++ T.set k (b, RL e (xs ++ ys)) := by rw [List.set_append_right _ _ (by omega), Nat.add_sub_cancel_left]
  rw [e1] at nd' ⊢
  exact rest nd'
/-- An inner list put back. -/
theorem TL.stG {b nm : Nat} {i : Int} {cs : List AV} {a ys : List α} {ti : TI} {ks : List KO} {F T : Hp} (nd : Nd (F ++ T)) (ht : C.ty t = some ti) (hx : ev env x = (true, .ref b i.toNat cs.length)) {j : Nat} {ty : TypeId} (hj : F[j]? = some (b, RV ty cs))
    (hc : cs[i.toNat]? = some (OL nm a)) (hy : ev env y = (true, OL nm ys)) {k : Nat} {e : TypeId} (hT : T[k]? = some (nm, RL e ys)) (hsz : ti.sz = 1)
    (rest : Nd (F.set j (b, RV ty (cs.set i.toNat (OL nm ys))) ++ T) → TL C.P nt ks K env (F.set j (b, RV ty (cs.set i.toNat (OL nm ys))) ++ T)) : TL C.P nt (⟨none, none, .st t x y⟩ :: ks) K env (F ++ T) := by
  have hlt : i.toNat < cs.length := (List.getElem?_eq_some_iff.1 hc).1
  have hjl : j < F.length := (List.getElem?_eq_some_iff.1 hj).1
  have hj' : (F ++ T)[j]? = some (b, RV ty cs) := by rw [List.getElem?_append_left hjl]; exact hj
  have hj2 : (F ++ T)[F.length + k]? = some (nm, RL e ys) := by rw [List.getElem?_append_right (by omega), Nat.add_sub_cancel_left]; exact hT
  have hr2 : refOK (F ++ T) nm (ys.length * Enc.sz α) := refOK_of nd hj2 rfl
  have h1 : oneA (F ++ T) (OL nm ys) := hr2
  refine TL.st (m := 1) (pc := fun _ => OL nm ys) (S := refOK (F ++ T) nm (ys.length * Enc.sz α)) (r := RV ty cs) rfl rfl rfl ht hx (nd.get hj') (by rw [hy]) (by rw [hy]; simp only [OL, cellsA]) hr2 hsz.symm (by simp only [RV]; omega) (allOne_of fun d _ => h1) ?_
  refine TL.setrow (q := { RV ty cs with cells := putC (RV ty cs).cells i.toNat 1 (fun _ => OL nm ys) }) (q' := RV ty (cs.set i.toNat (OL nm ys))) nd hj' rfl (by simp [RV]) (fun k hk => ?_) fun nd' => ?_
  · simp only [RV]
    rw [putC_ofL hlt]
  · rw [List.set_append_left _ _ hjl] at nd' ⊢
    exact rest nd'

/-- The rows behind are laid down for good: the outer row tells lists by value. -/
theorem layG0 {ty e : TypeId} {b j : Nat} {M : Env → Hp → Prop} (lay : ∀ {h : Hp} (_ : Nd h) {jx bx : Nat} {r : Row}, h[jx]? = some (bx, r) → ∀ {j2 b2 : Nat} {ty : TypeId} {l2 l2' : List AV}, h[j2]? = some (b2, RV ty l2) → Nat.beq jx j2 = false → FixR h bx l2 l2' →
      (Nd ((h.set j2 (b2, RV ty l2')).eraseIdx jx) → M env ((h.set j2 (b2, RV ty l2')).eraseIdx jx)) → M env h) :
    ∀ (F T : Hp) (done cs : List AV) (xss : List (List α)), Nd (F ++ T) → F[j]? = some (b, RV ty (done ++ cs)) → (∀ c ∈ done, c.val) → Grid e T cs xss →
    (Nd (F.set j (b, RV ty (done ++ xss.map L))) → M env (F.set j (b, RV ty (done ++ xss.map L)))) → M env (F ++ T)
  | F, [], done, [], [], nd, hj, _, _, k => by
    rw [List.append_nil] at nd ⊢
    have e1 : F.set j (b, RV ty (done ++ ([] : List (List α)).map L)) = F := by
      apply List.ext_getElem?
      intro i
      by_cases h : j = i
      · subst h; rw [List.getElem?_set_self (List.getElem?_eq_some_iff.1 hj).1, hj]; rfl
      · rw [List.getElem?_set_ne h]
    rw [e1] at k
    exact k nd
  | F, (nm, r) :: T, done, c :: cs, xs :: xss, nd, hj, hd, hG, k => by
    obtain ⟨⟨rfl, rfl⟩, hG⟩ := hG
    have hjl : j < F.length := (List.getElem?_eq_some_iff.1 hj).1
    have hj' : (F ++ (nm, RL e xs) :: T)[j]? = some (b, RV ty (done ++ OL nm xs :: cs)) := by rw [List.getElem?_append_left hjl]; exact hj
    have hx' : (F ++ (nm, RL e xs) :: T)[F.length]? = some (nm, RL e xs) := by rw [List.getElem?_append_right (Nat.le_refl _), Nat.sub_self]; rfl
    have fixR : ∀ {h : Hp} (l : List AV), FixR h nm l l := by
      intro h l
      induction l with
      | nil => trivial
      | cons v l ih => exact ⟨fix_id v, ih⟩
    have fixA : ∀ (d : List AV), FixR (F ++ (nm, RL e xs) :: T) nm (d ++ OL nm xs :: cs) (d ++ L xs :: cs) := by
      intro d
      induction d with
      | nil => exact ⟨fix_OL nd hx', fixR cs⟩
      | cons v d ih => exact ⟨fix_id v, ih⟩
    refine lay nd hx' hj' (by cases hq : Nat.beq F.length j with | false => rfl | true => have := Nat.eq_of_beq_eq_true hq; omega) (fixA done) fun nd' => ?_
    have e1 : ((F ++ (nm, RL e xs) :: T).set j (b, RV ty (done ++ L xs :: cs))).eraseIdx F.length = F.set j (b, RV ty (done ++ L xs :: cs)) ++ T := by
      rw [List.set_append_left _ _ hjl, List.eraseIdx_append_of_length_le (by simp)]
      simp
    rw [e1] at nd' ⊢
    have e2 : done ++ L xs :: cs = (done ++ [L xs]) ++ cs := by simp
    refine layG0 lay (F.set j (b, RV ty (done ++ L xs :: cs))) T (done ++ [L xs]) cs xss nd' (by rw [List.getElem?_set_self hjl, e2]) (fun c hc => ?_) hG fun nd'' => ?_
    · rcases List.mem_append.1 hc with h | h
      · exact hd c h
      · rw [List.mem_singleton.1 h]; exact L_val xs
    · rw [List.set_set] at nd'' ⊢
      have e3 : (done ++ [L xs]) ++ xss.map L = done ++ (xs :: xss).map L := by simp
      rw [e3] at nd'' ⊢
      exact k nd''

theorem RV_L {ty : TypeId} {xss : List (List α)} : (RV ty (xss.map L)).ty = (RL ty xss).ty ∧ (RL ty xss).m = (RV ty (xss.map L)).m ∧ ∀ i, i < (RV ty (xss.map L)).m → (RL ty xss).cells i = (RV ty (xss.map L)).cells i := by
  refine ⟨rfl, by simp [RL, RV, Enc.sz], fun i hi => ?_⟩
  have hi' : i < xss.length := by simpa [RV] using hi
  simp only [RL, RV]
  show rowL 1 ec xss i = _
  rw [rowL_split (by omega), Nat.div_one, List.getElem?_eq_getElem hi', Nat.mod_one]
  simp [ofL, List.getD_eq_getElem?_getD, hi']
  rfl
theorem TL.layG {ks : List KO} {ty e : TypeId} {b : Nat} {cs : List AV} {xss : List (List α)} (F T : Hp) (nd : Nd (F ++ T)) {j : Nat} (hj : F[j]? = some (b, RV ty cs)) (hG : Grid e T cs xss)
    (k : Nd (F.set j (b, RL ty xss)) → TL P nt ks K env (F.set j (b, RL ty xss))) : TL P nt ks K env (F ++ T) := by
  refine layG0 (M := fun env h => TL P nt ks K env h) (fun nd _ _ _ h1 _ _ _ _ _ h2 h3 h4 k => TL.layR [] nd h1 _ h2 h3 h4 trivial k) F T [] cs xss nd hj (fun c hc => by cases hc) hG fun nd' => ?_
  have hj' : (F.set j (b, RV ty ([] ++ xss.map L)))[j]? = some (b, RV ty (xss.map L)) := by rw [List.getElem?_set_self (List.getElem?_eq_some_iff.1 hj).1]; rfl
  obtain ⟨h1, h2, h3⟩ := RV_L (ty := ty) (xss := xss)
  obtain ⟨hu, nd''⟩ := nd'.upd (r' := RL ty xss) hj'
  rw [List.set_set] at nd''
  intro os hl hz μ a w s
  have S := Sim.set_congr (r' := RL ty xss) nd' hj' s.sim h1.symm h2 h3
  rw [List.set_set] at S
  exact k nd'' os hl hz μ a w ⟨S, s.env, s.size, s.defers⟩
theorem TK.layG {c : KC} {ty e : TypeId} {b : Nat} {cs : List AV} {xss : List (List α)} (F T : Hp) (nd : Nd (F ++ T)) {j : Nat} (hj : F[j]? = some (b, RV ty cs)) (hG : Grid e T cs xss)
    (k : Nd (F.set j (b, RL ty xss)) → TK P nt c Q env (F.set j (b, RL ty xss))) : TK P nt c Q env (F ++ T) := by
  refine layG0 (M := fun env h => TK P nt c Q env h) (fun nd _ _ _ h1 _ _ _ _ _ h2 h3 h4 k => TK.layR [] nd h1 _ h2 h3 h4 trivial k) F T [] cs xss nd hj (fun c hc => by cases hc) hG fun nd' => ?_
  have hj' : (F.set j (b, RV ty ([] ++ xss.map L)))[j]? = some (b, RV ty (xss.map L)) := by rw [List.getElem?_set_self (List.getElem?_eq_some_iff.1 hj).1]; rfl
  obtain ⟨h1, h2, h3⟩ := RV_L (ty := ty) (xss := xss)
  obtain ⟨hu, nd''⟩ := nd'.upd (r' := RL ty xss) hj'
  rw [List.set_set] at nd''
  intro c' hc μ a w s
  have S := Sim.set_congr (r' := RL ty xss) nd' hj' s.sim h1.symm h2 h3
  rw [List.set_set] at S
  exact k nd'' c' hc μ a w ⟨S, s.env, s.size, s.defers⟩
end
end Go.AX
