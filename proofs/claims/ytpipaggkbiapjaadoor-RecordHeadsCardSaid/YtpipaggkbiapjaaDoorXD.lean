import Derived.Test.YtpipaggkbiapjaaDoorXC
/- Operations that turn rows; rows laid down for good; loops; what comes back. -/
namespace Go.AX
open Go.AM

section
variable {C : Cx} {nt : Nat} {env : Env} {h : Hp} {K : Env → Hp → Prop} {gc gx gy gz : Bool} {t : TypeId} {x y z : X} {u u1 u2 : AV}
variable {α β : Type} [Enc α] [Enc β]

theorem dlt {d nt : Nat} (hd : Nat.ble (d + 1) nt = true) : ∀ d', (some d : Option Nat) = some d' → d' < nt := fun d' e => by
  injection e with e; subst e; exact Nat.le_of_ble_eq_true hd

/-! ### cells of values -/
/-- The value is these cells. -/
def Cells (h : Hp) (u : AV) (lu : List AV) : Prop := ∃ pc S, cellsA h u = some (lu.length, pc, S) ∧ S ∧ (∀ d, d < lu.length → pc d = ofL lu d) ∧ ∀ w ∈ lu, oneA h w

theorem oneA_AV1 {w : AV} (hw : AV1 w) : oneA h w := by cases w <;> first | trivial | exact hw.elim
theorem Cells_one {w : AV} (hw : AV1 w) : Cells h w [w] := by
  cases w <;> first
    | exact hw.elim
    | exact ⟨_, _, rfl, trivial, fun d hd => by obtain rfl : d = 0 := by simpa using hd
                                                rfl, fun u hu => by simp at hu; subst hu; exact oneA_AV1 hw⟩
theorem Cells_agg {l : List AV} {m : Nat} (hm : m = l.length) (hl : ∀ w ∈ l, oneA h w) : Cells h (.agg m (ofL l)) l := by
  subst hm; exact ⟨_, _, rfl, trivial, fun _ _ => rfl, hl⟩
theorem Cells_v (z : α) : Cells h (Enc.v z) (Enc.cl z) := by
  rw [Enc.veq]
  split
  · exact Cells_agg (Enc.len z).symm fun w hw => oneA_AV1 (Enc.cell z w hw)
  · rename_i ha
    have h1 := Enc.len z
    have h2 := Enc.one (α := α) (by simpa using ha)
    rw [h2] at h1
    match hc : Enc.cl z, h1 with
    | [w], _ => exact Cells_one (Enc.cell z w (by rw [hc]; simp))
theorem Cells_rs {b o n st sz : Nat} (hr : refOK h b st) : Cells h (.rs b o n st sz) [.rs b o n st sz] :=
  ⟨_, _, rfl, hr, fun d hd => by obtain rfl : d = 0 := by simpa using hd
                                 rfl, fun u hu => by simp at hu; subst hu; exact hr⟩
theorem Cells_ref {b o st : Nat} (hr : refOK h b st) : Cells h (.ref b o st) [.ref b o st] :=
  ⟨_, _, rfl, hr, fun d hd => by obtain rfl : d = 0 := by simpa using hd
                                 rfl, fun u hu => by simp at hu; subst hu; exact hr⟩
theorem oneA_ref {b o st : Nat} (hr : refOK h b st) : oneA h (.ref b o st) := hr
theorem oneA_rs {b o n st sz : Nat} (hr : refOK h b st) : oneA h (.rs b o n st sz) := hr

/-! ### one row for another -/
theorem Sim.row_congr {μ : Mu} {w : World} {b : Nat} {r r' : Row} (s : Sim μ ((b, r) :: h) w) (h1 : r'.ty = r.ty) (h2 : r'.m = r.m) (h3 : ∀ i, i < r.m → r'.cells i = r.cells i) : Sim μ ((b, r') :: h) w :=
  ⟨fun x q e => by
    simp only [Hp.get] at e
    by_cases hx : b = x
    · rw [if_pos hx] at e
      injection e with e
      subst e hx
      rcases s.row b r (by simp [Hp.get]) with ⟨hv, hn, h0⟩ | ⟨B, cs, hnv, q1, q2, q3, q4, q5, q6⟩
      · exact .inl ⟨hv, hn, by rw [h2]; exact h0⟩
      · exact .inr ⟨B, cs, hnv, q1, by rw [h2]; exact q2, by rw [h1]; exact q3, q4, by rw [h2]; exact q5, fun i hi => by rw [h3 i (by rw [← h2]; exact hi)]; exact q6 i (by rw [← h2]; exact hi)⟩
    · rw [if_neg hx] at e
      exact s.row x q (by simp only [Hp.get]; rw [if_neg hx]; exact e), s.inj, s.lt, s.vlt, s.noban, s.banlt⟩

theorem TL.row_congr {P : Program} {ks : List KO} {b : Nat} {r r' : Row} (h1 : r'.ty = r.ty) (h2 : r'.m = r.m) (h3 : ∀ i, i < r.m → r'.cells i = r.cells i) (k : TL P nt ks K env ((b, r') :: h)) : TL P nt ks K env ((b, r) :: h) :=
  fun os hl hz μ a w s => k os hl hz μ a w ⟨Sim.row_congr s.sim h1 h2 h3, s.env, s.size, s.defers⟩

theorem Sim.set_congr {μ : Mu} {w : World} {b j : Nat} {r r' : Row} (nd : Nd h) (hj : h[j]? = some (b, r)) (s : Sim μ h w) (h1 : r'.ty = r.ty) (h2 : r'.m = r.m) (h3 : ∀ i, i < r.m → r'.cells i = r.cells i) : Sim μ (h.set j (b, r')) w := by
  have hr := nd.get hj
  obtain ⟨hu, nd'⟩ := nd.upd (r' := r') hj
  rw [← hu]
  refine ⟨fun x q e => ?_, s.inj, s.lt, s.vlt, s.noban, s.banlt⟩
  rw [Hp.get_upd] at e
  by_cases hx : x = b
  · subst hx
    rw [if_pos rfl, hr] at e
    simp only [Option.map_some, Option.some.injEq] at e
    subst e
    rcases s.row x r hr with ⟨hv, hn, h0⟩ | ⟨B, cs, hnv, q1, q2, q3, q4, q5, q6⟩
    · exact .inl ⟨hv, hn, by rw [h2]; exact h0⟩
    · exact .inr ⟨B, cs, hnv, q1, by rw [h2]; exact q2, by rw [h1]; exact q3, q4, by rw [h2]; exact q5, fun i hi => by rw [h3 i (by rw [← h2]; exact hi)]; exact q6 i (by rw [← h2]; exact hi)⟩
  · rw [if_neg hx] at e
    exact s.row x q e

/-! ### new rows -/
theorem TL.boxO {d : Nat} {lu : List AV} {ks : List KO} (nd : Nd h) (hx : ev env x = (true, u)) (hc : Cells h u lu) (hd : Nat.ble (d + 1) nt = true)
    (rest : ∀ b, Nd ((b, RV t lu) :: h) → TL C.P nt ks K ((d, true, .ref b 0 lu.length) :: env) ((b, RV t lu) :: h)) : TL C.P nt (⟨some d, none, .box t x⟩ :: ks) K env h := by
  obtain ⟨pc, S, h1, h2, h3, _⟩ := hc
  refine TL.box (m := lu.length) (pc := pc) (S := S) rfl rfl (dlt hd) (by rw [hx]) (by rw [hx]; exact h1) h2 fun b hb => ?_
  exact TL.row_congr (r' := RV t lu) rfl rfl (fun i hi => (h3 i hi).symm) (rest b (nd.cons _ hb))
theorem TL.alO {d : Nat} {i : TI} {l : List AV} {ks : List KO} (nd : Nd h) (ht : C.ty t = some i) (hz : i.z = ofL l) (hl : i.sz = l.length) (hd : Nat.ble (d + 1) nt = true)
    (rest : ∀ b, Nd ((b, RV t l) :: h) → TL C.P nt ks K ((d, true, .ref b 0 l.length) :: env) ((b, RV t l) :: h)) : TL C.P nt (⟨some d, none, .al t⟩ :: ks) K env h := by
  refine TL.alloc rfl rfl (dlt hd) ht fun b hb => ?_
  rw [hl]
  exact TL.row_congr (r' := RV t l) rfl rfl (fun k _ => by rw [hz]; rfl) (rest b (nd.cons _ hb))
theorem TL.mkO {d : Nat} {e : TypeId} {ei : TI} {q q' : IntKind} {n : Int} {ks : List KO} (nd : Nd h) (z : α) (hk : C.kd t = some (.slc e)) (he : C.ty e = some ei) (hs : ei.sz = Enc.sz α) (hz : ∀ j, j < Enc.sz α → ei.z j = ec z j)
    (hx : ev env x = (true, .int q n)) (hy : ev env y = (true, .int q' n)) (hby : 0 < ei.by') (hn : 0 ≤ n ∧ n * ei.by' ≤ 281474976710656) (hd : Nat.ble (d + 1) nt = true)
    (rest : ∀ b, Nd ((b, RL e (List.replicate n.toNat z)) :: h) → TL C.P nt ks K ((d, true, OL b (List.replicate n.toNat z)) :: env) ((b, RL e (List.replicate n.toNat z)) :: h)) : TL C.P nt (⟨some d, none, .mk t x y⟩ :: ks) K env h := by
  have hn2 : n ≤ n * ei.by' := by
    have h1 : n * 1 ≤ n * (ei.by' : Int) := Int.mul_le_mul_of_nonneg_left (by omega) hn.1
    omega
  refine TL.mk rfl rfl (dlt hd) hk he hx hy hn.1 hn.2 (by omega) fun b hb => ?_
  have hrep : rep ei n.toNat = rowL (Enc.sz α) ec (List.replicate n.toNat z) := rep_rowL hs Enc.pos hz
  have := rest b (nd.cons _ hb)
  simp only [OL, RL, List.length_replicate] at this
  rw [hs, hrep]
  exact this

/-! ### rows laid down for good -/
def FixTo (h : Hp) (b : Nat) (v v' : AV) : Prop := ∀ μ w c, Sim μ h w → VR μ w v c → VR (μ.less b) w v' c
theorem fix_id {b : Nat} (v : AV) : FixTo h b v v := fun _ _ _ _ hv => VR.mono Step.less _ _ hv
theorem fix_OL (nd : Nd h) {j b : Nat} {ty : TypeId} {xs : List α} (hj : h[j]? = some (b, RL ty xs)) : FixTo h b (OL b xs) (L xs) := fun μ w c s hv => by
  have := fixV_ok s (nd.get hj) hv
  have e : fixV b (RL ty xs) (OL b xs) = L xs := by
    simp only [fixV, OL, if_true]
    rw [if_pos ⟨rfl, Enc.pos⟩]
    exact CS_all Enc.pos
  rw [e] at this
  exact this
theorem fix_OS (nd : Nd h) {j b : Nat} {ty : TypeId} {xs : List α} {l k : Int} (hj : h[j]? = some (b, RL ty xs)) (hb : 0 ≤ l ∧ l ≤ k ∧ k ≤ xs.length) : FixTo h b (OS b xs l k) (L (slc xs l k)) := fun μ w c s hv => by
  have := fixV_ok s (nd.get hj) hv
  have e : fixV b (RL ty xs) (OS b xs l k) = L (slc xs l k) := by
    simp only [fixV, OS, if_true]
    rw [if_pos ⟨rfl, Enc.pos⟩]
    exact CS_rowL Enc.pos _ _ (by omega)
  rw [e] at this
  exact this
theorem fix_ref (nd : Nd h) {j b o : Nat} {ty : TypeId} {l : List AV} (hj : h[j]? = some (b, RV ty l)) : FixTo h b (.ref b o l.length) (.vref (ofL l) l.length o) := fun μ w c s hv => by
  have := fixV_ok s (nd.get hj) hv
  have e : fixV b (RV ty l) (.ref b o l.length) = .vref (ofL l) l.length o := by
    simp only [fixV, if_true]
    exact if_pos rfl
  rw [e] at this
  exact this
def FixL (h : Hp) (b : Nat) : List AV → List AV → Prop
  | [], [] => True
  | v :: r, v' :: r' => FixTo h b v v' ∧ FixL h b r r'
  | _, _ => False
theorem FixL.at {b : Nat} : ∀ {l l' : List AV}, FixL h b l l' → l.length = l'.length ∧ ∀ i : Nat, FixTo h b (ofL l i) (ofL l' i)
  | [], [], _ => ⟨rfl, fun i => fix_id _⟩
  | v :: r, v' :: r', hh => by
    obtain ⟨h1, h2⟩ := hh
    obtain ⟨h3, h4⟩ := FixL.at h2
    refine ⟨by simp [h3], fun i => ?_⟩
    cases i with
    | zero => exact h1
    | succ i => exact h4 i
theorem fix_agg {b m : Nat} {l l' : List AV} (hl : FixL h b l l') : FixTo h b (.agg m (ofL l)) (.agg m (ofL l')) := fun μ w _ s ⟨vs, e, hm, hc⟩ =>
  ⟨vs, e, hm, fun i hi => (FixL.at hl).2 i μ w _ s (hc i hi)⟩

theorem get_erase {h : Hp} (nd : Nd h) {j b : Nat} {r : Row} (hj : h[j]? = some (b, r)) {x : Nat} {q : Row} (e : Hp.get (h.eraseIdx j) x = some q) : x ≠ b ∧ h.get x = some q := by
  induction h generalizing j with
  | nil => simp at hj
  | cons p h ih =>
    obtain ⟨x', q'⟩ := p
    simp only [Nd, List.map_cons, List.nodup_cons] at nd
    cases j with
    | zero =>
      simp only [List.getElem?_cons_zero, Option.some.injEq, Prod.mk.injEq] at hj
      obtain ⟨rfl, rfl⟩ := hj
      simp only [List.eraseIdx_cons_zero] at e
      have hx : x ≠ x' := by
        rintro rfl
        have := Hp.get_none.2 nd.1
        rw [this] at e; cases e
      exact ⟨hx, by simp only [Hp.get]; rw [if_neg (fun e => hx e.symm)]; exact e⟩
    | succ j =>
      simp only [List.getElem?_cons_succ] at hj
      simp only [List.eraseIdx_cons_succ, Hp.get] at e
      have hne : x' ≠ b := by
        rintro rfl
        exact nd.1 (List.mem_map.2 ⟨_, List.mem_of_getElem? hj, rfl⟩)
      by_cases hx : x' = x
      · subst hx
        rw [if_pos rfl] at e
        exact ⟨hne, by simp only [Hp.get, if_true]; exact e⟩
      · rw [if_neg hx] at e
        obtain ⟨h1, h2⟩ := ih nd.2 hj e
        exact ⟨h1, by simp only [Hp.get]; rw [if_neg hx]; exact h2⟩

theorem Nd.erase {h : Hp} (nd : Nd h) (j : Nat) : Nd (h.eraseIdx j) := by
  unfold Nd at nd ⊢
  exact nd.sublist ((List.eraseIdx_sublist h j).map _)

theorem Sim.layd {μ : Mu} {w : World} (s : Sim μ h w) (nd : Nd h) {j b : Nat} {r : Row} (hj : h[j]? = some (b, r)) : Sim (μ.less b) (h.eraseIdx j) w :=
  Sim.sub (s.less (b := b)) fun x q e => by
    obtain ⟨h1, h2⟩ := get_erase nd hj e
    rw [Hp.get_del, if_neg h1]
    exact h2

def cvs : List (Nat × AV) → Env → Env
  | [], e => e
  | (t, v) :: r, e => cvE t v (cvs r e)
def SealL (env : Env) (h : Hp) (b : Nat) : List (Nat × AV) → Prop
  | [] => True
  | (t, v') :: r => (∃ v, lk (cvs r env) t = some (true, v) ∧ FixTo h b v v' ∧ lk env t = some (true, v)) ∧ SealL env h b r

theorem seal_env {μ : Mu} {w : World} {a : Act} {b : Nat} (s : Sim μ h w) (he : EnvR μ w env a) : ∀ {l : List (Nat × AV)}, SealL env h b l → EnvR (μ.less b) w (cvs l env) a
  | [], _ => he.mono Step.less
  | (t, v') :: r, hh => by
    obtain ⟨⟨v, h1, h2, h3⟩, h4⟩ := hh
    have ih := seal_env s he h4
    intro t' g v'' e
    rcases cvE_lk h1 e with ⟨rfl, rfl, rfl⟩ | ⟨_, h5⟩
    · exact ⟨fun _ => h2 μ w _ s ((he t' true v h3).1 rfl), fun hh => by cases hh⟩
    · exact ih t' g v'' h5

theorem TK.lay {P : Program} {Q : Post} {c : KC} (l : List (Nat × AV)) (nd : Nd h) {j b : Nat} {r : Row} (hj : h[j]? = some (b, r)) (hl : SealL env h b l)
    (k : Nd (h.eraseIdx j) → TK P nt c Q (cvs l env) (h.eraseIdx j)) : TK P nt c Q env h := by
  intro c' hc μ a w s
  refine wp_mono (k (nd.erase j) c' hc (μ.less b) a w ⟨Sim.layd s.sim nd hj, seal_env s.sim s.env hl, s.size, s.defers⟩) ?_
  rintro e a' w' ⟨μ2, env2, h2, q, s2, st2⟩
  exact ⟨μ2, env2, h2, q, s2, Step.less.trans st2⟩
theorem TL.lay {P : Program} {ks : List KO} (l : List (Nat × AV)) (nd : Nd h) {j b : Nat} {r : Row} (hj : h[j]? = some (b, r)) (hl : SealL env h b l)
    (k : Nd (h.eraseIdx j) → TL P nt ks K (cvs l env) (h.eraseIdx j)) : TL P nt ks K env h := by
  intro os ho hz μ a w s
  refine TL.cons.wpK_mono ?_ _ _ _ (k (nd.erase j) os ho hz (μ.less b) a w ⟨Sim.layd s.sim nd hj, seal_env s.sim s.env hl, s.size, s.defers⟩)
  rintro a' w' ⟨μ2, env2, h2, q, s2, st2⟩
  exact ⟨μ2, env2, h2, q, s2, Step.less.trans st2⟩

/-- A variable that stays as it is laid. -/
theorem TL.boxV {d : Nat} {lu : List AV} {ks : List KO} (nd : Nd h) (hx : ev env x = (true, u)) (hc : Cells h u lu) (hd : Nat.ble (d + 1) nt = true)
    (rest : TL C.P nt ks K ((d, true, .vref (ofL lu) lu.length 0) :: env) h) : TL C.P nt (⟨some d, none, .box t x⟩ :: ks) K env h :=
  TL.boxO nd hx hc hd fun b nd' => TL.lay [(d, .vref (ofL lu) lu.length 0)] nd' (j := 0) rfl ⟨⟨_, by simp only [cvs, lk, if_true], fix_ref nd' (j := 0) rfl, by simp only [lk, if_true]⟩, trivial⟩ (fun _ => by simpa [cvs, cvE] using rest)
theorem TL.mkV {d : Nat} {e : TypeId} {ei : TI} {q q' : IntKind} {n : Int} {ks : List KO} (nd : Nd h) (z : α) (hk : C.kd t = some (.slc e)) (he : C.ty e = some ei) (hs : ei.sz = Enc.sz α) (hz : ∀ j, j < Enc.sz α → ei.z j = ec z j)
    (hx : ev env x = (true, .int q n)) (hy : ev env y = (true, .int q' n)) (hby : 0 < ei.by') (hn : 0 ≤ n ∧ n * ei.by' ≤ 281474976710656) (hd : Nat.ble (d + 1) nt = true)
    (rest : TL C.P nt ks K ((d, true, L (List.replicate n.toNat z)) :: env) h) : TL C.P nt (⟨some d, none, .mk t x y⟩ :: ks) K env h :=
  TL.mkO nd z hk he hs hz hx hy hby hn hd fun b nd' => TL.lay [(d, L (List.replicate n.toNat z))] nd' (j := 0) rfl ⟨⟨_, by simp only [cvs, lk, if_true], fix_OL nd' (j := 0) rfl, by simp only [lk, if_true]⟩, trivial⟩ (fun _ => by simpa [cvs, cvE] using rest)
end
end Go.AX
