import Derived.Test.YtpipaggkbiapjaaDoorXI
/- Own lists that turn in place; objects in rows; calls that turn them. -/
namespace Go.AX
open Go.AM Go.RowKit

section
variable {C : Cx} {P : Program} {nt : Nat} {env : Env} {h hS : Hp} {K : Env → Hp → Prop} {gc gx gy : Bool} {t : TypeId} {x y : X} {u : AV} {α β : Type} [Enc α] [Enc β]

theorem Wk_eq {v v' : AV} (h : v = v') : Wk v v' := by subst h; exact Wk.refl _
theorem OL_len {b : Nat} {xs ys : List α} (h : xs.length = ys.length) : OL b xs = OL b ys := by unfold OL; rw [h]
theorem WkL_refl : ∀ (l : List AV), WkL l l
  | [] => trivial
  | _ :: r => ⟨Wk.refl _, WkL_refl r⟩
theorem WkL.len : ∀ {l l' : List AV}, WkL l l' → l.length = l'.length
  | [], [], _ => rfl
  | _ :: _, _ :: _, hh => by simp [WkL.len hh.2]

/-- A row's cells told otherwise. -/
theorem TL.cvR {ks : List KO} (nd : Nd h) {j b : Nat} {ty : TypeId} {l l' : List AV} (hj : h[j]? = some (b, RV ty l)) (hw : WkL l l') (k : Nd (h.set j (b, RV ty l')) → TL P nt ks K env (h.set j (b, RV ty l'))) : TL P nt ks K env h := by
  obtain ⟨hu, nd'⟩ := nd.upd (r' := RV ty l') hj
  have hr := nd.get hj
  intro os hl hz μ a w s
  refine k nd' os hl hz μ a w ⟨?_, s.env, s.size, s.defers⟩
  rw [← hu]
  refine ⟨fun x q e => ?_, s.sim.inj, s.sim.lt, s.sim.vlt, s.sim.noban, s.sim.banlt⟩
  rw [Hp.get_upd] at e
  by_cases hx : x = b
  · subst hx
    rw [if_pos rfl, hr] at e
    simp only [Option.map_some, Option.some.injEq] at e
    subst e
    have hlen := hw.len
    rcases s.sim.row x _ hr with ⟨hv, hn, h0⟩ | ⟨B, cs, hnv, q1, q2, q3, q4, q5, q6⟩
    · exact .inl ⟨hv, hn, by simp only [RV] at h0 ⊢; omega⟩
    · refine .inr ⟨B, cs, hnv, q1, by simp only [RV] at q2 ⊢; omega, q3, q4, by simp only [RV] at q5 ⊢; omega, fun i hi => ?_⟩
      obtain ⟨u, hu, hv⟩ := q6 i (by simp only [RV] at hi ⊢; omega)
      exact ⟨u, hu, WkL.at hw i _ _ _ hv⟩
  · rw [if_neg hx] at e
    exact s.sim.row x q e

theorem TK.cvR {Q : Post} {c : KC} (nd : Nd h) {j b : Nat} {ty : TypeId} {l l' : List AV} (hj : h[j]? = some (b, RV ty l)) (hw : WkL l l') (k : Nd (h.set j (b, RV ty l')) → TK P nt c Q env (h.set j (b, RV ty l'))) : TK P nt c Q env h := by
  obtain ⟨hu, nd'⟩ := nd.upd (r' := RV ty l') hj
  have hr := nd.get hj
  intro c' hc μ a w s
  refine k nd' c' hc μ a w ⟨?_, s.env, s.size, s.defers⟩
  rw [← hu]
  refine ⟨fun x q e => ?_, s.sim.inj, s.sim.lt, s.sim.vlt, s.sim.noban, s.sim.banlt⟩
  rw [Hp.get_upd] at e
  by_cases hx : x = b
  · subst hx
    rw [if_pos rfl, hr] at e
    simp only [Option.map_some, Option.some.injEq] at e
    subst e
    have hlen := hw.len
    rcases s.sim.row x _ hr with ⟨hv, hn, h0⟩ | ⟨B, cs, hnv, q1, q2, q3, q4, q5, q6⟩
    · exact .inl ⟨hv, hn, by simp only [RV] at h0 ⊢; omega⟩
    · refine .inr ⟨B, cs, hnv, q1, by simp only [RV] at q2 ⊢; omega, q3, q4, by simp only [RV] at q5 ⊢; omega, fun i hi => ?_⟩
      obtain ⟨u, hu, hv⟩ := q6 i (by simp only [RV] at hi ⊢; omega)
      exact ⟨u, hu, WkL.at hw i _ _ _ hv⟩
  · rw [if_neg hx] at e
    exact s.sim.row x q e

theorem TL.setrowW {ks : List KO} (nd : Nd h) {j b : Nat} {r q q' : Row} (hj : h[j]? = some (b, r)) (h1 : q'.ty = q.ty) (h2 : q'.m = q.m) (h3 : ∀ i, i < q.m → Wk (q.cells i) (q'.cells i))
    (k : Nd (h.set j (b, q')) → TL P nt ks K env (h.set j (b, q'))) : TL P nt ks K env (h.upd b q) := by
  obtain ⟨hu, nd'⟩ := nd.upd (r' := q) hj
  obtain ⟨hu2, nd''⟩ := nd.upd (r' := q') hj
  have hr := nd.get hj
  intro os hl hz μ a w s
  refine k nd'' os hl hz μ a w ⟨?_, s.env, s.size, s.defers⟩
  rw [← hu2]
  refine ⟨fun x p e => ?_, s.sim.inj, s.sim.lt, s.sim.vlt, s.sim.noban, s.sim.banlt⟩
  rw [Hp.get_upd] at e
  by_cases hx : x = b
  · subst hx
    rw [if_pos rfl, hr] at e
    simp only [Option.map_some, Option.some.injEq] at e
    subst e
    rcases s.sim.row x q (by rw [Hp.get_upd, if_pos rfl, hr]; rfl) with ⟨hv, hn, h0⟩ | ⟨B, cs, hnv, q1, q2, q3, q4, q5, q6⟩
    · exact .inl ⟨hv, hn, by rw [h2]; exact h0⟩
    · refine .inr ⟨B, cs, hnv, q1, by rw [h2]; exact q2, by rw [h1]; exact q3, q4, by rw [h2]; exact q5, fun i hi => ?_⟩
      obtain ⟨u, hu, hv⟩ := q6 i (by rw [← h2]; exact hi)
      exact ⟨u, hu, h3 i (by rw [← h2]; exact hi) _ _ _ hv⟩
  · rw [if_neg hx] at e
    exact s.sim.row x p (by rw [Hp.get_upd, if_neg hx]; exact e)

/-- A whole element of an own list is stored. -/
theorem TL.stW {b st : Nat} {i : Int} {xs : List α} {a' : α} {lu : List AV} {ti : TI} {ks : List KO} (nd : Nd h) (ht : C.ty t = some ti) (hx : ev env x = (true, .ref b (i.toNat * Enc.sz α + 0) st)) {j : Nat} {ty : TypeId} (hj : h[j]? = some (b, RL ty xs)) (hst : st = xs.length * Enc.sz α)
    (hb : 0 ≤ i ∧ i < xs.length) (hy : ev env y = (true, u)) (hc : Cells h u lu) (hsz : ti.sz = lu.length) (hlu : WkL lu (Enc.cl a'))
    (rest : Nd (h.set j (b, RL ty (xs.set i.toNat a'))) → TL C.P nt ks K env (h.set j (b, RL ty (xs.set i.toNat a')))) : TL C.P nt (⟨none, none, .st t x y⟩ :: ks) K env h := by
  obtain ⟨pc, S, h1, h2, h3, h4⟩ := hc
  have hlen : lu.length = Enc.sz α := by rw [hlu.len, Enc.len]
  have hfit : (i.toNat + 1) * Enc.sz α ≤ xs.length * Enc.sz α := Nat.mul_le_mul_right _ (by omega)
  rw [Nat.add_mul] at hfit
  refine TL.st (m := lu.length) (pc := pc) (S := S) (r := RL ty xs) rfl rfl rfl ht (by rw [hx, hst]; rfl) (nd.get hj) (by rw [hy]) (by rw [hy]; exact h1) h2 hsz.symm (by simp only [RL]; omega) (allOne_of fun d hd => ?_) ?_
  · rw [h3 d hd]
    simp only [ofL, List.getD_eq_getElem?_getD, List.getElem?_eq_getElem hd, Option.getD_some]
    exact h4 _ (List.getElem_mem hd)
  · refine TL.setrowW (q := { RL ty xs with cells := putC (RL ty xs).cells (i.toNat * Enc.sz α + 0) lu.length pc }) (q' := RL ty (xs.set i.toNat a')) nd hj rfl (by simp [RL]) (fun k hk => ?_) rest
    simp only [RL] at hk ⊢
    have hsz0 := Enc.pos (α := α)
    have hkd : k = k / Enc.sz α * Enc.sz α + k % Enc.sz α := by rw [Nat.mul_comm]; exact (Nat.div_add_mod _ _).symm
    have hm := Nat.mod_lt k hsz0
    rw [rowL_split hsz0]
    unfold putC
    by_cases hki : k / Enc.sz α = i.toNat
    · have hkm : k / Enc.sz α * Enc.sz α = i.toNat * Enc.sz α := by rw [hki]
      rw [if_pos (by omega), hki, List.getElem?_set_self (by omega), h3 _ (by omega), show k - (i.toNat * Enc.sz α + 0) = k % Enc.sz α by omega]
      exact WkL.at hlu _
    · rw [List.getElem?_set_ne (fun e => hki e.symm)]
      have hno : ¬ (i.toNat * Enc.sz α + 0 ≤ k ∧ k < i.toNat * Enc.sz α + 0 + lu.length) := by
        rintro ⟨q1, q2⟩
        apply hki
        rcases Nat.lt_trichotomy (k / Enc.sz α) i.toNat with h5 | h5 | h5
        · have : (k / Enc.sz α + 1) * Enc.sz α ≤ i.toNat * Enc.sz α := Nat.mul_le_mul_right _ (by omega)
          rw [Nat.add_mul] at this
          omega
        · exact h5
        · have : (i.toNat + 1) * Enc.sz α ≤ k / Enc.sz α * Enc.sz α := Nat.mul_le_mul_right _ (by omega)
          rw [Nat.add_mul] at this
          omega
      rw [if_neg hno, rowL_split hsz0]
      exact Wk.refl _

theorem inb_of {γ : Type} {xs : List γ} {i : Int} {a : γ} (h : getI xs i = some a) {ys : List γ} (hl : ys.length = xs.length) : 0 ≤ i ∧ i < ys.length := by
  obtain ⟨h1, h2, _⟩ := getI_in h
  exact ⟨h1, by omega⟩

theorem p_ldO' {xs : List α} {i : Int} {a : α} {b o st : Nat} {ti : TI} (d : β) (ht : C.ty t = some ti) (hk : ti.known = true) (hx : ev env x = (gx, .ref b (i.toNat * Enc.sz α + o) st)) (hst : st = xs.length * Enc.sz α) (nd : Nd h) {j : Nat} {ty : TypeId} (hj : h[j]? = some (b, RL ty xs))
    (hi : gc = true → getI xs i = some a) (hd : ((Enc.cl a).drop o).take (Enc.sz β) = Enc.cl d) (ha : ti.isAgg = Enc.agg β) (hs : ti.sz = Enc.sz β) (hg : gc = true → gx = true := by first | exact fun _ => rfl | simp_all) :
    PVok C h env (.ld t x) gc (Enc.v d) := p_ldO d ht hk (by rw [hx, hst]; rfl) nd hj hi hd ha hs hg

/-! ### looking -/
def Look1 (h : Hp) (a a' : AV) : Prop := ∀ (μ : Mu) (w : World) (c : Value), Sim μ h w → VR μ w a c → VR μ.flat w a' c
def LookL (h : Hp) : List AV → List AV → Prop
  | [], [] => True
  | a :: r, a' :: r' => Look1 h a a' ∧ LookL h r r'
  | _, _ => False
theorem Look1.of {a a' : AV} {S : Prop} (e : lookV h a = (a', S)) (hS : S) : Look1 h a a' := fun μ w c s hv => by
  have := lookV_ok s (a := a) (by rw [e]; exact hS) hv
  rw [e] at this
  exact this
theorem look_v {v : AV} (hv : v.val) : Look1 h v v := by
  refine Look1.of (S := v.val) ?_ hv
  cases v <;> first | rfl | exact hv.elim
theorem look_wk {v v' v'' : AV} (h1 : Look1 h v v') (hw : Wk v' v'') : Look1 h v v'' := fun μ w c s hv => hw _ _ _ (h1 μ w c s hv)
theorem look_OL (nd : Nd h) {j b : Nat} {ty : TypeId} {xs : List α} (hj : h[j]? = some (b, RL ty xs)) : Look1 h (OL b xs) (L xs) := by
  have hr := nd.get hj
  refine Look1.of (S := (xs.length * Enc.sz α = (RL ty xs).m ∧ 0 < Enc.sz α) ∧ ∀ i, i < (RL ty xs).m → ((RL ty xs).cells i).val) ?_ ⟨⟨rfl, Enc.pos⟩, fun i _ => rowL_val Enc.pos (fun x d _ => ec_val x d) i⟩
  simp only [lookV, OL, hr]
  congr 1
  exact CS_all Enc.pos
theorem look_OS (nd : Nd h) {j b : Nat} {ty : TypeId} {xs : List α} {l k : Int} (hj : h[j]? = some (b, RL ty xs)) (hb : 0 ≤ l ∧ l ≤ k ∧ k ≤ xs.length) : Look1 h (OS b xs l k) (L (slc xs l k)) := by
  have hr := nd.get hj
  refine Look1.of (S := (xs.length * Enc.sz α = (RL ty xs).m ∧ 0 < Enc.sz α) ∧ ∀ i, i < (RL ty xs).m → ((RL ty xs).cells i).val) ?_ ⟨⟨rfl, Enc.pos⟩, fun i _ => rowL_val Enc.pos (fun x d _ => ec_val x d) i⟩
  simp only [lookV, OS, hr]
  congr 1
  exact CS_rowL Enc.pos _ _ (by omega)
theorem LookL.at : ∀ {l l' : List AV}, LookL h l l' → l'.length = l.length ∧ ∀ i, i < l.length → Look1 h (ofL l i) (ofL l' i)
  | [], [], _ => ⟨rfl, fun i hi => by simp at hi⟩
  | a :: r, a' :: r', ⟨h1, h2⟩ => by
    obtain ⟨h3, h4⟩ := LookL.at h2
    refine ⟨by simp [h3], fun i hi => ?_⟩
    cases i with
    | zero => exact h1
    | succ i => exact h4 i (by simpa using hi)
theorem look_ref (nd : Nd h) {j b o : Nat} {ty : TypeId} {l l' : List AV} (hj : h[j]? = some (b, RV ty l)) (hl : LookL h l l') : Look1 h (.ref b o l.length) (.vref (ofL l') l.length o) := by
  have hr := nd.get hj
  intro μ w c s hv
  obtain ⟨r', B, cs, hg, hst, hB, hL, rfl, hh, hE, hmE, hcells⟩ := s.ref (by unfold refOK; rw [hr]; rfl) hv
  rw [hr] at hg
  injection hg with hg
  subst hg
  refine ⟨B.g, 0, by simp, ⟨(s.lt b B hB).2, s.noban b B hB, fun x B' e' => by cases e'⟩, fun i hi => ?_⟩
  obtain ⟨u, hu, hv⟩ := hcells i hi
  exact ⟨u, by simp [World.cell?, hh, hu], hl.at.2 i hi μ w u s hv⟩
theorem TL.lookX {d : Nat} {g : Option (Nat × Bool)} {f : X} {xs : List X} {gc : Bool} {fid : FuncId} {args : List AV} {r : AV} {ks : List KO} (args' : List AV) (hg : gcOf env g = some gc) (hd : Nat.ble (d + 1) nt = true)
    (ha : argsA env f xs = some (fid, args)) (hgx : gc = true → (ev env f).1 = true ∧ allG (evs env xs)) (hl : LookL h args args') (hf : gc = true → Fun P fid args' (· = r)) (hr : r.closed)
    (rest : TL P nt ks K ((d, gc, r) :: env) h) : TL P nt (⟨some d, g, .call f xs⟩ :: ks) K env h := by
  have hd' : ∀ x, some d = some x → x < nt := dlt hd
  refine TL.cons (gc := gc) hg ?_ (fun e => ⟨hd', by subst e; exact TL.under rest⟩)
  intro o μ a w ho hdst s hgc N hN
  have F := hf hgc
  obtain ⟨cargs, hr', hsz, hv⟩ := call_run s ho ha (hgx hgc).1 (hgx hgc).2 F.enters
  unfold Oper.wp
  rw [hr']
  simp only [Oper.upon]
  have hm : MuOK μ.flat w := ⟨(fun b B e => by cases e), s.sim.muok.2⟩
  refine (F.calls μ.flat w cargs hm (by rw [hl.at.1]; simpa using hsz) (fun i hi => ?_)).mono ?_
  · have hi' : i < args.length := by rw [← hl.at.1]; exact hi
    exact hl.at.2 i hi' μ w _ s.sim (hv i hi')
  rintro e w' ⟨c, r', rfl, rfl, hrval, hrv, hb⟩
  simp only
  rw [hdst]
  have st := Step.of_below s.sim.muok hb
  have s' : SimA nt μ env h a w' := ⟨s.sim.below hb, s.env.mono st, s.size, s.defers⟩
  subst hgc
  exact hN μ _ h _ w' (s'.put hd' (fun _ => VR.closed _ _ hr hrv) (fun e => by simp at e)) st rest
theorem vok_lookX {f : X} {xs : List X} {fid : FuncId} {args : List AV} {r : AV} (args' : List AV) (ha : argsA env f xs = some (fid, args)) (hgx : gc = true → (ev env f).1 = true ∧ allG (evs env xs)) (hl : LookL h args args')
    (hf : gc = true → Fun P fid args' (· = r)) (hr : r.closed) : gc = true → VOK P nt h env (.call f xs) r := fun hgc => by
  intro o μ a w ho s N hN
  have F := hf hgc
  obtain ⟨cargs, hr', hsz, hv⟩ := call_run s ho ha (hgx hgc).1 (hgx hgc).2 F.enters
  unfold Oper.wp
  rw [hr']
  simp only [Oper.upon]
  have hm : MuOK μ.flat w := ⟨(fun b B e => by cases e), s.sim.muok.2⟩
  refine (F.calls μ.flat w cargs hm (by rw [hl.at.1]; simpa using hsz) (fun i hi => ?_)).mono ?_
  · have hi' : i < args.length := by rw [← hl.at.1]; exact hi
    exact hl.at.2 i hi' μ w _ s.sim (hv i hi')
  rintro e w' ⟨c, r', rfl, rfl, hrval, hrv, hb⟩
  exact hN c w' (VR.closed _ _ hr hrv) hb
def allClosed : List AV → Prop
  | [] => True
  | v :: r => v.closed ∧ allClosed r
theorem agg_closed {l : List AV} {n : Nat} (hn : n = l.length) (hl : allClosed l) : (AV.agg n (ofL l)).closed := fun i hi => by
  subst hn
  induction l generalizing i with
  | nil => simp at hi
  | cons v r ih =>
    cases i with
    | zero => exact hl.1
    | succ i => exact ih hl.2 i (by simpa using hi)
theorem tup_closed {l : List AV} {n : Nat} (hn : n = l.length) (hl : allClosed l) : (AV.tup n (ofL l)).closed := fun i hi => by
  subst hn
  induction l generalizing i with
  | nil => simp at hi
  | cons v r ih =>
    cases i with
    | zero => exact hl.1
    | succ i => exact ih hl.2 i (by simpa using hi)

/-! ### functions that turn rows -/
/-- Called so, in these rows alone, it comes back so; the rows then tell of themselves alone. -/
def TCX (P : Program) (f : FuncId) (args : List AV) (F : Hp) (Q : AV → Hp → Prop) : Prop := TC P f args F (fun r h' => Q r h' ∧ Nd h' ∧ inH h' r ∧ clH h')

theorem TL.tcX {d : Option Nat} {f : X} {xs : List X} {fid : FuncId} {args : List AV} {ks : List KO} {Q : AV → Hp → Prop} (F rest : Hp) (hh : h = F ++ rest) (nd : Nd h) (hd : ∀ x, d = some x → x < nt)
    (ha : argsA env f xs = some (fid, args)) (hgx : (ev env f).1 = true ∧ allG (evs env xs)) (hf : TCX P fid args F Q)
    (k : ∀ r F', Q r F' → Nd (F' ++ rest) → TL P nt ks K (putE d true r env) (F' ++ rest)) : TL P nt (⟨d, none, .call f xs⟩ :: ks) K env h := by
  subst hh
  refine TL.tc (Q := fun r h' => ∃ F', (Q r F' ∧ Nd F' ∧ inH F' r ∧ clH F') ∧ h' = F' ++ rest ∧ Nd (F' ++ rest)) rfl rfl hd ha hgx (TC.frame hf nd (fun r h' hq => hq.2)) ?_
  rintro r h' ⟨F', ⟨hq, _⟩, rfl, nd'⟩
  exact k r F' hq nd'

theorem inH_rs {j b o n st sz : Nat} {r : Row} (nd : Nd h) (hj : h[j]? = some (b, r)) : inH h (.rs b o n st sz) := by
  show h.get b ≠ none
  rw [nd.get hj]; simp
theorem inH_ref {j b o st : Nat} {r : Row} (nd : Nd h) (hj : h[j]? = some (b, r)) : inH h (.ref b o st) := by
  show h.get b ≠ none
  rw [nd.get hj]; simp
def allIn (h : Hp) : List AV → Prop
  | [] => True
  | v :: r => inH h v ∧ allIn h r
theorem allIn.at : ∀ {l : List AV}, allIn h l → ∀ i, inH h (ofL l i)
  | [], _, i => trivial
  | v :: r, hh, i => by
    cases i with
    | zero => exact hh.1
    | succ i => exact allIn.at hh.2 i
theorem inH_tup {l : List AV} {n : Nat} (hl : allIn h l) : inH h (.tup n (ofL l)) := fun i _ => allIn.at hl i
theorem inH_agg {l : List AV} {n : Nat} (hl : allIn h l) : inH h (.agg n (ofL l)) := fun i _ => allIn.at hl i
theorem inH_vref {l : List AV} {n o : Nat} (hl : allIn h l) : inH h (.vref (ofL l) n o) := fun i _ => allIn.at hl i
def rowIn (h : Hp) (r : Row) : Prop := ∀ i, i < r.m → inH h (r.cells i)
theorem rowIn_RL {ty : TypeId} {xs : List α} : rowIn h (RL ty xs) := fun i _ => inH_val (rowL_val Enc.pos (fun x d _ => ec_val x d) i)
theorem rowIn_RV {ty : TypeId} {l : List AV} (hl : allIn h l) : rowIn h (RV ty l) := fun i _ => allIn.at hl i
def rowsIn (h : Hp) : Hp → Prop
  | [] => True
  | p :: r => rowIn h p.2 ∧ rowsIn h r
theorem rowsIn.get : ∀ {g : Hp}, rowsIn h g → ∀ b r, g.get b = some r → rowIn h r
  | [], _, b, r, e => by cases e
  | (x, q) :: g, hh, b, r, e => by
    simp only [Hp.get] at e
    by_cases hx : x = b
    · rw [if_pos hx] at e; injection e with e; subst e; exact hh.1
    · rw [if_neg hx] at e; exact rowsIn.get hh.2 b r e
theorem clH_of (hh : rowsIn h h) : clH h := fun b r e => rowsIn.get hh b r e

/-- How a function that turns rows comes back. -/
theorem retX {ts : List Nat} {v : AV} {R : AV → Hp → Prop} (hv : (resA ts env).1 = v ∧ (resA ts env).2) (hR : R v h) (nd : Nd h) (hin : inH h v) (hcl : rowsIn h h) : RetQ ts (fun r h' => R r h' ∧ Nd h' ∧ inH h' r ∧ clH h') .ret env h := by
  obtain ⟨h1, h2⟩ := hv
  exact ⟨h2, by rw [h1]; exact ⟨hR, nd, hin, clH_of hcl⟩⟩
theorem res1 {t : Nat} {v : AV} (hl : lk env t = some (true, v)) : (resA [t] env).1 = v ∧ (resA [t] env).2 := by
  simp only [resA, hl, Option.getD_some]; exact ⟨trivial, trivial⟩

theorem Nd.take {g F : Hp} (nd : Nd g) (n : Nat) (hF : g.take n = F) : Nd F := by
  subst hF
  unfold Nd at nd ⊢
  exact nd.sublist ((List.take_sublist n g).map _)

/-- A function of values is one, too. -/
theorem TCX.of {f : FuncId} {ts : List Nat} {k : KC} (B : Body P f nt ts k) {args : List AV} {Q : AV → Hp → Prop} (hn : args.length ≤ nt)
    (hT : TK P nt k (RetQ ts fun r h' => Q r h' ∧ Nd h' ∧ inH h' r ∧ clH h') (argsE 0 args) h) : TCX P f args h Q := TC.of B hn hT

/-- nil in a struct that lies alone, taken as an own row of nothing. -/
theorem TK.ownC {Q : Post} {c : KC} (nd : Nd h) {j b : Nat} {ty : TypeId} {l : List AV} (hj : h[j]? = some (b, RV ty l)) (o : Nat) (e : TypeId) (ho : l[o]? = some .nils ∨ l[o]? = some .z0)
    (k : ∀ b', Nd ((b', RL e ([] : List α)) :: h.set j (b, RV ty (l.set o (OL b' ([] : List α))))) → TK P nt c Q env ((b', RL e ([] : List α)) :: h.set j (b, RV ty (l.set o (OL b' ([] : List α)))))) : TK P nt c Q env h := by
  have hr := nd.get hj
  have hlt : o < l.length := by rcases ho with ho | ho <;> exact (List.getElem?_eq_some_iff.1 ho).1
  refine TK.ownH b o e (Enc.sz α) (rowL (Enc.sz α) ec ([] : List α)) hr ?_ (fun b' => ofL (l.set o (.rs b' 0 0 0 (Enc.sz α)))) (fun b' => ⟨?_, fun i hi hm => ?_⟩) fun b' hb' => ?_
  · rcases ho with ho | ho
    · left; simp [RV, ofL, List.getD_eq_getElem?_getD, ho]
    · right; simp [RV, ofL, List.getD_eq_getElem?_getD, ho]
  · simp only [ofL, List.getD_eq_getElem?_getD]
    rw [List.getElem?_set_self hlt]; rfl
  · simp only [RV, ofL, List.getD_eq_getElem?_getD]
    rw [List.getElem?_set_ne (fun e => hi e.symm)]
  · obtain ⟨hu, nd'⟩ := nd.upd (r' := RV ty (l.set o (OL b' ([] : List α)))) hj
    have hb2 : Hp.get (h.set j (b, RV ty (l.set o (OL b' ([] : List α))))) b' = none := by
      rw [← hu, Hp.get_upd]
      by_cases hx : b' = b
      · subst hx; rw [hr] at hb'; cases hb'
      · rw [if_neg hx]; exact hb'
    have := k b' (nd'.cons _ hb2)
    rw [← hu] at this
    have e1 : ({ RV ty l with cells := ofL (l.set o (.rs b' 0 0 0 (Enc.sz α))) } : Row) = RV ty (l.set o (OL b' ([] : List α))) := by
      simp [RV, OL]
    rw [e1]
    have e2 : (⟨e, 0, rowL (Enc.sz α) ec ([] : List α)⟩ : Row) = RL e ([] : List α) := by simp [RL]
    rw [e2]
    exact this

/-- A shorter slice takes the row over. -/
theorem TK.cutX {Q : Post} {c : KC} (t : Nat) (nd : Nd h) {j b : Nat} {e : TypeId} {xs : List α} {k : Int} (hj : h[j]? = some (b, RL e xs)) (hl : lk env t = some (true, OS b xs 0 k)) (hb : 0 ≤ k ∧ k ≤ xs.length)
    (K' : ∀ b', Nd ((b', RL e (slc xs 0 k)) :: h.eraseIdx j) → TK P nt c Q (cvE t (OL b' (slc xs 0 k)) env) ((b', RL e (slc xs 0 k)) :: h.eraseIdx j)) : TK P nt c Q env h := by
  have hr := nd.get hj
  have hlen : (slc xs 0 k).length = k.toNat := by simp [slc]; omega
  have hfit : k.toNat * Enc.sz α ≤ xs.length * Enc.sz α := Nat.mul_le_mul_right _ (by omega)
  refine TK.cut (len := k.toNat) (sz := Enc.sz α) (st := xs.length * Enc.sz α) t (by rw [hl]; simp [OS]) hr rfl hfit (rowL (Enc.sz α) ec (slc xs 0 k)) (fun i hi => ?_) fun b' hb' => ?_
  · show _ = rowL (Enc.sz α) ec xs i
    rw [rowL_split Enc.pos, rowL_split Enc.pos]
    have hq : i / Enc.sz α < k.toNat := Nat.div_lt_of_lt_mul (by rw [Nat.mul_comm]; exact hi)
    have : (slc xs 0 k)[i / Enc.sz α]? = xs[i / Enc.sz α]? := by
      simp only [slc, Int.toNat_zero, List.drop_zero, Int.sub_zero]
      rw [List.getElem?_take, if_pos hq]
    rw [this]
  · have hsub : ∀ x q, Hp.get ((b', RL e (slc xs 0 k)) :: h.eraseIdx j) x = some q → Hp.get ((b', (⟨(RL e xs).ty, k.toNat * Enc.sz α, rowL (Enc.sz α) ec (slc xs 0 k)⟩ : Row)) :: h.del b) x = some q := by
      intro x q e'
      simp only [Hp.get] at e' ⊢
      by_cases hx : b' = x
      · rw [if_pos hx] at e' ⊢
        rw [← e']
        simp only [RL, hlen]
      · rw [if_neg hx] at e' ⊢
        obtain ⟨h1, h2⟩ := get_erase nd hj e'
        rw [Hp.get_del, if_neg h1]; exact h2
    have hb2 : Hp.get (h.eraseIdx j) b' = none := by
      cases hq : Hp.get (h.eraseIdx j) b' with
      | none => rfl
      | some q => have := (get_erase nd hj hq).2; rw [hb'] at this; cases this
    have := K' b' ((nd.erase j).cons _ hb2)
    have e1 : OL b' (slc xs 0 k) = .rs b' 0 k.toNat (k.toNat * Enc.sz α) (Enc.sz α) := by unfold OL; rw [hlen]
    rw [e1] at this
    exact TK.subH hsub this

/-- clear of an own part. -/
def clr {γ : Type} (xs : List γ) (l k : Int) (z : γ) : List γ := xs.take l.toNat ++ List.replicate (k - l).toNat z ++ xs.drop k.toNat
end
end Go.AX
