import Derived.Test.YtpipaggkbiapjaaDoorXK
/- Lists of what may be nil: made, written out. -/
namespace Go.AX
open Go.AM Go.RowKit

section
variable {C : Cx} {P : Program} {nt : Nat} {env : Env} {h hS : Hp} {K : Env → Hp → Prop} {gc gx gy : Bool} {t : TypeId} {x y : X} {u : AV} {α β : Type} [Enc α] [Enc β]

theorem TL.rowW {ks : List KO} {b : Nat} {r r' : Row} (h1 : r'.ty = r.ty) (h2 : r'.m = r.m) (h3 : ∀ i, i < r.m → Wk (r.cells i) (r'.cells i)) (k : TL P nt ks K env ((b, r') :: h)) : TL P nt ks K env ((b, r) :: h) := by
  intro os hl hz μ a w s
  refine k os hl hz μ a w ⟨?_, s.env, s.size, s.defers⟩
  refine ⟨fun x q e => ?_, s.sim.inj, s.sim.lt, s.sim.vlt, s.sim.noban, s.sim.banlt⟩
  simp only [Hp.get] at e
  by_cases hx : b = x
  · subst hx
    rw [if_pos rfl] at e
    injection e with e
    subst e
    rcases s.sim.row b r (by simp [Hp.get]) with ⟨hv, hn, h0⟩ | ⟨B, cs, hnv, q1, q2, q3, q4, q5, q6⟩
    · exact .inl ⟨hv, hn, by rw [h2]; exact h0⟩
    · refine .inr ⟨B, cs, hnv, q1, by rw [h2]; exact q2, by rw [h1]; exact q3, q4, by rw [h2]; exact q5, fun i hi => ?_⟩
      obtain ⟨u, hu, hv⟩ := q6 i (by rw [← h2]; exact hi)
      exact ⟨u, hu, h3 i (by rw [← h2]; exact hi) _ _ _ hv⟩
  · rw [if_neg hx] at e
    exact s.sim.row x q (by simp only [Hp.get]; rw [if_neg hx]; exact e)

/-- make of a list of lists: each is nil, which is a list of nothing. -/
theorem TL.mkOn {d : Nat} {e : TypeId} {ei : TI} {q q' : IntKind} {n : Int} {ks : List KO} (nd : Nd h) (hk : C.kd t = some (.slc e)) (he : C.ty e = some ei) (hs : ei.sz = 1) (hz : ei.z 0 = .nils)
    (hx : ev env x = (true, .int q n)) (hy : ev env y = (true, .int q' n)) (hby : 0 < ei.by') (hn : 0 ≤ n ∧ n * ei.by' ≤ 281474976710656) (hd : Nat.ble (d + 1) nt = true)
    (rest : ∀ b, Nd ((b, RL e (List.replicate n.toNat ([] : List α))) :: h) → TL C.P nt ks K ((d, true, OL b (List.replicate n.toNat ([] : List α))) :: env) ((b, RL e (List.replicate n.toNat ([] : List α))) :: h)) : TL C.P nt (⟨some d, none, .mk t x y⟩ :: ks) K env h := by
  have hn2 : n ≤ n * ei.by' := by
    have h1 : n * 1 ≤ n * (ei.by' : Int) := Int.mul_le_mul_of_nonneg_left (by omega) hn.1
    omega
  refine TL.mk rfl rfl (dlt hd) hk he hx hy hn.1 hn.2 (by omega) fun b hb => ?_
  have := rest b (nd.cons _ hb)
  simp only [OL, RL, List.length_replicate] at this
  rw [hs]
  refine TL.rowW (r' := ⟨e, n.toNat * 1, rowL 1 ec (List.replicate n.toNat ([] : List α))⟩) rfl rfl (fun i hi => ?_) this
  have hi' : i < n.toNat := by simpa using hi
  simp only
  rw [rep_at (by rw [hs]; simpa using hi'), hs, Nat.mod_one, hz, rowL_split (by omega), List.getElem?_eq_getElem (by simpa using hi')]
  simp only [List.getElem_replicate, Nat.mod_one]
  exact Wk_nil

/-- The parts that are written are these lists; nil is a list of nothing. -/
def LitN (env : Env) : Nat → List (Nat × X) → List (List α) → Prop
  | _, [], [] => True
  | i, (k, x) :: r, a :: as => (k = i ∧ ∃ u, ev env x = (true, u) ∧ (u = Enc.v a ∨ (u = .nils ∧ a = []))) ∧ LitN env (i + 1) r as
  | _, _, _ => False
theorem litN_of : ∀ {ps : List (Nat × X)} {xs : List (List α)} {i : Nat}, LitN env i ps xs → ∃ l S, litA h env 1 i ps = some (l, S) ∧ S ∧ l.length = xs.length ∧ ∀ (k : Nat) (pc : Nat → AV), l[k]? = some pc → ∃ a, xs[k]? = some a ∧ Wk (pc 0) (L a)
  | [], [], _, _ => ⟨[], True, rfl, trivial, rfl, fun k pc hp => by simp at hp⟩
  | (k, x) :: r, a :: as, i, ⟨⟨hk, u, hx, hu⟩, hr⟩ => by
    obtain ⟨l, S, h1, h2, h3, h4⟩ := litN_of hr
    rcases hu with rfl | ⟨rfl, rfl⟩
    · obtain ⟨pc, S', h5, h6, h7, _⟩ := Cells_v (h := h) a
      refine ⟨pc :: l, (k = i ∧ (ev env x).1 = true ∧ S' ∧ (Enc.cl a).length = 1) ∧ S, by simp only [litA, hx, h5, h1], ⟨⟨hk, by rw [hx], h6, Enc.len a⟩, h2⟩, by simp [h3], fun k q hq => ?_⟩
      cases k with
      | zero =>
        simp only [List.getElem?_cons_zero, Option.some.injEq] at hq
        subst hq
        refine ⟨a, rfl, ?_⟩
        rw [h7 0 (by rw [Enc.len a]; exact Enc.pos)]
        exact Wk.refl _
      | succ k =>
        simp only [List.getElem?_cons_succ] at hq ⊢
        exact h4 k q hq
    · refine ⟨(fun _ => .nils) :: l, (k = i ∧ (ev env x).1 = true ∧ True ∧ 1 = 1) ∧ S, by simp only [litA, hx, cellsA, h1], ⟨⟨hk, by rw [hx], trivial, rfl⟩, h2⟩, by simp [h3], fun k q hq => ?_⟩
      cases k with
      | zero =>
        simp only [List.getElem?_cons_zero, Option.some.injEq] at hq
        subst hq
        exact ⟨[], rfl, Wk_nil⟩
      | succ k =>
        simp only [List.getElem?_cons_succ] at hq ⊢
        exact h4 k q hq
theorem Wk_sl {m n : Nat} {c c' : Nat → AV} (hc : ∀ i, i < m → Wk (c i) (c' i)) : Wk (.sl c m n) (.sl c' m n) := fun μ w v hv => by
  rcases hv with hv | ⟨a, cap, e, h1, h2, h3⟩
  · exact .inl hv
  · refine .inr ⟨a, cap, e, h1, h2, fun i hi => ?_⟩
    obtain ⟨u, hu, hv⟩ := h3 i hi
    exact ⟨u, hu, hc i hi _ _ _ hv⟩
theorem litN_L {l : List (Nat → AV)} {xs : List (List α)} (h3 : l.length = xs.length) (h4 : ∀ (k : Nat) (pc : Nat → AV), l[k]? = some pc → ∃ a, xs[k]? = some a ∧ Wk (pc 0) (L a)) : Wk (.sl (catC 1 l) (xs.length * 1) xs.length) (L xs) := by
  unfold L VS
  refine Wk_sl fun i hi => ?_
  have hi' : i < xs.length := by simpa using hi
  have hl : i < l.length := by omega
  obtain ⟨a, ha, hw⟩ := h4 i l[i] (List.getElem?_eq_getElem hl)
  have e1 : catC 1 l i = l[i] 0 := by
    simp [catC, hl, Nat.mod_one]
  show Wk (catC 1 l i) (rowL 1 ec xs i)
  rw [e1, rowL_split (by omega), Nat.div_one, ha, Nat.mod_one]
  exact hw
theorem TL.litN {d n : Nat} {ps : List (Nat × X)} {e : TypeId} {ei : TI} {ks : List KO} (xs : List (List α)) (hk : C.kd t = some (.slc e)) (he : C.ty e = some ei) (hs : ei.sz = 1) (hl : LitN env 0 ps xs) (hn : n = xs.length) (hlim : Nat.ble (n * 1) 16777216 = true) (hd : Nat.ble (d + 1) nt = true)
    (rest : TL C.P nt ks K ((d, true, L xs) :: env) h) : TL C.P nt (⟨some d, none, .bsl t n ps⟩ :: ks) K env h := by
  obtain ⟨l, S, h1, h2, h3, h4⟩ := litN_of (h := h) hl
  refine TL.bslv (gc := true) rfl rfl (dlt hd) hk he (by rw [hs]; exact Nat.le_of_ble_eq_true hlim) (by rw [hs]; exact h1) (fun _ => h2) (by rw [h3, hn]) ?_
  rw [hs]
  subst hn
  exact TL.wk (litN_L h3 h4) rest
theorem vok_litN {n : Nat} {ps : List (Nat × X)} {e : TypeId} {ei : TI} (xs : List (List α)) (hk : C.kd t = some (.slc e)) (he : C.ty e = some ei) (hs : ei.sz = 1) (hl : LitN env 0 ps xs) (hn : n = xs.length) (hlim : Nat.ble (n * 1) 16777216 = true) :
    gc = true → VOK C.P nt h env (.bsl t n ps) (L xs) := fun _ => by
  refine vok_new fun o μ a w ho s => ?_
  obtain ⟨l, S, h1, h2, h3, h4⟩ := litN_of (h := h) hl
  obtain ⟨out, hrun, o2, o3⟩ := bsl_run ho hk he (by rw [hs]; exact Nat.le_of_ble_eq_true hlim) (by rw [hs]; exact h1) h2 (by rw [h3, hn]) s
  refine ⟨_, _, hrun, ?_⟩
  have hb : Below w.heap.size w { w with heap := w.heap.push (.cells out e) } := below_push
  have st := Step.of_below s.sim.muok hb
  subst hn
  refine litN_L h3 h4 _ _ _ ?_
  rw [← hs]
  refine Or.inr ⟨_, _, rfl, Nat.le_refl _, fun _ => ⟨rfl, ?_⟩, fun j hj => ?_⟩
  · exact ⟨by simp, fun hban => Nat.lt_irrefl _ (s.sim.banlt _ hban), fun b B e hg => Nat.lt_irrefl _ (hg ▸ (s.sim.lt b B e).2)⟩
  · have hj' : j < out.size := by omega
    refine ⟨out.getD j undef, by simp [World.cell?, Array.getD, hj'], VR.mono st _ _ (o3 j hj)⟩
end
end Go.AX
