import Derived.Test.YtndjbcnpgggddaaLibB
/- More operations: pointers to what is laid down, nil, clear. -/
namespace Go.AX
open Go.AM Go.RowKit

section
variable {C : Cx} {P : Program} {nt : Nat} {env : Env} {h hS : Hp} {K : Env → Hp → Prop} {gc gx gy : Bool} {t : TypeId} {x y : X} {u : AV} {α β : Type} [Enc α] [Enc β]

theorem p_eqV {e m o : Nat} {cs : Nat → AV} (hk : C.kd t = some (.ptr e)) (hx : ev env x = (gx, .vref cs m o)) (hy : ev env y = (gy, .nilp)) (hg : gc = true → gx = true ∧ gy = true := by first | exact fun _ => ⟨rfl, rfl⟩ | simp_all) :
    PVok C h env (.bin .eql t x y) gc (.bool false) := by
  refine pvE (S := (gx = true ∧ gy = true) ∧ True) ?_ fun e => ⟨hg e, trivial⟩
  have : binAll C h .eql t (.vref cs m o) .nilp = (.bool false, True) := by
    show eqA C h t false _ _ = _
    simp only [eqA, hk, eqB]; rfl
  simp only [pv, hx, hy, this]
theorem p_neV {e m o : Nat} {cs : Nat → AV} (hk : C.kd t = some (.ptr e)) (hx : ev env x = (gx, .vref cs m o)) (hy : ev env y = (gy, .nilp)) (hg : gc = true → gx = true ∧ gy = true := by first | exact fun _ => ⟨rfl, rfl⟩ | simp_all) :
    PVok C h env (.bin .neq t x y) gc (.bool true) := by
  refine pvE (S := (gx = true ∧ gy = true) ∧ True) ?_ fun e => ⟨hg e, trivial⟩
  have : binAll C h .neq t (.vref cs m o) .nilp = (.bool true, True) := by
    show eqA C h t true _ _ = _
    simp only [eqA, hk, eqB]; rfl
  simp only [pv, hx, hy, this]
/-! ### nil or empty -/
/-- What comes of both answers where a list of nothing is asked whether it is nil. -/
def nilU {ρ γ : Type} [DecidableEq ρ] (xs : List γ) (k : Bool → Option ρ) : Option ρ := match xs with
  | [] => if k true = k false then k true else none
  | _ => k false
theorem nilU_t {ρ γ : Type} [DecidableEq ρ] {xs : List γ} {k : Bool → Option ρ} {r : ρ} (hh : nilU xs k = some r) {b : Bool} (hb : b = true → xs = []) : k b = some r := by
  unfold nilU at hh
  split at hh
  · split at hh
    · rename_i h2
      cases b
      · rw [← h2]; exact hh
      · exact hh
    · cases hh
  · rename_i h1
    cases b
    · exact hh
    · exact (h1 (hb rfl)).elim

theorem bin_op {o : Oper} {op : BinOp} {t : TypeId} {x y : X} (ho : cookOp o.op = some (.bin op t x y)) : ∃ ox oy ty, o.op = .binOp op t ox oy ty ∧ cookX ox = some x ∧ cookX oy = some y := by
  unfold cookOp at ho
  split at ho <;> (try (simp at ho; done)) <;> (try (split at ho <;> simp at ho <;> done))
  case h_11 op' t' x' y' ty e =>
    split at ho
    case h_2 => simp at ho
    case h_1 x2 y2 h1 h2 =>
      simp only [Option.some.injEq, I.bin.injEq] at ho
      obtain ⟨rfl, rfl, rfl, rfl⟩ := ho
      exact ⟨_, _, _, e, h1, h2⟩

theorem TL.eqNilU {d : Nat} {e : TypeId} {xs : List α} {ks : List KO} (hk : C.kd t = some (.slc e)) (hx : ev env x = (true, L xs)) (hy : ev env y = (true, .nils)) (hd : Nat.ble (d + 1) nt = true)
    (rest : ∀ b : Bool, (b = true → xs = []) → TL C.P nt ks K ((d, true, .bool b) :: env) h) : TL C.P nt (⟨some d, none, .bin .eql t x y⟩ :: ks) K env h := by
  refine TL.cons (gc := true) rfl ?_ (fun e => by simp at e)
  intro o μ a w ho hdst s _ N hN
  obtain ⟨ox, oy, ty, hop, hcx, hcy⟩ := bin_op ho
  have vx := ev_ok hcx s.env (by rw [hx])
  rw [hx] at vx
  have vy := ev_ok hcy s.env (by rw [hy])
  rw [hy] at vy
  have vy : a.eval oy = .slice none 0 0 := vy
  have hb0 : Below w.heap.size w w := Below.refl _ _
  have key : ∀ b : Bool, (b = true → xs = []) → (Sem.run C.P (do eqGuard .eql t ox oy (a.eval ox) (a.eval oy); binOp .eql t (a.eval ox) (a.eval oy)) w = .ok (.bool b) w) → o.wp C.P a w N (fun _ _ _ => False) := by
    intro b hb hrun
    unfold Oper.wp
    have : (execOp a.eval o).run C.P w = .ok (.value (.bool b)) w := by
      simp only [execOp, hop]
      rw [Sem.run_bind, hrun]
      rfl
    rw [this]
    simp only [Oper.upon]
    rw [hdst]
    exact hN μ _ _ _ _ (env_put (v := .bool b) s (Step.refl μ w) s.sim (dlt hd) rfl) (Step.refl μ w) (rest b hb)
  obtain ⟨i, hi, hkk, hK⟩ := kd_ok hk
  have vx : VR μ w (L xs) (a.eval ox) := vx
  generalize hcx' : a.eval ox = cx at key vx
  rw [vy] at key
  rcases vx with ⟨h0, h1, rfl⟩ | ⟨ad, cap, rfl, _⟩
  · exact key true (fun _ => List.length_eq_zero_iff.1 h0) (run_eql (by simp) (by simp) (by unfold eqGuard; simp) (equal_of fun d => by simp [Op.equalIn, run_und hK]) (.inl rfl))
  · exact key false (fun e => by cases e) (run_eql (by simp) (by simp) (by unfold eqGuard; simp) (equal_of fun d => by simp [Op.equalIn, run_und hK]) (.inl rfl))

/-- A literal of nothing. -/
theorem TL.litZ {d : Nat} {e : TypeId} {ei : TI} {ks : List KO} (hk : C.kd t = some (.slc e)) (he : C.ty e = some ei) (hd : Nat.ble (d + 1) nt = true)
    (rest : TL C.P nt ks K ((d, true, .z0) :: env) h) : TL C.P nt (⟨some d, none, .bsl t 0 []⟩ :: ks) K env h := by
  refine TL.cons (gc := true) rfl ?_ (fun e => by simp at e)
  intro o μ a w ho hdst s hgc N hN
  obtain ⟨out, hrun, o2, o3⟩ := bsl_run (l := []) (S := True) ho hk he (by simp) rfl trivial rfl s
  have hb : Below w.heap.size w { w with heap := w.heap.push (.cells out e) } := below_push
  have st := Step.of_below s.sim.muok hb
  unfold Oper.wp
  rw [hrun]
  simp only [Oper.upon]
  rw [hdst]
  exact hN μ _ _ _ _ (env_put (v := .z0) s st (s.sim.below hb) (dlt hd) ⟨_, rfl⟩) st rest

/-! ### clear -/
theorem TL.clrO {e : TypeId} {ei : TI} {b : Nat} {xs : List α} {l k : Int} {ks : List KO} (nd : Nd h) (z : α) (hk : C.kd t = some (.slc e)) (he : C.ty e = some ei) (hs : ei.sz = Enc.sz α) (hz : ∀ j, j < Enc.sz α → ei.z j = ec z j)
    (hx : ev env x = (true, OS b xs l k)) {j : Nat} (hj : h[j]? = some (b, RL e xs)) (hb : 0 ≤ l ∧ l ≤ k ∧ k ≤ xs.length)
    (rest : Nd (h.set j (b, RL e (clr xs l k z))) → TL C.P nt ks K env (h.set j (b, RL e (clr xs l k z)))) : TL C.P nt (⟨none, none, .bi .clear [t] [x]⟩ :: ks) K env h := by
  have hone : allOne h ei.z ei.sz := by
    rw [hs]
    refine allOne_of fun d hd => ?_
    rw [hz d hd]
    have : d < (Enc.cl z).length := by rw [Enc.len]; exact hd
    unfold ec ofL
    rw [List.getD_eq_getElem?_getD, List.getElem?_eq_getElem this]
    exact oneA_AV1 (Enc.cell _ _ (List.getElem_mem this))
  refine TL.clear rfl rfl rfl hk he (by rw [hx]; rfl) (nd.get hj) rfl hs hone ?_
  have hlen : (clr xs l k z).length = xs.length := by simp [clr]; omega
  refine TL.setrow (q' := RL e (clr xs l k z)) nd hj rfl (by simp [RL, hlen]) (fun p hp => ?_) rest
  have hsz0 := Enc.pos (α := α)
  simp only [RL] at hp ⊢
  have hq : p / Enc.sz α < xs.length := Nat.div_lt_of_lt_mul (by rw [Nat.mul_comm]; exact hp)
  have hm := Nat.mod_lt p hsz0
  have hpd : p = p / Enc.sz α * Enc.sz α + p % Enc.sz α := by rw [Nat.mul_comm]; exact (Nat.div_add_mod _ _).symm
  rw [rowL_split hsz0]
  unfold putC
  have hget : (clr xs l k z)[p / Enc.sz α]? = if l.toNat ≤ p / Enc.sz α ∧ p / Enc.sz α < k.toNat then some z else xs[p / Enc.sz α]? := by
    unfold clr
    rw [List.append_assoc, List.getElem?_append]
    simp only [List.length_take]
    by_cases h1 : p / Enc.sz α < l.toNat
    · rw [if_pos (by omega), if_neg (by omega), List.getElem?_take, if_pos h1]
    · rw [if_neg (by omega), List.getElem?_append]
      simp only [List.length_replicate]
      by_cases h2 : p / Enc.sz α < k.toNat
      · rw [if_pos (by omega), if_pos (by omega), List.getElem?_replicate, if_pos (by omega)]
      · rw [if_neg (by omega), if_neg (by omega), List.getElem?_drop]
        congr 1
        omega
  rw [hget]
  by_cases hin : l.toNat ≤ p / Enc.sz α ∧ p / Enc.sz α < k.toNat
  · have h1 : l.toNat * Enc.sz α ≤ p / Enc.sz α * Enc.sz α := Nat.mul_le_mul_right _ hin.1
    have h2 : (p / Enc.sz α + 1) * Enc.sz α ≤ k.toNat * Enc.sz α := Nat.mul_le_mul_right _ hin.2
    have h3 : l.toNat * Enc.sz α + (k - l).toNat * Enc.sz α = k.toNat * Enc.sz α := by rw [← Nat.add_mul]; congr 1; omega
    rw [Nat.add_mul] at h2
    rw [if_pos hin, if_pos (by omega)]
    rw [rep_at (by rw [hs]; omega), hs, show (p - l.toNat * Enc.sz α) % Enc.sz α = p % Enc.sz α by
      have : p - l.toNat * Enc.sz α = p % Enc.sz α + (p / Enc.sz α - l.toNat) * Enc.sz α := by rw [Nat.sub_mul]; omega
      rw [this, Nat.add_mul_mod_self_right, Nat.mod_mod]]
    exact (hz _ hm).symm
  · rw [if_neg hin, if_neg ?_, rowL_split hsz0]
    rintro ⟨h1, h2⟩
    have h3 : l.toNat * Enc.sz α + (k - l).toNat * Enc.sz α = k.toNat * Enc.sz α := by rw [← Nat.add_mul]; congr 1; omega
    rw [h3] at h2
    apply hin
    constructor
    · exact (Nat.le_div_iff_mul_le hsz0).2 h1
    · exact Nat.div_lt_of_lt_mul (by rw [Nat.mul_comm]; exact h2)

/-! ### ends, looks, regions of open order -/
theorem vok_wk {i : I} {v v' : AV} (hv : gc = true → VOK P nt h env i v) (hw : Wk v v') : gc = true → VOK P nt h env i v' := fun hg o μ a w ho s N hN => hv hg o μ a w ho s N fun c w' h1 h2 => hN c w' (hw _ _ _ h1) h2
def allA (h : Hp) : List AV → Prop
  | [] => True
  | w :: r => oneA h w ∧ allA h r
theorem allA.mem : ∀ {l : List AV}, allA h l → ∀ w ∈ l, oneA h w
  | _ :: _, hh, w, hw => by
    rcases List.mem_cons.1 hw with rfl | hw
    · exact hh.1
    · exact allA.mem hh.2 w hw
theorem look_nil : Look1 h .nils (L ([] : List α)) := look_wk (look_v trivial) Wk_nil
theorem look_z0 : Look1 h .z0 (L ([] : List α)) := look_wk (look_v trivial) Wk_z0
theorem clr_len {γ : Type} {xs : List γ} {l k : Int} {z : γ} (hb : 0 ≤ l ∧ l ≤ k ∧ k ≤ xs.length) : xs.length = (clr xs l k z).length := by simp [clr]; omega

/-- A function may end without ret. -/
theorem TK.endK {Q : Post} {c : KC} (k : ∀ KE : Env → Hp → Prop, (∀ env h, TL P nt [] (fun env h => Q .normal env h) env h → KE env h) → TK P nt c (thenQ KE Q) env h) : TK P nt c Q env h := by
  intro c' hc μ a w s
  refine wp_mono (k _ (fun _ _ h => h) c' hc μ a w s) ?_
  rintro e a1 w1 ⟨μ1, env1, h1, q, s1, st1⟩
  cases e with
  | normal =>
    have q : TL P nt [] (fun env h => Q .normal env h) env1 h1 := q
    obtain ⟨μ2, env2, h2, q2, s2, st2⟩ := q [] rfl (fun p hp => by cases hp) μ1 a1 w1 s1
    exact ⟨μ2, env2, h2, q2, s2, st1.trans st2⟩
  | _ => exact ⟨μ1, env1, h1, q, s1, st1⟩
theorem TL.guardT {d : Option Nat} {g : Option (Nat × Bool)} {i : I} {ks : List KO} (hg : gcOf env g = some true) (hk : TL P nt (⟨d, none, i⟩ :: ks) K env h) : TL P nt (⟨d, g, i⟩ :: ks) K env h := by
  intro os hl hz μ a w hs
  cases os with
  | nil => simp at hl
  | cons o os =>
    have hgo := gc_ok hs hg
    have h1 := hk (o :: os) (by simpa using hl) (fun p hp => by
      simp only [List.zip_cons_cons, List.mem_cons] at hp
      rcases hp with rfl | hp
      · exact hz (o, ⟨d, g, i⟩) (by simp)
      · exact hz p (by simp [hp])) μ a w hs
    simp only [List.zip_cons_cons, wpK] at h1 ⊢
    cases g with
    | none => exact h1
    | some p =>
      obtain ⟨t, want⟩ := p
      simp only [GcSays] at hgo ⊢
      rw [hgo.1 (by trivial)]
      simp only [if_true]
      exact h1
theorem RetQ_end {ts : List Nat} {R : AV → Hp → Prop} (hh : RetQ ts R .ret env h) : RetQ ts R .normal env h := hh
theorem TL.keep (ts : List Nat) {ks : List KO} (k : TL P nt ks K (keepE ts env) h) : TL P nt ks K env h := TL.sub (keepE_sub ts env) k
end
end Go.AX

/- Lists of what may be nil: made, written out. -/
namespace Go.AX
open Go.AM Go.RowKit

section
variable {C : Cx} {P : Program} {nt : Nat} {env : Env} {h hS : Hp} {K : Env → Hp → Prop} {gc gx gy : Bool} {t : TypeId} {x y : X} {u : AV} {α β : Type} [Enc α] [Enc β]

theorem TL.rowW {ks : List KO} {b : Nat} {r r' : Row} (h1 : r'.ty = r.ty) (h2 : r'.m = r.m) (h3 : ∀ i, i < r.m → Wk (r.cells i) (r'.cells i)) (k : TL P nt ks K env ((b, r') :: h)) : TL P nt ks K env ((b, r) :: h) := by
  intro os hl hz μ a w s
  refine k os hl hz μ a w ⟨?_, s.env, s.size, s.defers⟩
  refine ⟨fun x q e => ?_, s.sim.inj, s.sim.lt, s.sim.vlt, s.sim.noban, s.sim.banlt⟩
  simp only [Hp.get] at e
  by_cases hx : b = x
  · subst hx
    rw [if_pos rfl] at e
    injection e with e
    subst e
    rcases s.sim.row b r (by simp [Hp.get]) with ⟨hv, hn, h0⟩ | ⟨B, cs, hnv, q1, q2, q3, q4, q5, q6⟩
    · exact .inl ⟨hv, hn, by rw [h2]; exact h0⟩
    · refine .inr ⟨B, cs, hnv, q1, by rw [h2]; exact q2, by rw [h1]; exact q3, q4, by rw [h2]; exact q5, fun i hi => ?_⟩
      obtain ⟨u, hu, hv⟩ := q6 i (by rw [← h2]; exact hi)
      exact ⟨u, hu, h3 i (by rw [← h2]; exact hi) _ _ _ hv⟩
  · rw [if_neg hx] at e
    exact s.sim.row x q (by simp only [Hp.get]; rw [if_neg hx]; exact e)

/-- make of a list of lists: each is nil, which is a list of nothing. -/
theorem TL.mkOn {d : Nat} {e : TypeId} {ei : TI} {q q' : IntKind} {n : Int} {ks : List KO} (nd : Nd h) (hk : C.kd t = some (.slc e)) (he : C.ty e = some ei) (hs : ei.sz = 1) (hz : ei.z 0 = .nils)
    (hx : ev env x = (true, .int q n)) (hy : ev env y = (true, .int q' n)) (hby : 0 < ei.by') (hn : 0 ≤ n ∧ n * ei.by' ≤ 281474976710656) (hd : Nat.ble (d + 1) nt = true)
    (rest : ∀ b, Nd ((b, RL e (List.replicate n.toNat ([] : List α))) :: h) → TL C.P nt ks K ((d, true, OL b (List.replicate n.toNat ([] : List α))) :: env) ((b, RL e (List.replicate n.toNat ([] : List α))) :: h)) : TL C.P nt (⟨some d, none, .mk t x y⟩ :: ks) K env h := by
  have hn2 : n ≤ n * ei.by' := by
    have h1 : n * 1 ≤ n * (ei.by' : Int) := Int.mul_le_mul_of_nonneg_left (by omega) hn.1
    omega
  refine TL.mk rfl rfl (dlt hd) hk he hx hy hn.1 hn.2 (by omega) fun b hb => ?_
  have := rest b (nd.cons _ hb)
  simp only [OL, RL, List.length_replicate] at this
  rw [hs]
  refine TL.rowW (r' := ⟨e, n.toNat * 1, rowL 1 ec (List.replicate n.toNat ([] : List α))⟩) rfl rfl (fun i hi => ?_) this
  have hi' : i < n.toNat := by simpa using hi
  simp only
  rw [rep_at (by rw [hs]; simpa using hi'), hs, Nat.mod_one, hz, rowL_split (by omega), List.getElem?_eq_getElem (by simpa using hi')]
  simp only [List.getElem_replicate, Nat.mod_one]
  exact Wk_nil

/-- The parts that are written are these lists; nil is a list of nothing. -/
def LitN (env : Env) : Nat → List (Nat × X) → List (List α) → Prop
  | _, [], [] => True
  | i, (k, x) :: r, a :: az => (k = i ∧ ∃ u, ev env x = (true, u) ∧ (u = Enc.v a ∨ (u = .nils ∧ a = []))) ∧ LitN env (i + 1) r az
  | _, _, _ => False
theorem litN_of : ∀ {ps : List (Nat × X)} {xs : List (List α)} {i : Nat}, LitN env i ps xs → ∃ l S, litA h env 1 i ps = some (l, S) ∧ S ∧ l.length = xs.length ∧ ∀ (k : Nat) (pc : Nat → AV), l[k]? = some pc → ∃ a, xs[k]? = some a ∧ Wk (pc 0) (L a)
  | [], [], _, _ => ⟨[], True, rfl, trivial, rfl, fun k pc hp => by simp at hp⟩
  | (k, x) :: r, a :: az, i, ⟨⟨hk, u, hx, hu⟩, hr⟩ => by
    obtain ⟨l, S, h1, h2, h3, h4⟩ := litN_of hr
    rcases hu with rfl | ⟨rfl, rfl⟩
    · obtain ⟨pc, S', h5, h6, h7, _⟩ := Cells_v (h := h) a
      refine ⟨pc :: l, (k = i ∧ (ev env x).1 = true ∧ S' ∧ (Enc.cl a).length = 1) ∧ S, by simp only [litA, hx, h5, h1], ⟨⟨hk, by rw [hx], h6, Enc.len a⟩, h2⟩, by simp [h3], fun k q hq => ?_⟩
      cases k with
      | zero =>
        simp only [List.getElem?_cons_zero, Option.some.injEq] at hq
        subst hq
        refine ⟨a, rfl, ?_⟩
        rw [h7 0 (by rw [Enc.len a]; exact Enc.pos)]
        exact Wk.refl _
      | succ k =>
        simp only [List.getElem?_cons_succ] at hq ⊢
        exact h4 k q hq
    · refine ⟨(fun _ => .nils) :: l, (k = i ∧ (ev env x).1 = true ∧ True ∧ 1 = 1) ∧ S, by simp only [litA, hx, cellsA, h1], ⟨⟨hk, by rw [hx], trivial, rfl⟩, h2⟩, by simp [h3], fun k q hq => ?_⟩
      cases k with
      | zero =>
        simp only [List.getElem?_cons_zero, Option.some.injEq] at hq
        subst hq
        exact ⟨[], rfl, Wk_nil⟩
      | succ k =>
        simp only [List.getElem?_cons_succ] at hq ⊢
        exact h4 k q hq
theorem Wk_sl {m n : Nat} {c c' : Nat → AV} (hc : ∀ i, i < m → Wk (c i) (c' i)) : Wk (.sl c m n) (.sl c' m n) := fun μ w v hv => by
  rcases hv with hv | ⟨a, cap, e, h1, h2, h3⟩
  · exact .inl hv
  · refine .inr ⟨a, cap, e, h1, h2, fun i hi => ?_⟩
    obtain ⟨u, hu, hv⟩ := h3 i hi
    exact ⟨u, hu, hc i hi _ _ _ hv⟩
theorem litN_L {l : List (Nat → AV)} {xs : List (List α)} (h3 : l.length = xs.length) (h4 : ∀ (k : Nat) (pc : Nat → AV), l[k]? = some pc → ∃ a, xs[k]? = some a ∧ Wk (pc 0) (L a)) : Wk (.sl (catC 1 l) (xs.length * 1) xs.length) (L xs) := by
  unfold L VS
  refine Wk_sl fun i hi => ?_
  have hi' : i < xs.length := by simpa using hi
  have hl : i < l.length := by omega
  obtain ⟨a, ha, hw⟩ := h4 i l[i] (List.getElem?_eq_getElem hl)
  have e1 : catC 1 l i = l[i] 0 := by
    simp [catC, hl, Nat.mod_one]
  show Wk (catC 1 l i) (rowL 1 ec xs i)
  rw [e1, rowL_split (by omega), Nat.div_one, ha, Nat.mod_one]
  exact hw
theorem TL.litN {d n : Nat} {ps : List (Nat × X)} {e : TypeId} {ei : TI} {ks : List KO} (xs : List (List α)) (hk : C.kd t = some (.slc e)) (he : C.ty e = some ei) (hs : ei.sz = 1) (hl : LitN env 0 ps xs) (hn : n = xs.length) (hlim : Nat.ble (n * 1) 16777216 = true) (hd : Nat.ble (d + 1) nt = true)
    (rest : TL C.P nt ks K ((d, true, L xs) :: env) h) : TL C.P nt (⟨some d, none, .bsl t n ps⟩ :: ks) K env h := by
  obtain ⟨l, S, h1, h2, h3, h4⟩ := litN_of (h := h) hl
  refine TL.bslv (gc := true) rfl rfl (dlt hd) hk he (by rw [hs]; exact Nat.le_of_ble_eq_true hlim) (by rw [hs]; exact h1) (fun _ => h2) (by rw [h3, hn]) ?_
  rw [hs]
  subst hn
  exact TL.wk (litN_L h3 h4) rest
theorem vok_litN {n : Nat} {ps : List (Nat × X)} {e : TypeId} {ei : TI} (xs : List (List α)) (hk : C.kd t = some (.slc e)) (he : C.ty e = some ei) (hs : ei.sz = 1) (hl : LitN env 0 ps xs) (hn : n = xs.length) (hlim : Nat.ble (n * 1) 16777216 = true) :
    gc = true → VOK C.P nt h env (.bsl t n ps) (L xs) := fun _ => by
  refine vok_new fun o μ a w ho s => ?_
  obtain ⟨l, S, h1, h2, h3, h4⟩ := litN_of (h := h) hl
  obtain ⟨out, hrun, o2, o3⟩ := bsl_run ho hk he (by rw [hs]; exact Nat.le_of_ble_eq_true hlim) (by rw [hs]; exact h1) h2 (by rw [h3, hn]) s
  refine ⟨_, _, hrun, ?_⟩
  have hb : Below w.heap.size w { w with heap := w.heap.push (.cells out e) } := below_push
  have st := Step.of_below s.sim.muok hb
  subst hn
  refine litN_L h3 h4 _ _ _ ?_
  rw [← hs]
  refine Or.inr ⟨_, _, rfl, Nat.le_refl _, fun _ => ⟨rfl, ?_⟩, fun j hj => ?_⟩
  · exact ⟨by simp, fun hban => Nat.lt_irrefl _ (s.sim.banlt _ hban), fun b B e hg => Nat.lt_irrefl _ (hg ▸ (s.sim.lt b B e).2)⟩
  · have hj' : j < out.size := by omega
    refine ⟨out.getD j undef, by simp [World.cell?, Array.getD, hj'], VR.mono st _ _ (o3 j hj)⟩
end
end Go.AX

/- Functions whose results lie in cells. -/
namespace Go.AX
open Go.AM Go.RowKit

/-- Where a result lies. -/
inductive RS where
  | t (n : Nat)
  | c (n : Nat) (ty : TypeId)
def RS.var : RS → ResultVar
  | .t n => .tmp n
  | .c n ty => .cell n ty
def RS.i : RS → I
  | .t n => .mv (.t n)
  | .c n ty => .ld ty (.t n)
def ResL (C : Cx) (h : Hp) (env : Env) : List RS → List AV → Prop
  | [], [] => True
  | r :: rs, v :: vs => PVok C h env r.i true v ∧ ResL C h env rs vs
  | _, _ => False
def oneV : List AV → AV
  | [v] => v
  | vs => .tup vs.length (ofL vs)
def RetC (C : Cx) (rs : List RS) (Q : AV → Hp → Prop) : Post
  | .normal, env, h => ∃ vs, ResL C h env rs vs ∧ Q (oneV vs) h
  | .ret, env, h => ∃ vs, ResL C h env rs vs ∧ Q (oneV vs) h
  | _, _, _ => False
structure BodyC (C : Cx) (f : FuncId) (nt : Nat) (rs : List RS) (k : KC) : Prop where
  enters : Enters C.P f
  body : ∃ fn c, C.P.funcs[f]? = some fn ∧ fn.body = some c ∧ cookC c = some k ∧ fn.ntmps = nt ∧ fn.results.toList = rs.map RS.var

section
variable {C : Cx} {nt : Nat} {env : Env} {h : Hp}

/-- One result. -/
theorem res_one {μ : Mu} {a : Act} {w : World} (s : SimA nt μ env h a w) {f : ResultVar → Sem Value} (hf1 : ∀ t, f (.tmp t) = Pure.pure (a.tmps.getD t undef)) (hf2 : ∀ t ty, f (.cell t ty) = do loadVar ty (← asAddr (a.tmps.getD t undef)))
    {r : RS} {v : AV} (hv : PVok C h env r.i true v) : ∃ c, (f r.var).run C.P w = .ok c w ∧ VR μ w v c := by
  obtain ⟨h1, h2⟩ := hv rfl
  cases r with
  | t n =>
    simp only [RS.i, pv] at h1 h2
    refine ⟨a.tmps.getD n undef, by rw [RS.var, hf1]; rfl, ?_⟩
    have := ev_ok (x := .t n) (o := .tmp n) rfl s.env h2
    rw [h1] at this
    exact this
  | c n ty =>
    simp only [RS.i, pv] at h1 h2
    have hx := ev_ok (x := .t n) (o := .tmp n) rfl s.env h2.1
    obtain ⟨c, h3, h4⟩ := loadA_ok s.sim hx h2.2
    rw [h1] at h4
    refine ⟨c, ?_, h4⟩
    rw [RS.var, hf2]
    have hp : ∃ p, a.tmps.getD n undef = .pointer (some p) := by
      have hx : VR μ w (ev env (.t n)).2 (a.tmps.getD n undef) := hx
      have h5 := h2.2
      unfold loadA at h5
      split at h5
      · exact h5.elim
      · split at h5
        · rename_i heq
          rw [heq] at hx
          obtain ⟨g, o, e, _⟩ := hx
          exact ⟨_, e⟩
        · rename_i b off st heq
          rw [heq] at hx
          split at h5
          · rename_i r hr
            obtain ⟨_, _, _, _, _, _, _, e, _⟩ := s.sim.ref (by unfold refOK; rw [hr]; exact h5.2.1) hx
            exact ⟨_, e⟩
          · exact h5.elim
        · exact h5.elim
    obtain ⟨p, hp⟩ := hp
    have h3 : (Instr.loadAt ty (a.tmps.getD n undef)).run C.P w = .ok c w := h3
    rw [hp] at h3 ⊢
    simpa [Instr.loadAt, Instr.sureAddr, asAddr] using h3

theorem res_list {μ : Mu} {a : Act} {w : World} (s : SimA nt μ env h a w) {f : ResultVar → Sem Value} (hf1 : ∀ t, f (.tmp t) = Pure.pure (a.tmps.getD t undef)) (hf2 : ∀ t ty, f (.cell t ty) = do loadVar ty (← asAddr (a.tmps.getD t undef))) :
    ∀ {rs : List RS} {vs : List AV}, ResL C h env rs vs → ∃ cs : List Value, ((rs.map RS.var).mapM f).run C.P w = .ok cs w ∧ cs.length = vs.length ∧ ∀ i, i < vs.length → VR μ w (ofL vs i) (cs.toArray.getD i undef)
  | [], [], _ => ⟨[], by simp, rfl, fun i hi => by simp at hi⟩
  | r :: rs, v :: vs, ⟨h1, h2⟩ => by
    obtain ⟨c, h3, h4⟩ := res_one s hf1 hf2 h1
    obtain ⟨cs, h5, h6, h7⟩ := res_list s hf1 hf2 h2
    refine ⟨c :: cs, ?_, by simp [h6], fun i hi => ?_⟩
    · simp only [List.map_cons, List.mapM_cons]
      rw [Sem.run_bind, h3]
      simp only [Result.andThen_ok]
      rw [Sem.run_bind, h5]
      rfl
    · cases i with
      | zero => exact h4
      | succ i =>
        have := h7 i (by simpa using hi)
        simpa [ofL, Array.getD] using this

theorem res_run {μ : Mu} {a : Act} {w : World} (s : SimA nt μ env h a w) {fn : Func} {rs : List RS} {vs : List AV} (hr : fn.results.toList = rs.map RS.var) (hv : ResL C h env rs vs) : ∃ c, (results fn a.tmps).run C.P w = .ok c w ∧ VR μ w (oneV vs) c := by
  have hr' : fn.results = (rs.map RS.var).toArray := by rw [← hr]
  obtain ⟨f, hf0, hf1, hf2⟩ : ∃ f : ResultVar → Sem Value, results fn a.tmps = (do let vs ← fn.results.mapM f; Pure.pure (if h : vs.size = 1 then vs[0] else .tuple vs)) ∧ (∀ t, f (.tmp t) = Pure.pure (a.tmps.getD t undef)) ∧ (∀ t ty, f (.cell t ty) = do loadVar ty (← asAddr (a.tmps.getD t undef))) :=
    ⟨_, rfl, fun t => rfl, fun t ty => rfl⟩
  rw [hf0, hr']
  have key : ∀ f : ResultVar → Sem Value, (∀ t, f (.tmp t) = Pure.pure (a.tmps.getD t undef)) → (∀ t ty, f (.cell t ty) = do loadVar ty (← asAddr (a.tmps.getD t undef))) →
      ∃ cs : List Value, (((rs.map RS.var).toArray).mapM f).run C.P w = .ok cs.toArray w ∧ cs.length = vs.length ∧ ∀ i, i < vs.length → VR μ w (ofL vs i) (cs.toArray.getD i undef) := by
    intro f hf1 hf2
    obtain ⟨cs, h1, h2, h3⟩ := res_list s hf1 hf2 hv
    refine ⟨cs, ?_, h2, h3⟩
    rw [Array.mapM_eq_mapM_toList, Sem.run_map]
    simp only [h1, Result.andThen_ok]
  obtain ⟨cs, h1, h2, h3⟩ := key f hf1 hf2
  refine ⟨if h : cs.toArray.size = 1 then cs.toArray[0] else .tuple cs.toArray, ?_, ?_⟩
  · rw [Sem.run_bind, h1]
    simp
  · match vs, h2, h3 with
    | [v], h2, h3 =>
      have hs : cs.toArray.size = 1 := by simpa using h2
      rw [dif_pos hs]
      have := h3 0 (by simp)
      simpa [ofL, Array.getD, hs, oneV] using this
    | [], h2, h3 =>
      rw [dif_neg (by simp at h2; simp [h2])]
      exact ⟨_, rfl, by simpa using h2, fun i hi => by simp at hi⟩
    | v1 :: v2 :: r, h2, h3 =>
      rw [dif_neg (by simp at h2 ⊢; omega)]
      exact ⟨_, rfl, by simpa using h2, fun i hi => h3 i hi⟩

/-- A FUNCTION OF VALUES, by its text. -/
theorem Fun.ofC {f : FuncId} {rs : List RS} {k : KC} (B : BodyC C f nt rs k) {args : List AV} {R : AV → Prop} (hn : args.length ≤ nt) (ha : ∀ x ∈ args, x.val)
    (hT : TK C.P nt k (RetC C rs fun r _ => R r ∧ r.val) (argsE 0 args) []) : Fun C.P f args R := by
  refine ⟨B.enters, fun μ w cargs hm hsz hargs => ?_⟩
  obtain ⟨fn, c, hf, hb, hc, hnt, hres⟩ := B.body
  let μ0 : Mu := { f := fun _ => none, nx := μ.nx, vir := fun _ => False, ban := fun g => μ.ban g ∨ ∃ b B, μ.f b = some B ∧ B.g = g }
  have hse : ∀ w' g, Sealed μ w' g → Sealed μ0 w' g := fun w' g hs => ⟨hs.1, fun hb => by
    rcases hb with hb | ⟨b, B, e, he⟩
    · exact hs.2.1 hb
    · exact hs.2.2 b B e he, fun b B e => by simp [μ0] at e⟩
  have hsim : Sim μ0 [] w := ⟨fun b r e => by simp [Hp.get] at e, fun _ _ _ _ e => by simp [μ0] at e, fun _ _ e => by simp [μ0] at e, fun _ e => e.elim, fun _ _ e => by simp [μ0] at e, fun g hg => by
    rcases hg with hg | ⟨b, B, e, rfl⟩
    · exact hm.2 g hg
    · exact hm.1 b B e⟩
  have hA : SimA nt μ0 (argsE 0 args) [] { tmps := cargs ++ Array.replicate (fn.ntmps - cargs.size) undef, defers := [] } w := by
    refine ⟨hsim, fun t g v e => ?_, by simp; omega, rfl⟩
    obtain ⟨rfl, _, h2, rfl⟩ := argsE_at args 0 t g v e
    refine ⟨fun _ => ?_, fun hh => by simp at hh⟩
    have ht : t < args.length := by omega
    have h3 : (cargs ++ Array.replicate (fn.ntmps - cargs.size) undef).getD t undef = cargs.getD t undef := by
      simp [Array.getD_eq_getD_getElem?, Array.getElem?_append, hsz, ht]
    simp only [Nat.sub_zero]
    rw [h3]
    exact VR.conv (hse w) _ _ (ha _ (by simp only [ofL]; rw [List.getD_eq_getElem?_getD, List.getElem?_eq_getElem ht]; exact List.getElem_mem ht)) (hargs t ht)
  have := hT c hc μ0 _ w hA
  refine calls_of_wp hf hb (wp_mono this ?_)
  rintro e a' w' ⟨μ', env', h', q, s', st⟩
  have fin : (∃ vs, ResL C h' env' rs vs ∧ R (oneV vs) ∧ (oneV vs).val) → a'.defers = [] ∧ ∃ v, (results fn a'.tmps).run C.P w' = .ok v w' ∧ ∃ c r, Ending.returned v = .returned c ∧ R r ∧ r.val ∧ VR μ w' r c ∧ Below w.heap.size w w' := by
    rintro ⟨vs, h1, h2, hv⟩
    obtain ⟨c, hc1, hc2⟩ := res_run s' hres h1
    refine ⟨s'.defers, c, hc1, c, _, rfl, h2, hv, ?_, ?_⟩
    · refine VR.conv (fun g hg => ?_) _ _ hv hc2
      refine ⟨hg.1, fun hb => hg.2.1 ((st.ban g).2 (.inl hb)), fun b B e he => hg.2.1 ((st.ban g).2 (.inr ⟨b, B, e, he⟩))⟩
    · exact ⟨st.os, st.tape, st.output, st.size, fun g hg => st.keep g hg (by
        by_cases hb : μ0.ban g
        · exact .inl hb
        · exact .inr ⟨hg, hb, fun b B e => by simp [μ0] at e⟩)⟩
  cases e with
  | normal => exact fin q
  | ret => exact fin q
  | _ => exact q.elim

/-- A FUNCTION THAT TURNS OWN ROWS, by its text. -/
theorem TC.ofC {f : FuncId} {rs : List RS} {k : KC} (B : BodyC C f nt rs k) {args : List AV} {Q : AV → Hp → Prop} (hn : args.length ≤ nt)
    (hT : TK C.P nt k (RetC C rs Q) (argsE 0 args) h) : TC C.P f args h Q := by
  refine ⟨B.enters, fun μ w cargs hs hsz hargs => ?_⟩
  obtain ⟨fn, c, hf, hb, hc, hnt, hres⟩ := B.body
  have hA : SimA nt μ (argsE 0 args) h { tmps := cargs ++ Array.replicate (fn.ntmps - cargs.size) undef, defers := [] } w := by
    refine ⟨hs, fun t g v e => ?_, by simp; omega, rfl⟩
    obtain ⟨rfl, _, h2, rfl⟩ := argsE_at args 0 t g v e
    refine ⟨fun _ => ?_, fun hh => by simp at hh⟩
    have ht : t < args.length := by omega
    have h3 : (cargs ++ Array.replicate (fn.ntmps - cargs.size) undef).getD t undef = cargs.getD t undef := by
      simp [Array.getD_eq_getD_getElem?, Array.getElem?_append, hsz, ht]
    simp only [Nat.sub_zero]
    rw [h3]
    exact hargs t ht
  refine calls_of_wp hf hb (wp_mono (hT c hc μ _ w hA) ?_)
  rintro e a' w' ⟨μ', env', h', q, s', st⟩
  have fin : (∃ vs, ResL C h' env' rs vs ∧ Q (oneV vs) h') → a'.defers = [] ∧ ∃ v, (results fn a'.tmps).run C.P w' = .ok v w' ∧ ∃ c r μ' h', Ending.returned v = .returned c ∧ Q r h' ∧ VR μ' w' r c ∧ Sim μ' h' w' ∧ Step μ w μ' w' := by
    rintro ⟨vs, h1, h2⟩
    obtain ⟨c, hc1, hc2⟩ := res_run s' hres h1
    exact ⟨s'.defers, c, hc1, c, _, μ', h', rfl, h2, hc2, s'.sim, st⟩
  cases e with
  | normal => exact fin q
  | ret => exact fin q
  | _ => exact q.elim
theorem TCX.ofC {f : FuncId} {rs : List RS} {k : KC} (B : BodyC C f nt rs k) {args : List AV} {Q : AV → Hp → Prop} (hn : args.length ≤ nt)
    (hT : TK C.P nt k (RetC C rs fun r h' => Q r h' ∧ Nd h' ∧ inH h' r ∧ clH h') (argsE 0 args) h) : TCX C.P f args h Q := TC.ofC B hn hT

/-- How it comes back. -/
theorem retC {rs : List RS} {R : AV → Prop} (vs : List AV) (hv : ResL C h env rs vs) (hR : R (oneV vs)) (hval : (oneV vs).val) : RetC C rs (fun r _ => R r ∧ r.val) .ret env h := ⟨vs, hv, hR, hval⟩
theorem retXC {rs : List RS} {R : AV → Hp → Prop} (vs : List AV) (hv : ResL C h env rs vs) (hR : R (oneV vs) h) (nd : Nd h) (hin : inH h (oneV vs)) (hcl : rowsIn h h) : RetC C rs (fun r h' => R r h' ∧ Nd h' ∧ inH h' r ∧ clH h') .ret env h :=
  ⟨vs, hv, hR, nd, hin, clH_of hcl⟩
theorem RetC_end {rs : List RS} {R : AV → Hp → Prop} (hh : RetC C rs R .ret env h) : RetC C rs R .normal env h := hh
/-- nil where a list of nothing is asked. -/
theorem Fun.wk {P : Program} {f : FuncId} {args args' : List AV} {R : AV → Prop} (hw : WkL args args') (hf : Fun P f args' R) : Fun P f args R := by
  refine ⟨hf.enters, fun μ w cargs hm hsz hargs => ?_⟩
  have hl := hw.len
  refine hf.calls μ w cargs hm (by omega) fun i hi => ?_
  exact WkL.at hw i μ w _ (hargs i (by omega))
end
end Go.AX

/- Rows taken over inside a region. -/
namespace Go.AX
open Go.AM Go.RowKit

section
variable {P : Program} {nt : Nat} {env : Env} {h : Hp} {K : Env → Hp → Prop} {α : Type} [Enc α]

theorem TL.own0 {ks : List KO} (t : Nat) (ty : TypeId) (sz : Nat) (cells : Nat → AV) {v : AV} (hl : lk env t = some (true, v)) (hv : v = .nils ∨ v = .z0)
    (k : ∀ b, h.get b = none → TL P nt ks K ((t, true, .rs b 0 0 0 sz) :: env) ((b, ⟨ty, 0, cells⟩) :: h)) : TL P nt ks K env h := by
  intro os ho hz μ a w s
  obtain ⟨μ', s', st, hn, hnx, hf⟩ := s.sim.own ⟨ty, 0, cells⟩ rfl
  have hvv := (s.env t true v hl).1 rfl
  have hx : ∃ x, a.tmps.getD t undef = .slice x 0 0 := by
    rcases hv with rfl | rfl
    · exact ⟨none, hvv⟩
    · exact hvv
  have := k μ.nx hn os ho hz μ' a w ⟨s', fun t' g v' e => ?_, s.size, s.defers⟩
  · refine TL.cons.wpK_mono ?_ _ _ _ this
    rintro a' w' ⟨μ2, env2, h2, q, s2, st2⟩
    exact ⟨μ2, env2, h2, q, s2, st.trans st2⟩
  · simp only [lk] at e
    by_cases ht : t = t'
    · rw [if_pos ht] at e
      simp only [Option.some.injEq, Prod.mk.injEq] at e
      obtain ⟨rfl, rfl⟩ := e
      subst ht
      exact ⟨fun _ => ⟨by omega, by simp, fun _ => ⟨rfl, rfl, hx⟩, fun B e => by rw [hf] at e; cases e⟩, fun hh => by cases hh⟩
    · rw [if_neg ht] at e
      exact (s.env.mono st) t' g v' e

theorem TL.ownL {ks : List KO} (t : Nat) (ty : TypeId) {v : AV} (nd : Nd h) (hl : lk env t = some (true, v)) (hv : v = .nils ∨ v = .z0)
    (k : ∀ b, Nd ((b, RL ty ([] : List α)) :: h) → TL P nt ks K ((t, true, OL b ([] : List α)) :: env) ((b, RL ty ([] : List α)) :: h)) : TL P nt ks K env h :=
  TL.own0 t ty (Enc.sz α) (rowL (Enc.sz α) ec ([] : List α)) hl hv fun b hb => by
    have := k b (nd.cons _ hb)
    simpa [OL, RL] using this

theorem TL.ownH {ks : List KO} (b j : Nat) (ty : TypeId) (sz : Nat) (cells : Nat → AV) {r : Row} (hb : h.get b = some r) (hj : r.cells j = .nils ∨ r.cells j = .z0) (cells' : Nat → Nat → AV)
    (hc' : ∀ b', cells' b' j = .rs b' 0 0 0 sz ∧ ∀ i, i ≠ j → i < r.m → cells' b' i = r.cells i)
    (k : ∀ b', h.get b' = none → TL P nt ks K env ((b', ⟨ty, 0, cells⟩) :: h.upd b { r with cells := cells' b' })) : TL P nt ks K env h := by
  intro os ho hz μ a w s
  obtain ⟨μ', s', st, hn, hnx, hf⟩ := s.sim.own ⟨ty, 0, cells⟩ rfl
  have hne : μ.nx ≠ b := by rintro rfl; rw [hb] at hn; cases hn
  have s2 : Sim μ' ((μ.nx, ⟨ty, 0, cells⟩) :: h.upd b { r with cells := cells' μ.nx }) w := by
    refine ⟨fun x q e => ?_, s'.inj, s'.lt, s'.vlt, s'.noban, s'.banlt⟩
    simp only [Hp.get] at e
    by_cases hx : μ.nx = x
    · rw [if_pos hx] at e
      exact s'.row x q (by simp only [Hp.get]; rw [if_pos hx]; exact e)
    · rw [if_neg hx, Hp.get_upd] at e
      by_cases hxb : x = b
      · subst hxb
        rw [if_pos rfl, hb] at e
        simp only [Option.map_some, Option.some.injEq] at e
        subst e
        rcases s'.row x r (by simp only [Hp.get]; rw [if_neg hx]; exact hb) with h1 | ⟨B, cs, hnv, h1, h2, h3, h4, h5, h6⟩
        · exact .inl h1
        · refine .inr ⟨B, cs, hnv, h1, h2, h3, h4, h5, fun i hi => ?_⟩
          obtain ⟨u, hu, hv⟩ := h6 i hi
          refine ⟨u, hu, ?_⟩
          by_cases hij : i = j
          · subst hij
            have hx : ∃ x, u = .slice x 0 0 := by
              rcases hj with hj | hj <;> rw [hj] at hv
              · exact ⟨none, hv⟩
              · exact hv
            simp only [(hc' μ.nx).1]
            exact ⟨by omega, by simp, fun _ => ⟨rfl, rfl, hx⟩, fun B e => by rw [hf] at e; cases e⟩
          · simp only [(hc' μ.nx).2 i hij hi]
            exact hv
      · rw [if_neg hxb] at e
        exact s'.row x q (by simp only [Hp.get]; rw [if_neg hx]; exact e)
  have := k μ.nx hn os ho hz μ' a w ⟨s2, s.env.mono st, s.size, s.defers⟩
  refine TL.cons.wpK_mono ?_ _ _ _ this
  rintro a' w' ⟨μ2, env2, h2, q, s3, st3⟩
  exact ⟨μ2, env2, h2, q, s3, st.trans st3⟩

theorem TL.cut {ks : List KO} (t : Nat) {b len sz st : Nat} {r : Row} (hl : lk env t = some (true, .rs b 0 len st sz)) (hb : h.get b = some r) (hst : st = r.m) (hm : len * sz ≤ r.m) (cells : Nat → AV) (hcl : ∀ i, i < len * sz → cells i = r.cells i)
    (k : ∀ b', h.get b' = none → TL P nt ks K (cvE t (.rs b' 0 len (len * sz) sz) env) ((b', ⟨r.ty, len * sz, cells⟩) :: h.del b)) : TL P nt ks K env h := by
  intro os ho hz μ a w s
  obtain ⟨μ', s', st', hnx, hgn, hor, hVR⟩ := s.sim.cut hb hm cells hcl
  have hvv := (s.env t true _ hl).1 rfl
  have := k μ.nx hgn os ho hz μ' a w ⟨s', fun t' g v' e => ?_, s.size, s.defers⟩
  · refine TL.cons.wpK_mono ?_ _ _ _ this
    rintro a' w' ⟨μ2, env2, h2, q, s2, st2⟩
    exact ⟨μ2, env2, h2, q, s2, st'.trans st2⟩
  · rcases cvE_lk hl e with ⟨rfl, rfl, rfl⟩ | ⟨_, h2⟩
    · refine ⟨fun _ => ?_, fun hh => by cases hh⟩
      rcases s.sim.rs (by unfold refOK; rw [hb]; exact hst) hvv with ⟨_, x, _, _, _, hl0, _, hvir, hno, hx⟩ | ⟨r', B, cs, cap, hr', _, hB, hL, hex, hcap, hlen, _⟩
      · rcases hor with ⟨_, hv', hf', _⟩ | ⟨B, hB, hnv, _⟩
        · subst hl0
          exact ⟨by omega, by simp, fun _ => ⟨by simp, rfl, x, hx⟩, fun B e => by rw [hf'] at e; cases e⟩
        · exact (hnv hvir).elim
      · rcases hor with ⟨hv, _⟩ | ⟨B', hB', hnv, hL', hnv', hf'⟩
        · exact (hvv.2.2.1 hv |> fun _ => by
            rcases s.sim.row b r hb with ⟨_, hn, _⟩ | ⟨_, _, hnv, _⟩
            · rw [hn] at hB; cases hB
            · exact (hnv hv).elim)
        · rw [hB] at hB'
          injection hB' with hB'
          subst hB'
          refine ⟨by omega, by omega, fun hh => (hnv' hh).elim, fun D e => ?_⟩
          rw [hf'] at e
          injection e with e
          subst e
          exact ⟨Nat.le_refl _, fun _ => ⟨cap, hex, hcap⟩⟩
    · exact (s.env.mono st') t' g v' h2

theorem TL.ownC {ks : List KO} (nd : Nd h) {j b : Nat} {ty : TypeId} {l : List AV} (hj : h[j]? = some (b, RV ty l)) (o : Nat) (e : TypeId) (ho : l[o]? = some .nils ∨ l[o]? = some .z0)
    (k : ∀ b', Nd ((b', RL e ([] : List α)) :: h.set j (b, RV ty (l.set o (OL b' ([] : List α))))) → TL P nt ks K env ((b', RL e ([] : List α)) :: h.set j (b, RV ty (l.set o (OL b' ([] : List α)))))) : TL P nt ks K env h := by
  have hr := nd.get hj
  have hlt : o < l.length := by rcases ho with ho | ho <;> exact (List.getElem?_eq_some_iff.1 ho).1
  refine TL.ownH b o e (Enc.sz α) (rowL (Enc.sz α) ec ([] : List α)) hr ?_ (fun b' => ofL (l.set o (.rs b' 0 0 0 (Enc.sz α)))) (fun b' => ⟨?_, fun i hi hm => ?_⟩) fun b' hb' => ?_
  · rcases ho with ho | ho
    · left; simp [RV, ofL, List.getD_eq_getElem?_getD, ho]
    · right; simp [RV, ofL, List.getD_eq_getElem?_getD, ho]
  · simp only [ofL, List.getD_eq_getElem?_getD]
    rw [List.getElem?_set_self hlt]; rfl
  · simp only [RV, ofL, List.getD_eq_getElem?_getD]
    rw [List.getElem?_set_ne (fun e => hi e.symm)]
  · obtain ⟨hu, nd'⟩ := nd.upd (r' := RV ty (l.set o (OL b' ([] : List α)))) hj
    have hb2 : Hp.get (h.set j (b, RV ty (l.set o (OL b' ([] : List α))))) b' = none := by
      rw [← hu, Hp.get_upd]
      by_cases hx : b' = b
      · subst hx; rw [hr] at hb'; cases hb'
      · rw [if_neg hx]; exact hb'
    have := k b' (nd'.cons _ hb2)
    rw [← hu] at this
    have e1 : ({ RV ty l with cells := ofL (l.set o (.rs b' 0 0 0 (Enc.sz α))) } : Row) = RV ty (l.set o (OL b' ([] : List α))) := by
      simp [RV, OL]
    rw [e1]
    have e2 : (⟨e, 0, rowL (Enc.sz α) ec ([] : List α)⟩ : Row) = RL e ([] : List α) := by simp [RL]
    rw [e2]
    exact this

theorem TL.cutX {ks : List KO} (t : Nat) (nd : Nd h) {j b : Nat} {e : TypeId} {xs : List α} {k : Int} (hj : h[j]? = some (b, RL e xs)) (hl : lk env t = some (true, OS b xs 0 k)) (hb : 0 ≤ k ∧ k ≤ xs.length)
    (KK : ∀ b', Nd ((b', RL e (slc xs 0 k)) :: h.eraseIdx j) → TL P nt ks K (cvE t (OL b' (slc xs 0 k)) env) ((b', RL e (slc xs 0 k)) :: h.eraseIdx j)) : TL P nt ks K env h := by
  have hr := nd.get hj
  have hlen : (slc xs 0 k).length = k.toNat := by simp [slc]; omega
  have hfit : k.toNat * Enc.sz α ≤ xs.length * Enc.sz α := Nat.mul_le_mul_right _ (by omega)
  refine TL.cut (len := k.toNat) (sz := Enc.sz α) (st := xs.length * Enc.sz α) t (by rw [hl]; simp [OS]) hr rfl hfit (rowL (Enc.sz α) ec (slc xs 0 k)) (fun i hi => ?_) fun b' hb' => ?_
  · show _ = rowL (Enc.sz α) ec xs i
    rw [rowL_split Enc.pos, rowL_split Enc.pos]
    have hq : i / Enc.sz α < k.toNat := Nat.div_lt_of_lt_mul (by rw [Nat.mul_comm]; exact hi)
    have : (slc xs 0 k)[i / Enc.sz α]? = xs[i / Enc.sz α]? := by
      simp only [slc, Int.toNat_zero, List.drop_zero, Int.sub_zero]
      rw [List.getElem?_take, if_pos hq]
    rw [this]
  · have hsub : ∀ x q, Hp.get ((b', RL e (slc xs 0 k)) :: h.eraseIdx j) x = some q → Hp.get ((b', (⟨(RL e xs).ty, k.toNat * Enc.sz α, rowL (Enc.sz α) ec (slc xs 0 k)⟩ : Row)) :: h.del b) x = some q := by
      intro x q e'
      simp only [Hp.get] at e' ⊢
      by_cases hx : b' = x
      · rw [if_pos hx] at e' ⊢
        rw [← e']
        simp only [RL, hlen]
      · rw [if_neg hx] at e' ⊢
        obtain ⟨h1, h2⟩ := get_erase nd hj e'
        rw [Hp.get_del, if_neg h1]; exact h2
    have hb2 : Hp.get (h.eraseIdx j) b' = none := by
      cases hq : Hp.get (h.eraseIdx j) b' with
      | none => rfl
      | some q => have := (get_erase nd hj hq).2; rw [hb'] at this; cases this
    have := KK b' ((nd.erase j).cons _ hb2)
    have e1 : OL b' (slc xs 0 k) = .rs b' 0 k.toNat (k.toNat * Enc.sz α) (Enc.sz α) := by unfold OL; rw [hlen]
    rw [e1] at this
    exact TL.subH hsub this

end
end Go.AX

/- Strings and bytes. -/
namespace Go.AX
open Go.AM Go.RowKit

section
variable {C : Cx} {P : Program} {nt : Nat} {env : Env} {h hS : Hp} {K : Env → Hp → Prop} {gc gx gy : Bool} {t : TypeId} {x y : X} {u : AV} {α β : Type} [Enc α] [Enc β]

theorem TL.ofV {d : Nat} {g : Option (Nat × Bool)} {i : I} {v : AV} {ks : List KO} (hv : gc = true → VOK P nt h env i v) (hg : gcOf env g = some gc) (hd : Nat.ble (d + 1) nt = true)
    (rest : TL P nt ks K ((d, gc, v) :: env) h) : TL P nt (⟨some d, g, i⟩ :: ks) K env h := by
  have hd' : ∀ x, some d = some x → x < nt := dlt hd
  refine TL.cons (gc := gc) hg ?_ (fun e => ⟨hd', by subst e; exact TL.under rest⟩)
  intro o μ a w ho hdst s hgc N hN
  refine hv hgc o μ a w ho s N fun c w' h1 hb => ?_
  have st := Step.of_below s.sim.muok hb
  have s' : SimA nt μ env h a w' := ⟨s.sim.below hb, s.env.mono st, s.size, s.defers⟩
  rw [hdst]
  subst hgc
  exact hN μ _ h _ w' (s'.put hd' (fun _ => h1) (fun e => by simp at e)) st rest

theorem cvt_op {o : Oper} {s t : TypeId} {x : X} (ho : cookOp o.op = some (.cvt s t x)) : ∃ ox, o.op = .convert s t ox ∧ cookX ox = some x := by
  unfold cookOp at ho
  split at ho <;> (try (simp at ho; done)) <;> (try (split at ho <;> simp at ho <;> done))
  rename_i s' t' x' e
  obtain ⟨y, hy, e2⟩ := Option.map_eq_some_iff.1 ho
  simp only [I.cvt.injEq] at e2
  obtain ⟨rfl, rfl, rfl⟩ := e2
  exact ⟨_, e, hy⟩

theorem run_bytes {P : Program} {w : World} : ∀ (bs : List UInt8) (s : ByteArray) (f : Value → ByteArray → Sem (ForInStep ByteArray)), (∀ b r, f (.int .u8 (b.toNat : Int)) r = Pure.pure (ForInStep.yield (r.push (UInt8.ofNat (b : UInt8).toNat)))) →
    (forIn (bs.map fun b => Value.int .u8 (b.toNat : Int)) s f : Sem ByteArray).run P w = .ok ⟨s.data ++ bs.toArray⟩ w
  | [], s, f, _ => by simp
  | b :: bs, s, f, hf => by
    simp only [List.map_cons, List.forIn_cons]
    rw [hf, Sem.run_bind]
    simp only [Sem.run_pure, Result.andThen_ok]
    rw [run_bytes bs _ f hf]
    congr 1
    simp [ByteArray.push]

theorem vok_cvtBS {s e : TypeId} {xs : List UInt8} (hs : C.kd s = some (.slc e)) (he : C.kd e = some (.int .u8)) (ht : C.kd t = some .str) (hx : ev env x = (gx, u)) (hl : Look1 h u (L xs)) (hg : gc = true → gx = true := by first | exact fun _ => rfl | simp_all) :
    gc = true → VOK C.P nt h env (.cvt s t x) (.str (Str.mk xs).ba) := fun hgc => by
  intro o μ a w ho sa N hN
  obtain ⟨ox, hop, hcx⟩ := cvt_op ho
  have vx := ev_ok hcx sa.env (by rw [hx]; exact hg hgc)
  rw [hx] at vx
  have vx := hl μ w _ sa.sim vx
  obtain ⟨_, _, _, hKs⟩ := kd_ok hs
  obtain ⟨_, _, _, hKe⟩ := kd_ok he
  obtain ⟨_, _, _, hKt⟩ := kd_ok ht
  have key : (convert s t (a.eval ox)).run C.P w = .ok (.string (Str.mk xs).ba) w := by
    generalize a.eval ox = c at vx
    have vx : VR μ.flat w (.sl (rowL 1 ec xs) (xs.length * 1) xs.length) c := vx
    rcases vx with ⟨h0, h1, rfl⟩ | ⟨ad, cap, rfl, h1, h2, h3⟩
    · obtain rfl : xs = [] := List.length_eq_zero_iff.1 h0
      simp [convert, run_und hKs, run_und hKt, run_und hKe, Conv.bytesToString]
      rfl
    · have hc : ∀ i, i < xs.length → w.cell? (ad.add i) = some (.int .u8 ((xs.getD i 0).toNat : Int)) := by
        intro i hi
        obtain ⟨q, hq, hv⟩ := h3 i (by omega)
        have hsp := (h2 (by omega)).1
        obtain ⟨ab, ao, az⟩ := ad
        have hsp : az = none := hsp
        subst hsp
        rw [add_at, hq]
        have hv : VR μ.flat w (rowL 1 ec xs i) q := hv
        rw [rowL_split (by omega), Nat.div_one, List.getElem?_eq_getElem hi, Nat.mod_one] at hv
        have hv : q = .int .u8 ((xs[i]).toNat : Int) := hv
        rw [hv]
        simp [List.getD_eq_getElem?_getD, hi]
      have hload := run_loadCells (P := C.P) w ad xs.length (fun i => .int .u8 ((xs.getD i 0).toNat : Int)) hc
      have hm : ((List.range xs.length).map fun i => Value.int .u8 ((xs.getD i 0).toNat : Int)) = xs.map fun b => Value.int .u8 (b.toNat : Int) := by
        apply List.ext_getElem
        · simp
        · intro i h1 h2
          simp at h1
          simp [List.getD_eq_getElem?_getD, h1]
      rw [hm] at hload
      simp only [convert, Sem.run_bind, run_und hKs, run_und hKt, run_und hKe, Result.andThen_ok, Conv.bytesToString, hload]
      rw [List.forIn_toArray, run_bytes xs ByteArray.empty _ (fun b r => by simp)]
      simp [Str.ba]
  unfold Oper.wp
  have : (execOp a.eval o).run C.P w = .ok (.value (.string (Str.mk xs).ba)) w := by
    simp [execOp, hop, key]
  rw [this]
  exact hN _ w rfl (Below.refl _ _)
end
end Go.AX

/- append of zeros. -/
namespace Go.AX
open Go.AM Go.RowKit

section
variable {C : Cx} {P : Program} {nt : Nat} {env : Env} {h hS : Hp} {K : Env → Hp → Prop} {gc gx gy : Bool} {t : TypeId} {x y : X} {u : AV} {α β : Type} [Enc α] [Enc β]

theorem zeroV_ok {μ : Mu} {w : World} {e : TypeId} {ei : TI} {n : Nat} (he : C.ty e = some ei) : ∀ j, j < n * ei.sz → VR μ w (rep ei n j) ((Builtin.zeroCells ei.zv.cells n).getD j undef) := by
  intro j hj
  have hz := (C.ok e ei he).2.2
  have hpos : 0 < ei.sz := by
    rcases Nat.eq_zero_or_pos ei.sz with h0 | h0
    · rw [h0] at hj; simp at hj
    · exact h0
  have hlt2 : j % ei.sz < ei.sz := Nat.mod_lt _ hpos
  have : (Builtin.zeroCells ei.zv.cells n).getD j undef = ei.zv.cells.getD (j % ei.sz) undef := by simp [Builtin.zeroCells, Array.getD, hz, hj, hlt2]
  rw [this, rep_at hj]
  exact cAV_ok μ w _
theorem fit48 {a n by' : Nat} (h1 : n ≤ a) (h2 : a * by' ≤ 140737488355328) : n * by' ≤ 281474976710656 := by
  have := Nat.mul_le_mul_right by' h1
  omega

theorem run_app_newZ {t t' ty e : TypeId} {k : IntKind} {i : TypeInfo} {z : Value} (ht : C.P.underlying t = some (.slice e)) (ht' : C.P.underlying t' = some (.int k)) (hi : C.P.info? e = some i) (hz : i.zero = some z) (hzs : z.cells.size = i.size)
    {w : World} {s : Value} {sl sc n : Nat} {ad : Option Addr} {old : Array Value} (hs : s = .slice ad sl sc) (hold : (Builtin.firstCells i.size sl s).run C.P w.drew = .ok old w.drew)
    (hg : sc < sl + n) (h63 : ((sl + n : Nat) : Int) ≤ 9223372036854775807) (hb : n * i.bytes ≤ 281474976710656) (hfit : Builtin.nextslicecap (sl + n) sc * i.bytes ≤ 281474976710656) :
    (Builtin.append_ #[t, t'] ty #[s, .int k (n : Int)]).run C.P w = .ok (.slice (some ⟨w.heap.size, 0, none⟩) (sl + n) (grownCap w (sl + n) sc e))
      (w.drew.alloc (.cells (old ++ Builtin.zeroCells z.cells n ++ Builtin.zeroCells z.cells (grownCap w (sl + n) sc e - (sl + n))) e)) := by
  have hn : ¬ (sl + n ≤ sc) := by omega
  have h63' : ¬ (9223372036854775807 < ((sl : Int) + (n : Int))) := by omega
  have h48' : ¬ (281474976710656 < Builtin.nextslicecap (sl + n) sc * i.bytes) := by omega
  have hw : IntKind.i64.wrap (n : Int) = n := by rw [w64 (by omega) (by omega)]
  have hb' : ¬ ((281474976710656 : Int) < (n : Int) * (i.bytes : Int)) := by
    have : ((n * i.bytes : Nat) : Int) ≤ 281474976710656 := by omega
    rw [Int.natCast_mul] at this; omega
  have hneg : ¬ ((n : Int) < 0) := by omega
  subst hs
  by_cases h0 : n * i.size = 0
  · have e0 : Builtin.zeroCells z.cells n = #[] := Array.eq_empty_of_size_eq_zero (by rw [size_zeroCells, hzs]; exact h0)
    simp [Builtin.append_, run_und ht, run_und ht', sizeOf, typeInfo, zeroValue, asIntOf, hi, hz, hn, h63', h48', hw, hb', hneg, Question.forced, hold, newRow, grownCap, e0, asInt]
  · simp [Builtin.append_, run_und ht, run_und ht', sizeOf, typeInfo, zeroValue, asIntOf, hi, hz, hn, h63', h48', hw, hb', hneg, h0, Question.forced, hold, newRow, grownCap, asInt]
theorem run_app_roomZ {t t' ty e : TypeId} {k : IntKind} {i : TypeInfo} {z : Value} (ht : C.P.underlying t = some (.slice e)) (ht' : C.P.underlying t' = some (.int k)) (hi : C.P.info? e = some i) (hz : i.zero = some z) (hzs : z.cells.size = i.size)
    {w : World} {sl sc n g : Nat} {cur : Array Value} (hcur : w.heap[g]? = some (.cells cur e (0, 0))) (h1 : ∀ v ∈ (Builtin.zeroCells z.cells n).toList, v.oneCell' = true)
    (hroom : sl + n ≤ sc) (hfit : sl * i.size + (Builtin.zeroCells z.cells n).size ≤ cur.size) (h63 : (n : Int) ≤ 9223372036854775807) (hb : n * i.bytes ≤ 281474976710656) :
    (Builtin.append_ #[t, t'] ty #[.slice (some ⟨g, 0, none⟩) sl sc, .int k (n : Int)]).run C.P w = .ok (.slice (some ⟨g, 0, none⟩) (sl + n) sc)
      (w.setRow g (cur.toList.take (sl * i.size) ++ (Builtin.zeroCells z.cells n).toList ++ cur.toList.drop (sl * i.size + (Builtin.zeroCells z.cells n).toList.length)).toArray) := by
  have hw : IntKind.i64.wrap (n : Int) = n := by rw [w64 (by omega) (by omega)]
  have hb' : ¬ ((281474976710656 : Int) < (n : Int) * (i.bytes : Int)) := by
    have : ((n * i.bytes : Nat) : Int) ≤ 281474976710656 := by omega
    rw [Int.natCast_mul] at this; omega
  have hneg : ¬ ((n : Int) < 0) := by omega
  have hst := run_storeCells_at C.P g (sl * i.size) e (Builtin.zeroCells z.cells n).toList 0 cur w hcur (by simpa using hfit) h1
  simp only [Nat.add_zero] at hst
  by_cases h0 : n * i.size = 0
  · have e0 : Builtin.zeroCells z.cells n = #[] := Array.eq_empty_of_size_eq_zero (by rw [size_zeroCells, hzs]; exact h0)
    rw [e0] at hst
    simp [Builtin.append_, run_und ht, run_und ht', sizeOf, typeInfo, zeroValue, asIntOf, hi, hz, hw, hb', hneg, asInt, hroom, add_at, e0] at hst ⊢
    rw [hst]
    rfl
  · simp [Builtin.append_, run_und ht, run_und ht', sizeOf, typeInfo, zeroValue, asIntOf, hi, hz, hw, hb', hneg, h0, asInt, hroom, add_at]
    rw [hst]
    simp
theorem run_app_noneZ {t t' ty e : TypeId} {k : IntKind} {i : TypeInfo} {z : Value} {w : World} (ht : C.P.underlying t = some (.slice e)) (ht' : C.P.underlying t' = some (.int k)) (hi : C.P.info? e = some i) (_ : i.zero = some z) (ad : Option Addr) :
    (Builtin.append_ #[t, t'] ty #[.slice ad 0 0, .int k ((0 : Nat) : Int)]).run C.P w = .ok (.slice ad 0 0) w := by
  have hw : IntKind.i64.wrap (0 : Int) = 0 := by decide
  cases ad <;> simp [Builtin.append_, run_und ht, run_und ht', sizeOf, typeInfo, hi, asInt, asIntOf, hw, storeCells]

theorem app_wpZ {P' : Program} (hPC : P' = C.P) {ks : List KO} {o : Oper} {d : Option Nat} {μ : Mu} {a : Act} {w : World} {t t' e : TypeId} {ei : TI} {k : IntKind} {ox oy : Operand} {b len n : Nat} {r : Row}
    (s : SimA nt μ env h a w) (hop : o.op = .call { callee := .builtin .append, args := #[ox, oy], argTypes := #[t, t'] }) (hdst : o.dst = d)
    (hd : ∀ x, d = some x → x < nt) (ht : C.kd t = some (.slc e)) (ht' : C.kd t' = some (.int k)) (he : C.ty e = some ei) (vx : VR μ w (.rs b 0 len r.m ei.sz) (a.eval ox)) (hr : h.get b = some r) (hty : r.ty = e)
    (htip : len * ei.sz = r.m) (vy : a.eval oy = .int k (n : Int)) (hsz : 0 < ei.sz) (hby : 0 < ei.by') (hlim : (len + n) * ei.by' ≤ 140737488355328)
    (h1 : ∀ j, j < n * ei.sz → oneA h (rep ei n j)) (N : Act → World → Prop)
    (hN : ∀ μ' env' h' a' w', SimA nt μ' env' h' a' w' → Step μ w μ' w' → TL C.P nt ks K env' h' → N a' w')
    (rest : TL C.P nt ks K (putE d true (.rs b 0 (len + n) (r.m + n * ei.sz) ei.sz) env) (h.upd b ⟨e, r.m + n * ei.sz, appC r.cells r.m (rep ei n) (n * ei.sz)⟩)) : o.wp P' a w N (fun _ _ _ => False) := by
  subst hPC
  have hns : (Builtin.zeroCells ei.zv.cells n).size = n * ei.sz := by rw [size_zeroCells, (C.ok e ei he).2.2]
  have hnv := zeroV_ok (μ := μ) (w := w) (n := n) he
  generalize hnewd : Builtin.zeroCells ei.zv.cells n = new at hns hnv
  obtain ⟨_, _, _, hK⟩ := kd_ok ht
  obtain ⟨_, _, _, hK'⟩ := kd_ok ht'
  have vy' : Value.int k (n : Int) = a.eval oy := vy.symm
  obtain ⟨j, hj, hjs, hjb, hjz⟩ := C.info he
  have hz := (C.ok e ei he).2.2
  have hone : ∀ v ∈ new.toList, v.oneCell' = true := by
    intro v hv
    obtain ⟨q, hq, rfl⟩ := List.getElem_of_mem hv
    simp only [Array.length_toList] at hq
    have := oneA_ok s.sim (hnv q (by omega)) (h1 q (by omega))
    simpa [Array.getD, hq] using this
  have hbl : len + n ≤ 140737488355328 := Nat.le_trans (Nat.le_mul_of_pos_right _ hby) hlim
  have hexec : ∀ r, (Builtin.append_ #[t, t'] o.type #[a.eval ox, a.eval oy]).run C.P w = r → (execOp a.eval o).run C.P w = r.andThen fun v w' => .ok (.value v) w' := by
    intro r hr
    simp [execOp, hop, resolve, invoke, builtin, hr]
  rcases s.sim.rs (by unfold refOK; rw [hr]) vx with ⟨r', ad, _, _, hm0, rfl, _, hvir, hno, hex⟩ | ⟨r', B, cs, cap, hr', _, hB, hL, hex, hcap, hlen, hh, hE, hmE, hcells⟩
  · -- no block yet
    by_cases hn0 : n = 0
    · subst hn0
      have hrun := run_app_noneZ (C := C) (w := w) (ty := o.type) (k := k) hK hK' hj hjz ad
      obtain ⟨s', st⟩ := s.sim.revir hr (r' := ⟨e, r.m + 0 * ei.sz, appC r.cells r.m (rep ei 0) (0 * ei.sz)⟩) hvir (by simp [hm0])
      rw [vy'] at hrun
      unfold Oper.wp
      rw [← hex] at hrun
      rw [hexec _ hrun]
      simp only [Result.andThen_ok, Oper.upon]
      rw [hdst]
      refine hN μ _ _ _ _ (env_put s st s' hd ?_) st rest
      rw [hex]
      exact ⟨vx.1, by simp, fun _ => ⟨by simp [hm0], rfl, ad, rfl⟩, fun B e => by rw [hno] at e; cases e⟩
    have hrun := run_app_newZ (C := C) (w := w) (ty := o.type) (k := k) (n := n) hK hK' hj hjz (by rw [hjs]; exact hz) (s := .slice ad 0 0) (ad := ad) (old := #[]) rfl (by cases ad <;> simp [Builtin.firstCells, loadCells, loadCellsFrom]) (by omega) (by omega) (by rw [hjb]; exact fit48 (Nat.le_add_left _ _) hlim)
      (by rw [hjb]; exact growslice_fits (by omega) hlim)
    rw [hnewd, vy'] at hrun
    simp only [Nat.zero_add] at hrun
    let gc := grownCap w n 0 e
    let out : Array Value := #[] ++ new ++ Builtin.zeroCells ei.zv.cells (gc - n)
    have hsz2 : out.size = gc * ei.sz := grown_size (by simp [hns]) hz
    have hge : n ≤ gc := grownCap_ge w n 0 e
    have hget : ∀ q, q < n * ei.sz → out[q]? = new[q]? := by
      intro q hq
      simp only [out, Array.empty_append]
      rw [Array.getElem?_append, if_pos (by omega)]
    have hLE : n * ei.sz ≤ gc * ei.sz := Nat.mul_le_mul_right _ hge
    have hpos : 0 < n * ei.sz := Nat.mul_pos (by omega) hsz
    obtain ⟨μ', s', st, hnx, hnv, hf⟩ := s.sim.turnv (w' := w.drew.alloc (.cells out e)) (r' := ⟨e, r.m + n * ei.sz, appC r.cells r.m (rep ei n) (n * ei.sz)⟩) (cs := out) hr hvir (by simp only; omega) rfl rfl rfl rfl (by rw [hsz2, hm0]; simpa using hLE)
      (fun q hq => by
        have hq' : q < n * ei.sz := by simp only at hq; omega
        rw [hget q hq']
        have hlt : q < new.size := by omega
        refine ⟨new[q], by simp [hlt], ?_⟩
        have := hnv q hq'
        simp only [appC, hm0]
        rw [if_neg (by omega), if_pos (by omega), Nat.sub_zero]
        simpa [Array.getD, hlt] using this)
    unfold Oper.wp
    rw [← hex] at hrun
    rw [hexec _ hrun]
    simp only [Result.andThen_ok, Oper.upon]
    rw [hdst]
    refine hN μ' _ _ _ _ (env_put s st s' hd ?_) st rest
    refine ⟨by rw [hnx]; exact vx.1, by simp, fun hh => (hnv hh).elim, fun B' e' => ?_⟩
    rw [hf] at e'
    injection e' with e'
    subst e'
    refine ⟨Nat.le_refl _, fun _ => ⟨gc, ?_, by simp [hsz2]⟩⟩
    simp only [Nat.zero_add]
    rfl
  rw [hr] at hr'
  injection hr' with hr'
  subst hr'
  rw [hty] at hh
  by_cases hroom : len + n ≤ cap
  · -- in place
    have hfit : len * j.size + new.size ≤ cs.size := by
      rw [hjs, hns, hE, ← hcap, Nat.zero_add, ← Nat.add_mul]
      exact Nat.mul_le_mul_right _ hroom
    have hrun := run_app_roomZ (C := C) (ty := o.type) (k := k) (n := n) hK hK' hj hjz (by rw [hjs]; exact hz) (sc := cap) hh (by rw [hnewd]; exact hone) hroom (by rw [hnewd]; exact hfit) (by omega) (by rw [hjb]; exact fit48 (Nat.le_add_left _ _) hlim)
    rw [hnewd, vy'] at hrun
    rw [hjs] at hrun hfit
    let cs' : Array Value := (cs.toList.take (len * ei.sz) ++ new.toList ++ cs.toList.drop (len * ei.sz + new.toList.length)).toArray
    have hget : ∀ q, cs'[q]? = if r.m ≤ q ∧ q < r.m + n * ei.sz then new[q - r.m]? else cs[q]? := by
      intro q
      have := seg_get cs.toList new.toList (len * ei.sz) q (by simpa using hfit)
      simpa [cs', hns, htip] using this
    have hsize : cs'.size = cs.size := by simp [cs']; omega
    have hLE : r.m + n * ei.sz ≤ B.E := by rw [← hE, ← htip, ← hns]; exact hfit
    obtain ⟨μ', s', st, hnx, hnv', hf⟩ := s.sim.turn (w' := w.setRow B.g cs') (r' := ⟨e, r.m + n * ei.sz, appC r.cells r.m (rep ei n) (n * ei.sz)⟩) (B' := ⟨B.g, r.m + n * ei.sz, B.E⟩) (cs := cs') hr hB (.inl rfl) (by simp; exact (s.sim.lt b B hB).2)
      (by rw [hL]; exact Nat.le_add_right _ _) (fun h => by cases B; simp only at h ⊢; rw [h]) rfl (setRow_heap w B.g cs cs' e (0, 0) hh) (by rw [hsize, hE]) hLE (fun q hq => by
        simp only [appC]
        rw [hget q]
        by_cases hq1 : q < r.m
        · rw [if_pos hq1, if_neg (by omega)]
          exact hcells q hq1
        · simp only at hq
          rw [if_neg hq1, if_pos (by omega), if_pos (by omega)]
          have hlt : q - r.m < new.size := by omega
          refine ⟨new[q - r.m], by simp [hlt], ?_⟩
          have := hnv (q - r.m) (by omega)
          simpa [Array.getD, hlt] using this) (fun k' _ hk' => setRow_other w B.g k' cs' hk') (by simp) rfl rfl rfl
    unfold Oper.wp
    rw [← hex] at hrun
    rw [hexec _ hrun]
    simp only [Result.andThen_ok, Oper.upon]
    rw [hdst]
    refine hN μ' _ _ _ _ (env_put s st s' hd ?_) st rest
    refine ⟨by rw [hnx]; exact vx.1, by rw [Nat.zero_add, Nat.add_mul, htip]; exact Nat.le_refl _, fun hh => (hnv' hh).elim, fun B' e' => ?_⟩
    rw [hf] at e'
    injection e' with e'
    subst e'
    exact ⟨Nat.le_refl _, fun _ => ⟨cap, rfl, hcap⟩⟩
  · -- a new block
    have hold : ∃ old : Array Value, (Builtin.firstCells j.size len (.slice (some ⟨B.g, 0, none⟩) len cap)).run C.P w.drew = .ok old w.drew ∧ old.size = r.m ∧ ∀ q, q < r.m → VR μ w (r.cells q) (old.getD q undef) := by
      have hexs : ∀ q, ∃ u, q < r.m → cs[q]? = some u ∧ VR μ w (r.cells q) u := by
        intro q
        by_cases hq : q < r.m
        · obtain ⟨u, hu⟩ := hcells q hq; exact ⟨u, fun _ => hu⟩
        · exact ⟨undef, fun hh => absurd hh hq⟩
      obtain ⟨f, hf⟩ := Classical.axiomOfChoice hexs
      refine ⟨((List.range r.m).map f).toArray, ?_, by simp, fun q hq => by simpa [hq] using (hf q hq).2⟩
      simp only [Builtin.firstCells]
      rw [hjs, htip]
      refine run_loadCells w.drew _ _ f (fun q hq => ?_)
      rw [cell_at]
      have hcs := (hf q hq).1
      rw [World.cell?_drew]
      simp [World.cell?, hh, hcs]
    obtain ⟨old, ho1, ho2, ho3⟩ := hold
    have hrun := run_app_newZ (C := C) (w := w) (ty := o.type) (k := k) (n := n) hK hK' hj hjz (by rw [hjs]; exact hz) (s := .slice (some ⟨B.g, 0, none⟩) len cap) rfl ho1 (by omega) (by omega) (by rw [hjb]; exact fit48 (Nat.le_add_left _ _) hlim) (by rw [hjb]; exact growslice_fits (by omega) hlim)
    rw [hnewd, vy'] at hrun
    let gc := grownCap w (len + n) cap e
    let out : Array Value := old ++ new ++ Builtin.zeroCells ei.zv.cells (gc - (len + n))
    have hsz2 : out.size = gc * ei.sz := grown_size (by rw [ho2, hns, ← htip, Nat.add_mul]) hz
    have hge : len + n ≤ gc := grownCap_ge w (len + n) cap e
    have hget : ∀ q, q < r.m + n * ei.sz → out[q]? = if q < r.m then old[q]? else new[q - r.m]? := by
      intro q hq
      simp only [out, Array.append_assoc]
      rw [Array.getElem?_append]
      by_cases h2 : q < r.m
      · rw [if_pos (by omega), if_pos h2]
      · rw [if_neg (by omega), if_neg h2, Array.getElem?_append, if_pos (by omega), ho2]
    have hnewb : (w.drew.alloc (.cells out e)).heap[w.heap.size]? = some (.cells out e (0, 0)) := heap_alloc_new w.drew _
    have hoth : ∀ k', k' < w.heap.size → (w.drew.alloc (.cells out e)).heap[k']? = w.heap[k']? := fun k' hk' => heap_alloc_old w.drew _ k' hk'
    have hLE : r.m + n * ei.sz ≤ gc * ei.sz := by
      rw [← htip, ← Nat.add_mul]
      exact Nat.mul_le_mul_right _ hge
    have hn0 : 0 < n * ei.sz := by
      rcases Nat.eq_zero_or_pos n with h0 | h0
      · exfalso
        subst h0
        have : len * ei.sz ≤ cap * ei.sz := by omega
        have := Nat.le_of_mul_le_mul_right this hsz
        omega
      · exact Nat.mul_pos h0 hsz
    obtain ⟨μ', s', st, hnx, hnv', hf⟩ := s.sim.turn (w' := w.drew.alloc (.cells out e)) (r' := ⟨e, r.m + n * ei.sz, appC r.cells r.m (rep ei n) (n * ei.sz)⟩) (B' := ⟨w.heap.size, r.m + n * ei.sz, gc * ei.sz⟩) (cs := out) hr hB (.inr (Nat.le_refl _)) (by simp)
      (by rw [hL]; exact Nat.le_add_right _ _) (fun h => by simp only at h; omega) rfl hnewb hsz2 hLE (fun q hq => by
        simp only at hq
        simp only [appC]
        rw [hget q hq]
        by_cases hq1 : q < r.m
        · rw [if_pos hq1, if_pos hq1]
          have hlt : q < old.size := by omega
          refine ⟨old[q], by simp [hlt], ?_⟩
          have := ho3 q hq1
          simpa [Array.getD, hlt] using this
        · rw [if_neg hq1, if_neg hq1, if_pos (by omega)]
          have hlt : q - r.m < new.size := by omega
          refine ⟨new[q - r.m], by simp [hlt], ?_⟩
          have := hnv (q - r.m) (by omega)
          simpa [Array.getD, hlt] using this) (fun k' hk' _ => hoth k' hk') (by simp) rfl rfl rfl
    unfold Oper.wp
    rw [← hex] at hrun
    rw [hexec _ hrun]
    simp only [Result.andThen_ok, Oper.upon]
    rw [hdst]
    refine hN μ' _ _ _ _ (env_put s st s' hd ?_) st rest
    refine ⟨by rw [hnx]; exact vx.1, by rw [Nat.zero_add, Nat.add_mul, htip]; exact Nat.le_refl _, fun hh => (hnv' hh).elim, fun B' e' => ?_⟩
    rw [hf] at e'
    injection e' with e'
    subst e'
    exact ⟨Nat.le_refl _, fun _ => ⟨gc, rfl, by simp⟩⟩



theorem rep_oneA {ei : TI} {n : Nat} {z : α} (hs : ei.sz = Enc.sz α) (hz : ∀ j, j < Enc.sz α → ei.z j = ec z j) : ∀ j, j < n * ei.sz → oneA h (rep ei n j) := by
  intro j hj
  have hp : 0 < ei.sz := by rw [hs]; exact Enc.pos
  have hm : j % ei.sz < Enc.sz α := by rw [← hs]; exact Nat.mod_lt _ hp
  rw [rep_at hj, hz _ hm]
  have : j % ei.sz < (Enc.cl z).length := by rw [Enc.len]; exact hm
  unfold ec ofL
  rw [List.getD_eq_getElem?_getD, List.getElem?_eq_getElem this]
  exact oneA_AV1 (Enc.cell _ _ (List.getElem_mem this))

theorem TL.appOZ {d b : Nat} {t' e : TypeId} {ei : TI} {k : IntKind} {xs : List α} {n : Int} {ks : List KO} (nd : Nd h) (z : α) (hk : C.kd t = some (.slc e)) (hk' : C.kd t' = some (.int k)) (he : C.ty e = some ei) (hs : ei.sz = Enc.sz α) (hz : ∀ j, j < Enc.sz α → ei.z j = ec z j)
    (hx : ev env x = (true, OL b xs)) {j : Nat} (hj : h[j]? = some (b, RL e xs)) (hy : ev env y = (true, .int k n)) (hn : 0 ≤ n) (hby : 0 < ei.by') (hlim : (xs.length + n.toNat) * ei.by' ≤ 140737488355328) (hd : Nat.ble (d + 1) nt = true)
    (rest : Nd (h.set j (b, RL e (xs ++ List.replicate n.toNat z))) → TL C.P nt ks K ((d, true, OL b (xs ++ List.replicate n.toNat z)) :: env) (h.set j (b, RL e (xs ++ List.replicate n.toNat z)))) : TL C.P nt (⟨some d, none, .bi .append [t, t'] [x, y]⟩ :: ks) K env h := by
  refine TL.cons (gc := true) rfl ?_ (fun e => by simp at e)
  intro o μ a w ho hdst s _ N hN
  obtain ⟨ox, oy, hop, hcx, hcy⟩ := two_ops ho
  have vx := ev_ok hcx s.env (by rw [hx])
  rw [hx] at vx
  have vy := ev_ok hcy s.env (by rw [hy])
  rw [hy] at vy
  have vy : a.eval oy = .int k (n.toNat : Int) := by rw [Int.toNat_of_nonneg hn]; exact vy
  refine app_wpZ (ei := ei) (b := b) (len := xs.length) (n := n.toNat) (r := RL e xs) rfl s hop hdst (dlt hd) hk hk' he (by rw [hs]; exact vx) (nd.get hj) rfl (by simp [RL, hs]) vy (by rw [hs]; exact Enc.pos) hby hlim (rep_oneA hs hz) N hN ?_
  have hrep : rep ei n.toNat = rowL (Enc.sz α) ec (List.replicate n.toNat z) := rep_rowL hs Enc.pos hz
  have hap := appC_rowL (sz := Enc.sz α) (enc := ec) (xs := xs) (ys := List.replicate n.toNat z) (m := xs.length * Enc.sz α) (k := n.toNat * Enc.sz α) (pc := rep ei n.toNat) Enc.pos rfl (by simp) (fun q _ => by rw [hrep])
  refine TL.setrow (q' := RL e (xs ++ List.replicate n.toNat z)) nd hj rfl (by simp [RL, hs, Nat.add_mul]) (fun i _ => ?_) fun nd' => ?_
  · simp only [RL]
    rw [hs, hap]
  · have := rest nd'
    simp only [putE]
    have e1 : (AV.rs b 0 (xs.length + n.toNat) ((RL e xs).m + n.toNat * ei.sz) ei.sz) = OL b (xs ++ List.replicate n.toNat z) := by
      simp [OL, RL, hs, Nat.add_mul]
    rw [e1]
    exact this

theorem TL.appNZ {d : Nat} {t' e : TypeId} {ei : TI} {q : IntKind} {n : Int} {v : AV} {ks : List KO} (nd : Nd h) (z : α) (hk : C.kd t = some (.slc e)) (hk' : C.kd t' = some (.int q)) (he : C.ty e = some ei) (hs : ei.sz = Enc.sz α) (hz : ∀ j, j < Enc.sz α → ei.z j = ec z j)
    (hx : ev env x = (true, v)) (hv : v = .nils ∨ v = .z0) (hy : ev env y = (true, .int q n)) (hn0 : 0 ≤ n) (hby : 0 < ei.by') (hlim : n.toNat * ei.by' ≤ 140737488355328) (hd : Nat.ble (d + 1) nt = true)
    (rest : ∀ b, Nd ((b, RL e (List.replicate n.toNat z)) :: h) → TL C.P nt ks K ((d, true, OL b (List.replicate n.toNat z)) :: env) ((b, RL e (List.replicate n.toNat z)) :: h)) : TL C.P nt (⟨some d, none, .bi .append [t, t'] [x, y]⟩ :: ks) K env h := by
  refine TL.cons (gc := true) rfl ?_ (fun e => by simp at e)
  intro o μ a w ho hdst s _ N hN
  obtain ⟨ox, oy, hop, hcx, hcy⟩ := two_ops ho
  have vx := ev_ok hcx s.env (by rw [hx])
  rw [hx] at vx
  have vy := ev_ok hcy s.env (by rw [hy])
  rw [hy] at vy
  have vy : a.eval oy = .int q (n.toNat : Int) := by rw [Int.toNat_of_nonneg hn0]; exact vy
  obtain ⟨μ', s', st, hn, hnx, hf⟩ := s.sim.own ⟨e, 0, rowL (Enc.sz α) ec ([] : List α)⟩ rfl
  have hxx : ∃ p, a.eval ox = .slice p 0 0 := by
    rcases hv with rfl | rfl
    · exact ⟨none, vx⟩
    · exact vx
  have sa : SimA nt μ' env ((μ.nx, ⟨e, 0, rowL (Enc.sz α) ec ([] : List α)⟩) :: h) a w := ⟨s', s.env.mono st, s.size, s.defers⟩
  have vx' : VR μ' w (.rs μ.nx 0 0 0 ei.sz) (a.eval ox) := ⟨by omega, by simp, fun _ => ⟨rfl, rfl, hxx⟩, fun B e => by rw [hf] at e; cases e⟩
  have nd1 : Nd ((μ.nx, RL e (List.replicate n.toNat z)) :: h) := nd.cons _ hn
  refine app_wpZ (ei := ei) (b := μ.nx) (len := 0) (n := n.toNat) (r := ⟨e, 0, rowL (Enc.sz α) ec ([] : List α)⟩) rfl sa hop hdst (dlt hd) hk hk' he vx' (by simp [Hp.get]) rfl (by simp) vy (by rw [hs]; exact Enc.pos) hby (by simpa using hlim) (rep_oneA hs hz) N
    (fun μ2 env2 h2' a2 w2 s2 st2 k2 => hN μ2 env2 h2' a2 w2 s2 (st.trans st2) k2) ?_
  have hrep : rep ei n.toNat = rowL (Enc.sz α) ec (List.replicate n.toNat z) := rep_rowL hs Enc.pos hz
  have hap := appC_rowL (sz := Enc.sz α) (enc := ec) (xs := ([] : List α)) (ys := List.replicate n.toNat z) (m := 0) (k := n.toNat * Enc.sz α) (pc := rep ei n.toNat) Enc.pos (by simp) (by simp) (fun q _ => by rw [hrep])
  have := rest μ.nx nd1
  simp only [Hp.upd, if_true, Nat.zero_add, putE]
  rw [hs, hap, List.nil_append]
  simpa [OL, RL] using this
end
end Go.AX

/- A list in a struct's row is laid down for good: the struct's cell tells it by value. -/
namespace Go.AX
open Go.AM Go.RowKit

section
variable {P : Program} {nt : Nat} {env : Env} {h : Hp} {K : Env → Hp → Prop} {α : Type} [Enc α]

def FixR (h : Hp) (b : Nat) : List AV → List AV → Prop
  | [], [] => True
  | v :: r, v' :: r' => FixTo h b v v' ∧ FixR h b r r'
  | _, _ => False
theorem FixR.at {b : Nat} : ∀ {l l' : List AV}, FixR h b l l' → l'.length = l.length ∧ ∀ i : Nat, FixTo h b (ofL l i) (ofL l' i)
  | [], [], _ => ⟨rfl, fun i => fix_id _⟩
  | v :: r, v' :: r', hh => by
    obtain ⟨h1, h2⟩ := FixR.at hh.2
    refine ⟨by simp [h1], fun i => ?_⟩
    cases i with
    | zero => exact hh.1
    | succ i => exact h2 i

theorem Sim.layR {μ : Mu} {w : World} (s : Sim μ h w) (nd : Nd h) {j b : Nat} {r : Row} (hj : h[j]? = some (b, r)) {j2 b2 : Nat} {ty : TypeId} {l l' : List AV} (hj2 : h[j2]? = some (b2, RV ty l)) (hb : b2 ≠ b) (hf : FixR h b l l') :
    Sim (μ.less b) ((h.set j2 (b2, RV ty l')).eraseIdx j) w := by
  have S1 := Sim.layd s nd hj
  obtain ⟨hu, nd'⟩ := nd.upd (r' := RV ty l') hj2
  have hr := nd.get hj2
  have hlen := hf.at.1
  have hjne : j ≠ j2 := by rintro rfl; rw [hj] at hj2; injection hj2 with e; injection e with e1 _; exact hb e1.symm
  have hj' : (h.set j2 (b2, RV ty l'))[j]? = some (b, r) := by rw [List.getElem?_set_ne (fun e => hjne e.symm)]; exact hj
  refine ⟨fun x q e => ?_, S1.inj, S1.lt, S1.vlt, S1.noban, S1.banlt⟩
  obtain ⟨h1, h2⟩ := get_erase nd' hj' e
  rw [← hu, Hp.get_upd] at h2
  by_cases hx : x = b2
  · subst hx
    rw [if_pos rfl, hr] at h2
    simp only [Option.map_some, Option.some.injEq] at h2
    subst h2
    rcases s.row x _ hr with ⟨hv, hn, h0⟩ | ⟨B, cs, hnv, q1, q2, q3, q4, q5, q6⟩
    · exact .inl ⟨by simpa [Mu.less, h1] using hv, by simpa [Mu.less, h1] using hn, by simp only [RV] at h0 ⊢; omega⟩
    · refine .inr ⟨B, cs, by simpa [Mu.less, h1] using hnv, by simpa [Mu.less, h1] using q1, by simp only [RV] at q2 ⊢; omega, q3, q4, by simp only [RV] at q5 ⊢; omega, fun i hi => ?_⟩
      obtain ⟨u, hu', hv⟩ := q6 i (by simp only [RV] at hi ⊢; omega)
      exact ⟨u, hu', hf.at.2 i μ w u s hv⟩
  · rw [if_neg hx] at h2
    exact (s.less (b := b)).row x q (by rw [Hp.get_del, if_neg h1]; exact h2)

theorem TL.layR {ks : List KO} (l : List (Nat × AV)) (nd : Nd h) {j b : Nat} {r : Row} (hj : h[j]? = some (b, r)) (j2 : Nat) {b2 : Nat} {ty : TypeId} {l2 l2' : List AV} (hj2 : h[j2]? = some (b2, RV ty l2)) (hne : Nat.beq j j2 = false) (hf : FixR h b l2 l2') (hl : SealL env h b l)
    (k : Nd ((h.set j2 (b2, RV ty l2')).eraseIdx j) → TL P nt ks K (cvs l env) ((h.set j2 (b2, RV ty l2')).eraseIdx j)) : TL P nt ks K env h := by
  obtain ⟨_, nd'⟩ := nd.upd (r' := RV ty l2') hj2
  have hb : b2 ≠ b := by
    rintro rfl
    obtain rfl := nd.inj hj hj2
    simp at hne
  intro os ho hz μ a w s
  refine TL.cons.wpK_mono ?_ _ _ _ (k (nd'.erase j) os ho hz (μ.less b) a w ⟨Sim.layR s.sim nd hj hj2 hb hf, seal_env s.sim s.env hl, s.size, s.defers⟩)
  rintro a' w' ⟨μ2, env2, h2, q, s2, st2⟩
  exact ⟨μ2, env2, h2, q, s2, Step.less.trans st2⟩
theorem TK.layR {Q : Post} {c : KC} (l : List (Nat × AV)) (nd : Nd h) {j b : Nat} {r : Row} (hj : h[j]? = some (b, r)) (j2 : Nat) {b2 : Nat} {ty : TypeId} {l2 l2' : List AV} (hj2 : h[j2]? = some (b2, RV ty l2)) (hne : Nat.beq j j2 = false) (hf : FixR h b l2 l2') (hl : SealL env h b l)
    (k : Nd ((h.set j2 (b2, RV ty l2')).eraseIdx j) → TK P nt c Q (cvs l env) ((h.set j2 (b2, RV ty l2')).eraseIdx j)) : TK P nt c Q env h := by
  obtain ⟨_, nd'⟩ := nd.upd (r' := RV ty l2') hj2
  have hb : b2 ≠ b := by
    rintro rfl
    obtain rfl := nd.inj hj hj2
    simp at hne
  intro c' hc μ a w s
  refine wp_mono (k (nd'.erase j) c' hc (μ.less b) a w ⟨Sim.layR s.sim nd hj hj2 hb hf, seal_env s.sim s.env hl, s.size, s.defers⟩) ?_
  rintro e a' w' ⟨μ2, env2, h2, q, s2, st2⟩
  exact ⟨μ2, env2, h2, q, s2, Step.less.trans st2⟩

theorem vok_cap0 {C : Cx} {t e : TypeId} {x : X} {v : AV} {gc gx : Bool} (hk : C.kd t = some (.slc e)) (hx : ev env x = (gx, v)) (hv : v = .nils ∨ v = .z0) (hg : gc = true → gx = true := by first | exact fun _ => rfl | simp_all) :
    gc = true → VOK C.P nt h env (.bi .cap [t] [x]) (.int .i64 0) := fun hgc => by
  intro o μ a w ho sa N hN
  obtain ⟨ox, hop, hcx⟩ := one_op ho
  have vx := ev_ok hcx sa.env (by rw [hx]; exact hg hgc)
  rw [hx] at vx
  have hxx : ∃ p, a.eval ox = .slice p 0 0 := by
    rcases hv with rfl | rfl
    · exact ⟨none, vx⟩
    · exact vx
  obtain ⟨p, hp⟩ := hxx
  obtain ⟨_, _, _, hK⟩ := kd_ok hk
  unfold Oper.wp
  have : (execOp a.eval o).run C.P w = .ok (.value (.int .i64 0)) w := by
    simp [execOp, hop, resolve, invoke, builtin, Builtin.cap_, run_und hK, hp]
    rfl
  rw [this]
  exact hN _ w rfl (Below.refl _ _)

theorem p_sliN {C : Cx} {t e : TypeId} {ei : TI} {x : X} {lo hi : Option X} {gc gx g1 g2 : Bool} (hk : C.kd t = some (.slc e)) (he : C.ty e = some ei) (hx : ev env x = (gx, .nils)) (h1 : boundA env lo 0 = some (g1, 0)) (h2 : boundA env hi 0 = some (g2, 0))
    (hg : gc = true → gx = true ∧ g1 = true ∧ g2 = true := by first | exact fun _ => ⟨rfl, rfl, rfl⟩ | simp_all) : PVok C h env (.sli t x lo hi none) gc .nils := fun ee => by
  obtain ⟨a1, a2, a3⟩ := hg ee
  have : sliB C h env (some (.slc e)) .nils lo hi = (.nils, ((g1 = true ∧ g2 = true) ∧ (0 : Int) = 0 ∧ (0 : Int) = 0) ∧ (C.ty e).isSome = true) := by simp only [sliB, h1, h2]
  simp only [pv, hx, sliA, hk, this]
  exact ⟨trivial, a1, ⟨⟨a2, a3⟩, trivial, trivial⟩, by rw [he]; rfl⟩

theorem p_lenN {C : Cx} {t e : TypeId} {x : X} {gc gx : Bool} (hk : C.kd t = some (.slc e)) (hx : ev env x = (gx, .nils)) (hg : gc = true → gx = true := by first | exact fun _ => rfl | simp_all) : PVok C h env (.bi .len [t] [x]) gc (.int .i64 0) := fun ee => by
  have h1 : lenT C t .nils := by simp [lenT, hk]
  simp only [pv, hx]
  exact ⟨rfl, ⟨hg ee, h1⟩, trivial⟩
end
end Go.AX

/- Queues: own lists whose front was cut off. Closures that have own rows. -/
namespace Go.AX
open Go.AM
set_option linter.unusedSectionVars false

/-- An own list behind what was cut off of its front. -/
def OQ {α : Type} [Enc α] (b : Nat) (pre xs : List α) : AV := .rs b (pre.length * Enc.sz α) xs.length ((pre ++ xs).length * Enc.sz α) (Enc.sz α)
section
variable {C : Cx} {P : Program} {nt : Nat} {env : Env} {h : Hp} {K : Env → Hp → Prop} {Q : Post} {gc gx gy : Bool} {t : TypeId} {x y : X} {u : AV} {α β : Type} [Enc α] [Enc β]

theorem OQ_nil {b : Nat} {xs : List α} : OQ b [] xs = OL b xs := by unfold OQ OL; simp
theorem OQ_OS {b : Nat} {pre xs : List α} : OQ b pre xs = OS b (pre ++ xs) (pre.length : Int) ((pre ++ xs).length : Int) := by
  unfold OQ OS
  have : (((pre ++ xs).length : Int) - (pre.length : Int)).toNat = xs.length := by simp; omega
  rw [this, Int.toNat_natCast]
theorem slc_pre {pre xs : List α} : slc (pre ++ xs) (pre.length : Int) ((pre ++ xs).length : Int) = xs := by
  unfold slc
  simp
  rw [List.take_of_length_le (by omega)]
theorem look_OQ (nd : Nd h) {j b : Nat} {ty : TypeId} {pre xs : List α} (hj : h[j]? = some (b, RL ty (pre ++ xs))) : Look1 h (OQ b pre xs) (L xs) := by
  have := look_OS nd (l := (pre.length : Int)) (k := ((pre ++ xs).length : Int)) hj ⟨by omega, by simp only [List.length_append]; omega, by omega⟩
  rw [← OQ_OS, slc_pre] at this
  exact this
theorem getI_pre {pre xs : List α} {i : Int} {a : α} (hi : getI xs i = some a) : getI (pre ++ xs) ((pre.length : Int) + i) = some a := by
  obtain ⟨h1, h2, h3⟩ := getI_in hi
  have e : ((pre.length : Int) + i).toNat = pre.length + i.toNat := by omega
  unfold getI
  rw [if_pos (by omega), e, List.getElem?_append_right (by omega), Nat.add_sub_cancel_left]
  exact h3
theorem p_iaOQ {e : TypeId} {ei : TI} {pre xs : List α} {k : IntKind} {i : Int} {b : Nat} (hk : C.kd t = some (.slc e)) (he : C.ty e = some ei) (hs : ei.sz = Enc.sz α) (hx : ev env x = (gx, OQ b pre xs)) (hy : ev env y = (gy, .int k i))
    (nd : Nd h) {j : Nat} {ty : TypeId} (hj : h[j]? = some (b, RL ty (pre ++ xs)))
    {a : α} (hi : gc = true → getI xs i = some a) (hg : gc = true → gx = true ∧ gy = true := by first | exact fun _ => ⟨rfl, rfl⟩ | simp_all) : PVok C h env (.ia t x y) gc (.ref b (pre.length * Enc.sz α + i.toNat * Enc.sz α) ((pre ++ xs).length * Enc.sz α)) := by
  refine pvE (S := (gx = true ∧ gy = true) ∧ (0 ≤ i ∧ i < xs.length) ∧ refOK h b ((pre ++ xs).length * Enc.sz α)) ?_ fun e => ?_
  · simp only [pv, hx, hy, iaA, hk, he]
    show (AV.ref _ (pre.length * Enc.sz α + i.toNat * ei.sz) _, _) = _
    rw [hs]; rfl
  · obtain ⟨h1, h2, _⟩ := getI_in (hi e)
    exact ⟨hg e, ⟨h1, h2⟩, refOK_of nd hj rfl⟩
theorem p_ldOQ {pre xs : List α} {i : Int} {a : α} {b : Nat} {ti : TI} (d : β) (ht : C.ty t = some ti) (hk : ti.known = true) (hx : ev env x = (gx, .ref b (pre.length * Enc.sz α + i.toNat * Enc.sz α) ((pre ++ xs).length * Enc.sz α))) (nd : Nd h) {j : Nat} {ty : TypeId} (hj : h[j]? = some (b, RL ty (pre ++ xs)))
    (hi : gc = true → getI xs i = some a) (hd : ((Enc.cl a).drop 0).take (Enc.sz β) = Enc.cl d) (ha : ti.isAgg = Enc.agg β) (hs : ti.sz = Enc.sz β) (hg : gc = true → gx = true := by first | exact fun _ => rfl | simp_all) :
    PVok C h env (.ld t x) gc (Enc.v d) := by
  intro e
  have hi' := hi e
  have hii := getI_in hi'
  have hO : AV.ref b (pre.length * Enc.sz α + i.toNat * Enc.sz α) ((pre ++ xs).length * Enc.sz α) = OP b (pre ++ xs) ((pre.length : Int) + i) 0 := by
    unfold OP
    have : ((pre.length : Int) + i).toNat = pre.length + i.toNat := by omega
    rw [this, Nat.add_mul, Nat.add_zero]
  rw [hO] at hx
  exact p_ldO (a := a) (gc := gc) d ht hk hx nd hj (fun e => getI_pre (hi e)) hd ha hs hg e

/-! ### the row is told in front -/
theorem sub_front {j b : Nat} {r r' : Row} (nd : Nd h) (hj : h[j]? = some (b, r)) : ∀ x q, Hp.get ((b, r') :: h.eraseIdx j) x = some q → (h.upd b r').get x = some q := by
  intro x q e
  simp only [Hp.get] at e
  rw [Hp.get_upd]
  by_cases hx : b = x
  · rw [if_pos hx] at e
    rw [if_pos hx.symm, nd.get hj]
    exact e
  · rw [if_neg hx] at e
    rw [if_neg (fun hh => hx hh.symm)]
    exact (get_erase nd hj e).2
theorem nd_front {j b : Nat} {r r' : Row} (nd : Nd h) (hj : h[j]? = some (b, r)) : Nd ((b, r') :: h.eraseIdx j) := by
  refine (nd.erase j).cons _ ?_
  cases hq : Hp.get (h.eraseIdx j) b with
  | none => rfl
  | some q => exact ((get_erase nd hj hq).1 rfl).elim

theorem run_app_roomQ {t t' ty e : TypeId} {i : TypeInfo} (ht : C.P.underlying t = some (.slice e)) (ht' : ∃ d, C.P.underlying t' = some d ∧ ∀ k, d ≠ .int k) (hi : C.P.info? e = some i)
    {w : World} {x : Value} {off sl sc n g : Nat} {cur new : Array Value} (hcur : w.heap[g]? = some (.cells cur e (0, 0)))
    (hl : ∀ w1 : World, (Builtin.lenOf x).run C.P w1 = .ok n w1) (hnew : (Builtin.firstCells i.size n x).run C.P w = .ok new w) (h1 : ∀ v ∈ new.toList, v.oneCell' = true)
    (hroom : sl + n ≤ sc) (hfit : off + sl * i.size + new.size ≤ cur.size) :
    (Builtin.append_ #[t, t'] ty #[.slice (some ⟨g, off, none⟩) sl sc, x]).run C.P w = .ok (.slice (some ⟨g, off, none⟩) (sl + n) sc)
      (w.setRow g (cur.toList.take (off + sl * i.size) ++ new.toList ++ cur.toList.drop (off + sl * i.size + new.toList.length)).toArray) := by
  obtain ⟨d, hd, hdk⟩ := ht'
  have hst := run_storeCells_at C.P g (off + sl * i.size) e new.toList 0 cur w hcur (by simpa using hfit) h1
  simp only [Nat.add_zero] at hst
  simp [Builtin.append_, run_und ht, run_und hd, sizeOf, typeInfo, hi, hl, hroom, hnew, add_at]
  rw [hst]
  simp

/-- append onto a queue. -/
theorem TL.appQ {d b : Nat} {t' e : TypeId} {ei : TI} {pre xs ys : List α} {ks : List KO} (nd : Nd h) (hk : C.kd t = some (.slc e)) (hk' : bytesOK C t') (he : C.ty e = some ei) (hs : ei.sz = Enc.sz α) (hx : ev env x = (true, OQ b pre xs)) {j : Nat} (hj : h[j]? = some (b, RL e (pre ++ xs)))
    (hy : ev env y = (true, u)) (hsrc : Src h u ys) (hby : 0 < ei.by') (hlim : (xs.length + ys.length) * ei.by' ≤ 140737488355328) (hd : Nat.ble (d + 1) nt = true)
    (rest : ∀ b' (pre' : List α), Nd ((b', RL e (pre' ++ (xs ++ ys))) :: h.eraseIdx j) → TL C.P nt ks K ((d, true, OQ b' pre' (xs ++ ys)) :: env) ((b', RL e (pre' ++ (xs ++ ys))) :: h.eraseIdx j)) :
    TL C.P nt (⟨some d, none, .bi .append [t, t'] [x, y]⟩ :: ks) K env h := by
  cases pre with
  | nil =>
    refine TL.appO (xs := xs) nd hk hk' he hs (by rw [← OQ_nil]; exact hx) hj hy hsrc hby hlim hd fun _ => ?_
    have := rest b [] (nd_front nd hj)
    rw [OQ_nil, List.nil_append] at this
    refine TL.subH (fun x q hx => ?_) this
    rw [← (nd.upd (r' := RL e (xs ++ ys)) hj).1]
    exact sub_front nd hj x q hx
  | cons p pr =>
    obtain ⟨pc, S, hsr, hS, h3⟩ := hsrc
    refine TL.cons (gc := true) rfl ?_ (fun e => by simp at e)
    intro o μ a w ho hdst s _ N hN
    obtain ⟨ox, oy, hop, hcx, hcy⟩ := two_ops ho
    have vx := ev_ok hcx s.env (by rw [hx])
    rw [hx] at vx
    have vy := ev_ok hcy s.env (by rw [hy])
    rw [hy] at vy
    have hr := nd.get hj
    generalize hpre : p :: pr = pre at *
    have hpl : 0 < pre.length := by rw [← hpre]; simp
    have hsz : 0 < ei.sz := by rw [hs]; exact Enc.pos
    unfold OQ at vx
    rw [← hs] at vx hsr h3
    have hrm : (RL e (pre ++ xs)).m = pre.length * ei.sz + xs.length * ei.sz := by
      show (pre ++ xs).length * Enc.sz α = _
      rw [hs, List.length_append, Nat.add_mul]
    obtain ⟨hl, new, hns, hnew, hnv⟩ := src_ok (P := C.P) s.sim vy hsr hS
    obtain ⟨_, _, _, hK⟩ := kd_ok hk
    obtain ⟨q, hq, hqs, hqb, hqz⟩ := C.info he
    have hz := (C.ok e ei he).2.2
    have hone : ∀ v ∈ new.toList, v.oneCell' = true := by
      intro v hv
      obtain ⟨k, hk2, rfl⟩ := List.getElem_of_mem hv
      simp only [Array.length_toList] at hk2
      have hk3 : k < ys.length * ei.sz := by omega
      have h1 : oneA h (pc k) := by
        rw [h3 k hk3, hs, rowL_split Enc.pos]
        have hq2 : k / Enc.sz α < ys.length := Nat.div_lt_of_lt_mul (by rw [Nat.mul_comm, ← hs]; exact hk3)
        rw [List.getElem?_eq_getElem hq2]
        have : k % Enc.sz α < (Enc.cl ys[k / Enc.sz α]).length := by rw [Enc.len]; exact Nat.mod_lt _ Enc.pos
        show oneA _ (ec _ _)
        unfold ec ofL
        rw [List.getD_eq_getElem?_getD, List.getElem?_eq_getElem this]
        exact oneA_AV1 (Enc.cell _ _ (List.getElem_mem this))
      have := oneA_ok s.sim (hnv k hk3) h1
      simpa [Array.getD, hk2] using this
    have hbl : xs.length + ys.length ≤ 140737488355328 := Nat.le_trans (Nat.le_mul_of_pos_right _ hby) hlim
    have hexec : ∀ r, (Builtin.append_ #[t, t'] o.type #[a.eval ox, a.eval oy]).run C.P w = r → (execOp a.eval o).run C.P w = r.andThen fun v w' => .ok (.value v) w' := by
      intro r hr
      simp [execOp, hop, resolve, invoke, builtin, hr]
    have hap : appC (rowL ei.sz ec (pre ++ xs)) (pre.length * ei.sz + xs.length * ei.sz) pc (ys.length * ei.sz) = rowL ei.sz ec (pre ++ (xs ++ ys)) := by
      rw [← List.append_assoc]
      exact appC_rowL (sz := ei.sz) (enc := ec) (xs := pre ++ xs) (ys := ys) hsz (by rw [List.length_append, Nat.add_mul]) rfl (fun j hj => by rw [h3 j hj, hs])
    have hRL : ∀ zs : List α, RL e zs = ⟨e, zs.length * ei.sz, rowL ei.sz ec zs⟩ := fun zs => by rw [hs]; rfl
    rcases s.sim.rs (by unfold refOK; rw [hr]; show _ = (pre ++ xs).length * Enc.sz α; rw [hs]) vx with ⟨r', ad, hr', hm0, _⟩ | ⟨r', B, cs, cap, hr', _, hB, hL, hex, hcap, hlen, hh, hE, hmE, hcells⟩
    · exfalso
      rw [hr] at hr'
      injection hr' with hr'
      subst hr'
      rw [hrm] at hm0
      have := Nat.mul_pos hpl hsz
      omega
    rw [hr] at hr'
    injection hr' with hr'
    subst hr'
    rw [hrm] at hL hmE hcells
    have hh : w.heap[B.g]? = some (.cells cs e (0, 0)) := hh
    have hcells : ∀ i, i < pre.length * ei.sz + xs.length * ei.sz → ∃ u, cs[i]? = some u ∧ VR μ w (rowL ei.sz ec (pre ++ xs) i) u := by
      intro i hi
      have := hcells i hi
      rw [hs]
      exact this
    by_cases hroom : xs.length + ys.length ≤ cap
    · -- in place
      have hle : xs.length * ei.sz + new.size ≤ cap * ei.sz := by
        rw [hns, ← Nat.add_mul]
        exact Nat.mul_le_mul_right _ hroom
      have hfit : pre.length * ei.sz + xs.length * q.size + new.size ≤ cs.size := by rw [hqs, hE]; omega
      have hrun := run_app_roomQ (C := C) (ty := o.type) hK hk'.und hq (sc := cap) hh hl (by rw [hqs]; exact hnew w rfl) hone hroom hfit
      rw [hqs] at hrun hfit
      let cs' : Array Value := (cs.toList.take (pre.length * ei.sz + xs.length * ei.sz) ++ new.toList ++ cs.toList.drop (pre.length * ei.sz + xs.length * ei.sz + new.toList.length)).toArray
      have hget : ∀ k, cs'[k]? = if pre.length * ei.sz + xs.length * ei.sz ≤ k ∧ k < pre.length * ei.sz + xs.length * ei.sz + ys.length * ei.sz then new[k - (pre.length * ei.sz + xs.length * ei.sz)]? else cs[k]? := by
        intro k
        have := seg_get cs.toList new.toList (pre.length * ei.sz + xs.length * ei.sz) k (by simpa using hfit)
        simpa [cs', hns] using this
      have hsize : cs'.size = cs.size := by simp [cs']; omega
      have hLE : pre.length * ei.sz + xs.length * ei.sz + ys.length * ei.sz ≤ B.E := by rw [← hE, ← hns]; exact hfit
      obtain ⟨μ', s', st, hnx, hnv', hf⟩ := s.sim.turn (w' := w.setRow B.g cs') (r' := ⟨e, pre.length * ei.sz + xs.length * ei.sz + ys.length * ei.sz, appC (rowL ei.sz ec (pre ++ xs)) (pre.length * ei.sz + xs.length * ei.sz) pc (ys.length * ei.sz)⟩) (B' := ⟨B.g, pre.length * ei.sz + xs.length * ei.sz + ys.length * ei.sz, B.E⟩) (cs := cs') hr hB (.inl rfl) (by simp; exact (s.sim.lt b B hB).2)
        (by rw [hL]; exact Nat.le_add_right _ _) (fun h => by cases B; simp only at h ⊢; rw [h]) rfl (setRow_heap w B.g cs cs' e (0, 0) hh) (by rw [hsize, hE]) hLE (fun k hk2 => by
          simp only [appC]
          rw [hget k]
          by_cases hq1 : k < pre.length * ei.sz + xs.length * ei.sz
          · rw [if_pos hq1, if_neg (by omega)]
            exact hcells k hq1
          · simp only at hk2
            rw [if_neg hq1, if_pos (by omega), if_pos (by omega)]
            have hlt : k - (pre.length * ei.sz + xs.length * ei.sz) < new.size := by omega
            refine ⟨new[k - (pre.length * ei.sz + xs.length * ei.sz)], by simp [hlt], ?_⟩
            have := hnv (k - (pre.length * ei.sz + xs.length * ei.sz)) (by omega)
            simpa [Array.getD, hlt] using this) (fun k' _ hk' => setRow_other w B.g k' cs' hk') (by simp) rfl rfl rfl
      unfold Oper.wp
      rw [← hex] at hrun
      rw [hexec _ hrun]
      simp only [Result.andThen_ok, Oper.upon]
      rw [hdst]
      have hm3 : (pre ++ (xs ++ ys)).length * ei.sz = pre.length * ei.sz + xs.length * ei.sz + ys.length * ei.sz := by rw [List.length_append, List.length_append, Nat.add_mul, Nat.add_mul, Nat.add_assoc]
      refine hN μ' _ _ _ _ (env_put (v := OQ b pre (xs ++ ys)) s st s' (dlt hd) ?_) st ?_
      · unfold OQ
        rw [← hs, hm3, List.length_append]
        refine ⟨by rw [hnx]; exact vx.1, by rw [Nat.add_mul]; omega, fun hh => (hnv' hh).elim, fun B' e' => ?_⟩
        rw [hf] at e'
        injection e' with e'
        subst e'
        exact ⟨Nat.le_refl _, fun _ => ⟨cap, rfl, hcap⟩⟩
      · have hrow : (⟨e, pre.length * ei.sz + xs.length * ei.sz + ys.length * ei.sz, appC (rowL ei.sz ec (pre ++ xs)) (pre.length * ei.sz + xs.length * ei.sz) pc (ys.length * ei.sz)⟩ : Row) = RL e (pre ++ (xs ++ ys)) := by
          rw [hap, hRL, hm3]
        rw [hrow]
        exact TL.subH (sub_front nd hj) (rest b pre (nd_front nd hj))
    · -- a new block
      have hold : ∃ old : Array Value, (Builtin.firstCells q.size xs.length (.slice (some ⟨B.g, pre.length * ei.sz, none⟩) xs.length cap)).run C.P w.drew = .ok old w.drew ∧ old.size = xs.length * ei.sz ∧ ∀ k, k < xs.length * ei.sz → VR μ w (rowL ei.sz ec xs k) (old.getD k undef) := by
        have hexs : ∀ k, ∃ u, k < xs.length * ei.sz → cs[pre.length * ei.sz + k]? = some u ∧ VR μ w (rowL ei.sz ec xs k) u := by
          intro k
          by_cases hk2 : k < xs.length * ei.sz
          · obtain ⟨u, h1, h2⟩ := hcells (pre.length * ei.sz + k) (by omega)
            refine ⟨u, fun _ => ⟨h1, ?_⟩⟩
            have : rowL ei.sz ec (pre ++ xs) (pre.length * ei.sz + k) = rowL ei.sz ec xs k := by
              rw [rowL_split hsz, rowL_split hsz]
              have e1 : (pre.length * ei.sz + k) / ei.sz = pre.length + k / ei.sz := by rw [Nat.add_comm, Nat.add_mul_div_right _ _ hsz, Nat.add_comm]
              have e2 : (pre.length * ei.sz + k) % ei.sz = k % ei.sz := by rw [Nat.add_comm, Nat.add_mul_mod_self_right]
              rw [e1, e2, List.getElem?_append_right (Nat.le_add_right _ _), Nat.add_sub_cancel_left]
            rw [← this]
            exact h2
          · exact ⟨undef, fun hh => absurd hh hk2⟩
        obtain ⟨f, hf⟩ := Classical.axiomOfChoice hexs
        refine ⟨((List.range (xs.length * ei.sz)).map f).toArray, ?_, by simp, fun k hk2 => by simpa [hk2] using (hf k hk2).2⟩
        simp only [Builtin.firstCells]
        rw [hqs]
        refine run_loadCells w.drew _ _ f (fun k hk2 => ?_)
        rw [cell_at]
        have hcs := (hf k hk2).1
        rw [World.cell?_drew]
        simp [World.cell?, hh, hcs]
      obtain ⟨old, ho1, ho2, ho3⟩ := hold
      have hrun := run_app_new (C := C) (ty := o.type) hK hk'.und hq hqz (s := .slice (some ⟨B.g, pre.length * ei.sz, none⟩) xs.length cap) rfl ho1 hl (by rw [hqs]; exact hnew w.drew rfl) (by omega) (by omega) (by rw [hqb]; exact growslice_fits (by omega) hlim)
      let gn := grownCap w (xs.length + ys.length) cap e
      let out : Array Value := old ++ new ++ Builtin.zeroCells ei.zv.cells (gn - (xs.length + ys.length))
      have hsz2 : out.size = gn * ei.sz := grown_size (by rw [ho2, hns, Nat.add_mul]) hz
      have hge : xs.length + ys.length ≤ gn := grownCap_ge w (xs.length + ys.length) cap e
      have hget : ∀ k, k < xs.length * ei.sz + ys.length * ei.sz → out[k]? = if k < xs.length * ei.sz then old[k]? else new[k - xs.length * ei.sz]? := by
        intro k hk2
        simp only [out, Array.append_assoc]
        rw [Array.getElem?_append]
        by_cases h2 : k < xs.length * ei.sz
        · rw [if_pos (by omega), if_pos h2]
        · rw [if_neg (by omega), if_neg h2, Array.getElem?_append, if_pos (by omega), ho2]
      have hLE : xs.length * ei.sz + ys.length * ei.sz ≤ gn * ei.sz := by
        rw [← Nat.add_mul]
        exact Nat.mul_le_mul_right _ hge
      have hcapn : xs.length ≤ cap := by
        have : xs.length * ei.sz ≤ cap * ei.sz := by omega
        exact Nat.le_of_mul_le_mul_right this hsz
      have hn0 : 0 < ys.length * ei.sz := Nat.mul_pos (by omega) hsz
      have s1 := Sim.layd s.sim nd hj
      have st1 : Step μ w (μ.less b) w := Step.less
      obtain ⟨μ2, s2, st2, hgn, hnx2, hf2⟩ := s1.own ⟨e, 0, rowL ei.sz ec ([] : List α)⟩ rfl
      have hv2 : μ2.vir (μ.less b).nx := by
        rcases s2.row (μ.less b).nx _ (by simp only [Hp.get, if_true]; rfl) with ⟨hv, _⟩ | ⟨B2, _, _, hB2, _⟩
        · exact hv
        · rw [hf2] at hB2; cases hB2
      have hm3 : (([] : List α) ++ (xs ++ ys)).length * ei.sz = xs.length * ei.sz + ys.length * ei.sz := by rw [List.nil_append, List.length_append, Nat.add_mul]
      have hap2 : ∀ k, k < xs.length * ei.sz + ys.length * ei.sz → rowL ei.sz ec (xs ++ ys) k = if k < xs.length * ei.sz then rowL ei.sz ec xs k else pc (k - xs.length * ei.sz) := by
        intro k hk2
        have := congrFun (appC_rowL (sz := ei.sz) (enc := ec) (xs := xs) (ys := ys) (m := xs.length * ei.sz) (k := ys.length * ei.sz) hsz rfl rfl (pc := pc) (fun j hj => by rw [h3 j hj, hs])) k
        rw [← this]
        unfold appC
        by_cases h2 : k < xs.length * ei.sz
        · rw [if_pos h2, if_pos h2]
        · rw [if_neg h2, if_neg h2, if_pos hk2]
      obtain ⟨μ', s', st, hnx, hnv', hf⟩ := s2.turnv (w' := w.drew.alloc (.cells out e)) (b := (μ.less b).nx) (r := ⟨e, 0, rowL ei.sz ec ([] : List α)⟩) (r' := RL e (([] : List α) ++ (xs ++ ys))) (cs := out) (by simp [Hp.get]) hv2 (by rw [hRL]; show 0 < _ * _; rw [hm3]; omega) rfl rfl rfl rfl (by rw [hRL, hsz2]; show _ * _ ≤ _; rw [hm3]; exact hLE)
        (fun k hk2 => by
          rw [hRL] at hk2 ⊢
          have hk3 : k < xs.length * ei.sz + ys.length * ei.sz := by rw [← hm3]; exact hk2
          rw [hget k hk3]
          show ∃ u, _ ∧ VR μ2 w (rowL ei.sz ec (xs ++ ys) k) u
          rw [hap2 k hk3]
          by_cases hq1 : k < xs.length * ei.sz
          · rw [if_pos hq1, if_pos hq1]
            have hlt : k < old.size := by omega
            refine ⟨old[k], by simp [hlt], ?_⟩
            have := VR.mono (st1.trans st2) _ _ (ho3 k hq1)
            simpa [Array.getD, hlt] using this
          · rw [if_neg hq1, if_neg hq1]
            have hlt : k - xs.length * ei.sz < new.size := by omega
            refine ⟨new[k - xs.length * ei.sz], by simp [hlt], ?_⟩
            have := VR.mono (st1.trans st2) _ _ (hnv (k - xs.length * ei.sz) (by omega))
            simpa [Array.getD, hlt] using this)
      unfold Oper.wp
      rw [← hex] at hrun
      rw [hexec _ hrun]
      simp only [Result.andThen_ok, Oper.upon]
      rw [hdst]
      have sta := (st1.trans st2).trans st
      have hndn : Nd (((μ.less b).nx, RL e (([] : List α) ++ (xs ++ ys))) :: h.eraseIdx j) := (nd.erase j).cons _ hgn
      have hup : Hp.upd (((μ.less b).nx, (⟨e, 0, rowL ei.sz ec ([] : List α)⟩ : Row)) :: h.eraseIdx j) (μ.less b).nx (RL e (([] : List α) ++ (xs ++ ys))) = ((μ.less b).nx, RL e (([] : List α) ++ (xs ++ ys))) :: h.eraseIdx j := by simp only [Hp.upd, if_true]
      rw [hup] at s'
      refine hN μ' _ _ _ _ (env_put (v := OQ (μ.less b).nx ([] : List α) (xs ++ ys)) s sta s' (dlt hd) ?_) sta (rest _ [] hndn)
      unfold OQ
      rw [← hs, hm3]
      refine ⟨by rw [hnx]; omega, by rw [List.length_append, Nat.add_mul]; simp, fun hh => (hnv' hh).elim, fun B' e' => ?_⟩
      rw [hf] at e'
      injection e' with e'
      subst e'
      refine ⟨by rw [hRL]; show _ ≤ _ * _; rw [hm3]; exact Nat.le_refl _, fun _ => ⟨gn, ?_, by simp [hsz2]⟩⟩
      simp only [List.length_nil, Nat.zero_mul, List.length_append]
      rfl

theorem sli_op {o : Oper} {t : TypeId} {x lo : X} (ho : cookOp o.op = some (.sli t x (some lo) none none)) : ∃ ox ol, o.op = .slice t ox (some ol) none none ∧ cookX ox = some x ∧ cookXo (some ol) = some (some lo) := by
  have nn : ∀ {z : Option Operand}, cookXo z = some none → z = none := by
    intro z hz
    cases z with
    | none => rfl
    | some q =>
      unfold cookXo at hz
      split at hz
      · rename_i hq; cases hq
      · split at hz <;> simp at hz
  unfold cookOp at ho
  split at ho <;> (try (simp at ho; done)) <;> (try (split at ho <;> simp at ho <;> done))
  case h_16 t' x' lo' hi' mx' e =>
    split at ho
    case h_2 => simp at ho
    case h_1 y l' h' m' h1 h2 h3 h4 =>
      simp only [Option.some.injEq, I.sli.injEq] at ho
      obtain ⟨rfl, rfl, rfl, rfl, rfl⟩ := ho
      obtain rfl := nn h3
      obtain rfl := nn h4
      cases lo' with
      | none => simp [cookXo] at h2
      | some q => exact ⟨_, q, e, h1, h2⟩
/-- The front is cut off. -/
theorem TL.sliQ {d b : Nat} {e ty : TypeId} {ei : TI} {pre xs : List α} {lo : X} {l : Int} {ks : List KO} (nd : Nd h) (hk : C.kd t = some (.slc e)) (he : C.ty e = some ei) (hs : ei.sz = Enc.sz α) (hx : ev env x = (true, OQ b pre xs)) {j : Nat} (hj : h[j]? = some (b, RL ty (pre ++ xs)))
    (hlo : boundA env (some lo) 0 = some (true, l)) (hb : 0 ≤ l ∧ l ≤ xs.length ∧ (xs.length : Int) ≤ xs.length) (hd : Nat.ble (d + 1) nt = true)
    (rest : ∀ b' (pre' : List α), Nd ((b', RL ty (pre' ++ slc xs l xs.length)) :: h.eraseIdx j) → TL C.P nt ks K ((d, true, OQ b' pre' (slc xs l xs.length)) :: env) ((b', RL ty (pre' ++ slc xs l xs.length)) :: h.eraseIdx j)) :
    TL C.P nt (⟨some d, none, .sli t x (some lo) none none⟩ :: ks) K env h := by
  obtain ⟨h0, hl, _⟩ := hb
  have hslc : slc xs l xs.length = xs.drop l.toNat := by
    unfold slc
    exact List.take_of_length_le (by rw [List.length_drop]; omega)
  rw [hslc] at rest
  have hsz : 0 < Enc.sz α := Enc.pos
  have hr := nd.get hj
  have hfr : ((pre ++ xs.take l.toNat) ++ xs.drop l.toNat) = pre ++ xs := by rw [List.append_assoc, List.take_append_drop]
  have hrest : TL C.P nt ks K ((d, true, OQ b (pre ++ xs.take l.toNat) (xs.drop l.toNat)) :: env) h := by
    have := rest b (pre ++ xs.take l.toNat)
    rw [hfr] at this
    refine TL.subH (fun x q hx => ?_) (this (nd_front nd hj))
    have := sub_front nd hj x q hx
    rw [(nd.upd hj).1] at this
    obtain ⟨hlt, hgj⟩ := List.getElem?_eq_some_iff.1 hj
    have hset : h.set j (b, RL ty (pre ++ xs)) = h := by rw [← hgj]; exact List.set_getElem_self hlt
    rw [hset] at this
    exact this
  have hOQ : OQ b (pre ++ xs.take l.toNat) (xs.drop l.toNat) = .rs b (pre.length * Enc.sz α + l.toNat * Enc.sz α) ((xs.length : Int) - l).toNat ((pre ++ xs).length * Enc.sz α) (Enc.sz α) := by
    unfold OQ
    rw [hfr, List.length_append, List.length_take, List.length_drop, Nat.min_eq_left (by omega), Nat.add_mul]
    congr 1
    omega
  rw [hOQ] at hrest
  by_cases hor : l = 0 ∨ l < xs.length
  · refine TL.p (C := C) (gc := true) (fun _ => ?_) rfl hd hrest
    have : pv C h env (.sli t x (some lo) none none) = (.rs b (pre.length * Enc.sz α + l.toNat * ei.sz) ((xs.length : Int) - l).toNat ((pre ++ xs).length * Enc.sz α) (Enc.sz α), true = true ∧ (true = true ∧ true = true) ∧ (0 ≤ l ∧ l ≤ (xs.length : Int) ∧ (xs.length : Int) ≤ xs.length) ∧ (l = 0 ∨ l < xs.length) ∧ Enc.sz α = ei.sz ∧ 0 < Enc.sz α ∧ refOK h b ((pre ++ xs).length * Enc.sz α)) := by
      have h2 : boundA env none xs.length = some (true, (xs.length : Int)) := rfl
      simp only [pv, hx, sliA, hk, sliB, OQ, he, hlo, h2]
    rw [this, hs]
    exact ⟨rfl, rfl, ⟨rfl, rfl⟩, ⟨h0, hl, Int.le_refl _⟩, hor, rfl, Enc.pos, refOK_of nd hj rfl⟩
  · have hle : l = xs.length := by omega
    have hlp : 0 < xs.length := by omega
    refine TL.cons (gc := true) rfl ?_ (fun e => by simp at e)
    intro o μ a w ho hdst s _ N hN
    obtain ⟨ox, ol, hop, hcx, hcl⟩ := sli_op ho
    have vx := ev_ok hcx s.env (by rw [hx])
    rw [hx] at vx
    obtain ⟨_, _, _, hK⟩ := kd_ok hk
    have vx : VR μ w (OQ b pre xs) (a.eval ox) := vx
    unfold OQ at vx
    have hrm : (RL ty (pre ++ xs)).m = (pre ++ xs).length * Enc.sz α := rfl
    rcases s.sim.rs (by unfold refOK; rw [hr]; rfl) vx with ⟨r', ad, hr', hm0, _, hl0, _⟩ | ⟨r', B, cs, cap, hr', hst, hB, hL, hex, hcap, hlen, hh, hE, hmE, hcells⟩
    · omega
    rw [hr] at hr'
    injection hr' with hr'
    subst hr'
    have hcapn : xs.length ≤ cap := by
      have h1 : (pre ++ xs).length * Enc.sz α ≤ B.E := hmE
      rw [List.length_append, Nat.add_mul] at h1
      have : xs.length * Enc.sz α ≤ cap * Enc.sz α := by omega
      exact Nat.le_of_mul_le_mul_right this hsz
    have hlo2 : ∃ q, (some ol).map a.eval = some (.int q l) := by
      rcases boundA_ok hcl s.env hlo rfl with ⟨hn, _⟩ | h
      · cases hn
      · exact h
    have hbd := run_sliceBounds (P := C.P) (w := w) (is := true) (len := xs.length) (cap := cap) (lo := (some ol).map a.eval) (hi := none) (l := l) (k := xs.length) (.inr hlo2) (.inl ⟨rfl, rfl⟩) h0 hl (by omega)
    have hrun : (Instr.sliceAt t (.slice (some ⟨B.g, pre.length * Enc.sz α, none⟩) xs.length cap) ((some ol).map a.eval) none none).run C.P w =
        .ok (.slice (some (if cap = l.toNat then ⟨B.g, pre.length * Enc.sz α, none⟩ else (⟨B.g, pre.length * Enc.sz α, none⟩ : Addr).add (l.toNat * ei.sz))) (xs.length - l.toNat) (cap - l.toNat)) w := by
      simp only [Instr.sliceAt, Sem.run_bind, run_und hK, Result.andThen_ok, Instr.slice, hbd, Cx.size he, Sem.run_pure, Int.toNat_natCast]
      split <;> rfl
    have hexec : ∀ v, (Instr.sliceAt t (a.eval ox) ((some ol).map a.eval) none none).run C.P w = .ok v w → (execOp a.eval o).run C.P w = .ok (.value v) w := by
      intro v hv
      simp [execOp, hop]
      have : (Instr.sliceAt t (a.eval ox) (some (a.eval ol)) none none).run C.P w = .ok v w := hv
      rw [this]; rfl
    unfold Oper.wp
    rw [← hex] at hrun
    rw [hexec _ hrun]
    simp only [Oper.upon]
    rw [hdst]
    have hlt : l.toNat = xs.length := by omega
    by_cases hc : cap = l.toNat
    · rw [if_pos hc]
      have s1 := Sim.layd s.sim nd hj
      have st1 : Step μ w (μ.less b) w := Step.less
      obtain ⟨μ2, s2, st2, hgn, hnx2, hf2⟩ := s1.own ⟨ty, 0, rowL (Enc.sz α) ec ([] : List α)⟩ rfl
      have hv2 : μ2.vir (μ.less b).nx := by
        rcases s2.row (μ.less b).nx _ (by simp only [Hp.get, if_true]; rfl) with ⟨hv, _⟩ | ⟨B2, _, _, hB2, _⟩
        · exact hv
        · rw [hf2] at hB2; cases hB2
      have hdrop : xs.drop l.toNat = [] := by rw [hlt]; simp
      rw [hdrop] at rest
      have hrow : (⟨ty, 0, rowL (Enc.sz α) ec ([] : List α)⟩ : Row) = RL ty (([] : List α) ++ []) := by unfold RL; simp
      rw [hrow] at s2
      refine hN μ2 _ _ _ _ (env_put (v := OQ (μ.less b).nx ([] : List α) []) s (st1.trans st2) s2 (dlt hd) ?_) (st1.trans st2) (rest _ [] ((nd.erase j).cons _ hgn))
      unfold OQ
      refine ⟨by omega, by simp, fun _ => ⟨by simp, rfl, some ⟨B.g, pre.length * Enc.sz α, none⟩, ?_⟩, fun B' e' => by rw [hf2] at e'; cases e'⟩
      have e1 : xs.length - l.toNat = 0 := by omega
      have e2 : cap - l.toNat = 0 := by omega
      rw [e1, e2]
    · rw [if_neg hc]
      refine hN μ _ _ _ _ (env_put s (Step.refl _ _) s.sim (dlt hd) ?_) (Step.refl _ _) hrest
      refine ⟨vx.1, ?_, fun hv => ?_, fun B' e' => ?_⟩
      · rw [List.length_append, Nat.add_mul, hlt]
        have : ((xs.length : Int) - l).toNat = 0 := by omega
        rw [this]; omega
      · have := (vx.2.2.1 hv).2.1
        omega
      · rw [hB] at e'
        injection e' with e'
        subst e'
        refine ⟨by rw [hL]; exact Nat.le_refl _, fun _ => ⟨cap - l.toNat, ?_, ?_⟩⟩
        · rw [add_at, hs]
          congr 1
          omega
        · have : l.toNat * Enc.sz α + (cap - l.toNat) * Enc.sz α = cap * Enc.sz α := by
            rw [← Nat.add_mul]
            congr 1
            omega
          omega

/-! ### closures -/
theorem look_fn {f m : Nat} {l l' : List AV} (hm : l.length = m) (hl : LookL h l l') : Look1 h (.fn f m (ofL l)) (.fn f m (ofL l')) := by
  subst hm
  intro μ w c s hv
  obtain ⟨vs, e, hs, hc⟩ := hv
  exact ⟨vs, e, hs, fun i hi => hl.at.2 i hi μ w _ s (hc i hi)⟩
theorem TCX.wk {P : Program} {f : FuncId} {args args' : List AV} {F : Hp} {Q : AV → Hp → Prop} (hw : WkL args args') (hf : TCX P f args' F Q) : TCX P f args F Q := by
  refine ⟨hf.enters, fun μ w cargs s hsz hargs => ?_⟩
  have hl := hw.len
  refine hf.calls μ w cargs s (by omega) fun i hi => ?_
  exact WkL.at hw i μ w _ (hargs i (by omega))

/-- append onto nil, by value. -/
theorem vok_appV {t' e : TypeId} {ei : TI} {ys : List α} (hk : C.kd t = some (.slc e)) (hk' : bytesOK C t') (he : C.ty e = some ei) (hs : ei.sz = Enc.sz α) (hx : ev env x = (true, .nils))
    (hy : ev env y = (true, u)) (hsrc : Src h u ys) (hby : 0 < ei.by') (hlim : ys.length * ei.by' ≤ 140737488355328) : gc = true → VOK C.P nt h env (.bi .append [t, t'] [x, y]) (L ys) := fun _ => by
  obtain ⟨pc, S, h1, h2, h3⟩ := hsrc
  intro o μ a w ho s N hN
  obtain ⟨ox, oy, hop, hcx, hcy⟩ := two_ops ho
  have vx := ev_ok hcx s.env (by rw [hx])
  rw [hx] at vx
  have vx : a.eval ox = .slice none 0 0 := vx
  have vy := ev_ok hcy s.env (by rw [hy])
  rw [hy] at vy
  have hsz : 0 < Enc.sz α := Enc.pos
  obtain ⟨hl, new, hns, hnew, hnv⟩ := src_ok (P := C.P) s.sim vy h1 h2
  obtain ⟨_, _, _, hK⟩ := kd_ok hk
  obtain ⟨q, hq, hqs, hqb, hqz⟩ := C.info he
  have hz := (C.ok e ei he).2.2
  have hexec : ∀ c w', (Builtin.append_ #[t, t'] o.type #[a.eval ox, a.eval oy]).run C.P w = .ok c w' → (execOp a.eval o).run C.P w = .ok (.value c) w' := by
    intro c w' hr
    simp [execOp, hop, resolve, invoke, builtin, hr]
  unfold Oper.wp
  by_cases hn0 : ys.length = 0
  · have hys : ys = [] := List.length_eq_zero_iff.1 hn0
    subst hys
    have hrun := run_app_none (C := C) (ty := o.type) hK hk'.und hq hl (by rw [hqs, hs]; exact hnew w rfl) (by simpa using hns) none
    rw [← vx] at hrun
    rw [hexec _ _ hrun]
    simp only [Oper.upon]
    refine hN _ w ?_ (RowKit.Below.refl _ _)
    rw [vx]
    exact .inl ⟨rfl, by simp, rfl⟩
  · have hbl : ys.length ≤ 140737488355328 := Nat.le_trans (Nat.le_mul_of_pos_right _ hby) hlim
    have hrun := run_app_new (C := C) (ty := o.type) hK hk'.und hq hqz (s := .slice none 0 0) (ad := none) (old := #[]) rfl (by simp [Builtin.firstCells]) hl (by rw [hqs, hs]; exact hnew w.drew rfl) (by omega) (by omega)
      (by rw [hqb, Nat.zero_add]; exact growslice_fits (by omega) hlim)
    simp only [Nat.zero_add] at hrun
    let gn := grownCap w ys.length 0 e
    let out : Array Value := #[] ++ new ++ Builtin.zeroCells ei.zv.cells (gn - ys.length)
    have hsz2 : out.size = gn * ei.sz := grown_size (by simp [hns, hs]) hz
    have hge : ys.length ≤ gn := grownCap_ge w ys.length 0 e
    have hget : ∀ k, k < ys.length * Enc.sz α → out[k]? = new[k]? := by
      intro k hk2
      simp only [out, Array.empty_append]
      rw [Array.getElem?_append, if_pos (by omega)]
    rw [← vx] at hrun
    rw [hexec _ _ hrun]
    simp only [Oper.upon]
    have hb : RowKit.Below w.heap.size w (w.drew.alloc (.cells out e)) := (RowKit.Below.refl _ _).drew.alloc (Nat.le_refl _) _
    have st := Step.of_below s.sim.muok hb
    refine hN _ _ ?_ hb
    refine Or.inr ⟨⟨w.heap.size, 0, none⟩, gn, rfl, hge, fun _ => ⟨rfl, ?_⟩, fun k hk2 => ?_⟩
    · exact ⟨by simp, fun hban => Nat.lt_irrefl _ (s.sim.banlt _ hban), fun b B e hg => Nat.lt_irrefl _ (hg ▸ (s.sim.lt b B e).2)⟩
    · have hlt : k < new.size := by omega
      have hc : (w.drew.alloc (.cells out e)).heap[w.heap.size]? = some (.cells out e (0, 0)) := heap_alloc_new w.drew _
      refine ⟨new.getD k undef, ?_, ?_⟩
      · simp only [World.cell?, Nat.zero_add]
        rw [hc]
        simp only [hget k hk2]
        simp [Array.getD, hlt]
      · have := VR.mono st _ _ (hnv k hk2)
        rw [h3 k hk2] at this
        exact this
theorem Src_OQ (nd : Nd h) {j b : Nat} {ty : TypeId} {pre ys : List α} (hj : h[j]? = some (b, RL ty (pre ++ ys))) : Src h (OQ b pre ys) ys := by
  have := Src_OS nd (l := (pre.length : Int)) (k := ((pre ++ ys).length : Int)) hj ⟨by omega, by simp only [List.length_append]; omega, by omega⟩
  rw [← OQ_OS, slc_pre] at this
  exact this
end
end Go.AX

/- Arguments of a law, taken as values of Lean types. -/
namespace Go.AX
open Go.AM Go.RowKit Go.ChangeShapes

/-- What was read at a type tells a value of a Lean type. -/
def OpX (P : Program) (t : TypeId) (α : Type) [Enc α] (ok : α → Prop) : Prop := Opens P t (Enc.sz α) (fun (x : α) => ec x) ok

section
variable {P : Program} {t e : TypeId} {α : Type} [Enc α]

theorem wf_i64 {n : Int} (h : (Lit.int .i64 n).wf = true) : -9223372036854775808 ≤ n ∧ n ≤ 9223372036854775807 := by
  simp [Lit.wf, IntKind.min, IntKind.max, IntKind.bits, IntKind.signed] at h; omega
theorem OpX.int (ht : P.underlying t = some (.int .i64)) : OpX P t Int (fun n => -9223372036854775808 ≤ n ∧ n ≤ 9223372036854775807) := by
  intro H en w base held fuel cs x h hw
  obtain ⟨v, h1, h2, h3⟩ := Opens.int ht en w base held fuel cs x h hw
  exact ⟨v, h1, wf_i64 h2, fun d hd => by obtain rfl : d = 0 := by simpa [Enc.sz] using hd
                                          exact h3 0 (by omega)⟩
theorem OpX.u8 (ht : P.underlying t = some (.int .u8)) : OpX P t UInt8 (fun _ => True) := by
  intro H en w base held fuel cs x h hw
  obtain ⟨v, h1, h2, h3⟩ := Opens.int ht en w base held fuel cs x h hw
  refine ⟨UInt8.ofNat v.toNat, h1, trivial, fun d hd => ?_⟩
  obtain rfl : d = 0 := by simpa [Enc.sz] using hd
  have := h3 0 (by omega)
  have hv : ((UInt8.ofNat v.toNat).toNat : Int) = v := by
    simp [Lit.wf, IntKind.min, IntKind.max, IntKind.bits, IntKind.signed] at h2
    simp only [UInt8.toNat_ofNat']
    omega
  show VR flat0 w (.int .u8 ((UInt8.ofNat v.toNat).toNat : Int)) _
  rw [hv]; exact this
theorem OpX.u32 (ht : P.underlying t = some (.int .u32)) : OpX P t UInt32 (fun _ => True) := by
  intro H en w base held fuel cs x h hw
  obtain ⟨v, h1, h2, h3⟩ := Opens.int ht en w base held fuel cs x h hw
  refine ⟨UInt32.ofNat v.toNat, h1, trivial, fun d hd => ?_⟩
  obtain rfl : d = 0 := by simpa [Enc.sz] using hd
  have := h3 0 (by omega)
  have hv : ((UInt32.ofNat v.toNat).toNat : Int) = v := by
    simp [Lit.wf, IntKind.min, IntKind.max, IntKind.bits, IntKind.signed] at h2
    simp only [UInt32.toNat_ofNat']
    omega
  show VR flat0 w (.int .u32 ((UInt32.ofNat v.toNat).toNat : Int)) _
  rw [hv]; exact this
theorem OpX.u64 (ht : P.underlying t = some (.int .u64)) : OpX P t UInt64 (fun _ => True) := by
  intro H en w base held fuel cs x h hw
  obtain ⟨v, h1, h2, h3⟩ := Opens.int ht en w base held fuel cs x h hw
  refine ⟨UInt64.ofNat v.toNat, h1, trivial, fun d hd => ?_⟩
  obtain rfl : d = 0 := by simpa [Enc.sz] using hd
  have := h3 0 (by omega)
  have hv : ((UInt64.ofNat v.toNat).toNat : Int) = v := by
    simp [Lit.wf, IntKind.min, IntKind.max, IntKind.bits, IntKind.signed] at h2
    simp only [UInt64.toNat_ofNat']
    omega
  show VR flat0 w (.int .u64 ((UInt64.ofNat v.toNat).toNat : Int)) _
  rw [hv]; exact this
theorem OpX.bool (ht : P.underlying t = some .bool) : OpX P t Bool (fun _ => True) := by
  intro H en w base held fuel cs x h hw
  obtain ⟨v, h1, h2, h3⟩ := Opens.bool ht en w base held fuel cs x h hw
  exact ⟨v, h1, h2, fun d hd => by obtain rfl : d = 0 := by simpa [Enc.sz] using hd
                                   exact h3 0 (by omega)⟩
theorem OpX.str (ht : P.underlying t = some .string) : OpX P t Str (fun s => s.l.length ≤ maxLen ∧ s.l.length ≤ reachBytes) := by
  intro H en w base held fuel cs x h hw
  obtain ⟨v, h1, h2, h3⟩ := Opens.str ht en w base held fuel cs x h hw
  have hv : (Str.mk v.data.toList).ba = v := by unfold Str.ba; simp
  refine ⟨⟨v.data.toList⟩, h1, ?_, fun d hd => ?_⟩
  · exact ⟨by simpa using h2.1, by simpa using h2.2⟩
  · obtain rfl : d = 0 := by simpa [Enc.sz] using hd
    show VR flat0 w (.str (Str.mk v.data.toList).ba) _
    rw [hv]
    exact h3 0 (by omega)
theorem OpX.slice {ok : α → Prop} (ht : P.underlying t = some (.slice e)) (hc : P.cellsOf e = Enc.sz α) (hby : 1 ≤ P.bytesOf e) (ho : OpX P e α ok) : OpX P t (List α) (fun xs => xs.length ≤ reachBytes ∧ ∀ y ∈ xs, ok y) := by
  intro H en w base held fuel cs x h hw
  obtain ⟨v, h1, h2, h3⟩ := Opens.slice ht hc Enc.pos hby ho en w base held fuel cs x h hw
  exact ⟨v, h1, h2, fun d hd => by obtain rfl : d = 0 := by simpa [Enc.sz] using hd
                                   exact h3 0 (by omega)⟩
theorem OpX.one {ok : α → Prop} (ho : OpX P t α ok) (hs : Enc.agg α = false) {H : Type} {en : TypeId × Value → H} {w : World} {base : Nat} {held : Bool} {v : Value} {d : DataW H} {ps : List MemPlace}
    (hv : v.cells = #[v]) (h : DataW.Trod en P w base (fun _ => true) held t v d ps) (hw : ∀ n ∈ d.weights P t, n ≤ reachBytes) : ∃ a : α, ok a ∧ VR flat0 w (Enc.v a) v := by
  have h1 := Enc.one hs
  unfold OpX at ho
  rw [h1] at ho
  obtain ⟨a, h2, h3⟩ := Opens.one ho hv h hw
  refine ⟨a, h2, ?_⟩
  rw [Enc.veq, hs]
  exact h3
end
end Go.AX

/- Arguments: structs, and slices with the bytes that they take. -/
namespace Go.AM
open Go.RowKit Go.ChangeShapes
section
variable {P : Program} {t e : TypeId} {k : IntKind}
theorem Opens.sliceB {sz : Nat} {α : Type} {enc : α → Nat → AV} {ok : α → Prop} (ht : P.underlying t = some (.slice e)) (hc : P.cellsOf e = sz) (h0 : 0 < sz) {by' : Nat} (hby : P.bytesOf e = by') (ho : Opens P e sz enc ok) :
    Opens P t 1 (encV sz enc) (fun xs => xs.length * by' ≤ reachBytes ∧ ∀ y ∈ xs, ok y) := by
  intro H en w base held fuel cs x h hw
  rcases DataW.trod_slice ht h with ⟨rfl, _⟩ | ⟨a, len, cap, elems, rest, n, rfl, rfl, rfl, hb, hl, hm, hlen, hel, _⟩
  · refine ⟨([] : List α), rfl, ⟨by simp, fun y hy => by cases hy⟩, fun d hd => ?_⟩
    obtain rfl : d = 0 := by omega
    exact Or.inl ⟨rfl, by simp, rfl⟩
  · rw [hc] at hel
    have each : ∀ i, i < len → ∃ v : α, ok v ∧ ∀ d, d < sz → (∃ u, w.cell? ⟨a.block, a.off + (i * sz + d), none⟩ = some u ∧ VR flat0 w (enc v d) u) ∧ a.block < w.heap.size ∧ (i = 0 → d = 0 → a.spot = none) := by
      intro i hi
      have h1 := hel i hi
      have hi' : i < elems.length := by omega
      rw [List.getElem?_eq_getElem hi'] at h1
      obtain ⟨cs', h2, h3⟩ := Option.bind_eq_some_iff.1 h1
      obtain ⟨v, h4, h5, h6⟩ := ho en w base held n cs' _ h3 fun k hk => hw k (by
        simp only [DataW.weights, ht]
        refine List.mem_cons_of_mem _ (List.mem_append_left _ (weights_all (List.mem_map_of_mem (List.getElem_mem hi')) hk)))
      obtain ⟨h7, h8⟩ := cells_at h2
      have hblk : (a.add (i * sz)).block = a.block := by unfold Addr.add; split <;> rfl
      have hoff : (a.add (i * sz)).off = a.off + i * sz := by
        unfold Addr.add
        split
        · rename_i hz; rw [hz]; rfl
        · rfl
      refine ⟨v, h5, fun d hd => ⟨⟨_, ?_, h6 d hd⟩, ?_⟩⟩
      · have := (h8 d hd).1
        rw [hblk, hoff] at this
        rw [← Nat.add_assoc]
        exact this
      · have h9 := h8 d hd
        rw [hblk] at h9
        refine ⟨h9.2.1, fun e1 e2 => ?_⟩
        subst e1
        have := h9.2.2 e2
        simpa [Addr.add] using this
    obtain ⟨xs, hx1, hx2⟩ := exists_list len each
    refine ⟨xs, rfl, ⟨?_, fun y hy => ?_⟩, fun d hd => ?_⟩
    · have := hw _ (by simp only [DataW.weights, ht]; exact List.mem_cons_self)
      simp only [List.length_map] at this
      rw [hby] at this
      have h4 : xs.length * by' ≤ (elems.length + rest.length) * by' := Nat.mul_le_mul_right _ (by omega)
      omega
    · obtain ⟨i, hi, rfl⟩ := List.getElem_of_mem hy
      exact (hx2 i _ (List.getElem?_eq_getElem hi)).1
    · obtain rfl : d = 0 := by omega
      refine Or.inr ⟨a, cap, by rw [hx1]; rfl, by rw [hx1]; exact hl, fun hpos => ?_, fun j hj => ?_⟩
      · have hlen0 : 0 < xs.length := by
          rcases Nat.eq_zero_or_pos xs.length with h | h
          · rw [h] at hpos; simp at hpos
          · exact h
        have := (hx2 0 _ (List.getElem?_eq_getElem hlen0)).2 0 h0
        exact ⟨this.2.2 rfl rfl, sealed0 this.2.1⟩
      · have hq : j / sz < xs.length := Nat.div_lt_of_lt_mul (by rw [Nat.mul_comm]; exact hj)
        obtain ⟨⟨u, hu1, hu2⟩, _⟩ := (hx2 _ _ (List.getElem?_eq_getElem hq)).2 (j % sz) (Nat.mod_lt _ h0)
        refine ⟨u, ?_, ?_⟩
        · rw [← hu1, Nat.mul_comm, Nat.div_add_mod]
        · rw [rowL_split h0, List.getElem?_eq_getElem hq]
          exact hu2
end
end Go.AM
namespace Go.AX
open Go.AM Go.RowKit Go.ChangeShapes
section
variable {P : Program} {t e : TypeId} {α : Type} [Enc α]
theorem OpX.sliceB {ok : α → Prop} {by' : Nat} (ht : P.underlying t = some (.slice e)) (hc : P.cellsOf e = Enc.sz α) (hby : P.bytesOf e = by') (ho : OpX P e α ok) : OpX P t (List α) (fun xs => xs.length * by' ≤ reachBytes ∧ ∀ y ∈ xs, ok y) := by
  intro H en w base held fuel cs x h hw
  obtain ⟨v, h1, h2, h3⟩ := Opens.sliceB ht hc Enc.pos hby ho en w base held fuel cs x h hw
  exact ⟨v, h1, h2, fun d hd => by obtain rfl : d = 0 := by simpa [Enc.sz] using hd
                                   exact h3 0 (by omega)⟩
theorem OpX.oneA {ok : α → Prop} (ho : OpX P t α ok) (hs : Enc.agg α = true) {H : Type} {en : TypeId × Value → H} {w : World} {base : Nat} {held : Bool} {v : Value} {d : DataW H} {ps : List MemPlace} {vs : Array Value}
    (hv : v = .agg vs) (h : DataW.Trod en P w base (fun _ => true) held t v d ps) (hw : ∀ n ∈ d.weights P t, n ≤ reachBytes) : ∃ a : α, ok a ∧ VR flat0 w (Enc.v a) v := by
  subst hv
  obtain ⟨fuel, hf⟩ := h
  obtain ⟨a, h1, h2, h3⟩ := ho en w base held fuel _ _ hf hw
  refine ⟨a, h2, ?_⟩
  rw [Enc.veq, if_pos hs]
  have hc : (Value.agg vs).cells = vs := rfl
  rw [hc] at h1 h3
  have h1 : vs.size = Enc.sz α := by simpa using h1
  refine ⟨vs, rfl, h1, fun i hi => ?_⟩
  have := h3 i hi
  rw [List.getD_eq_getElem?_getD, Array.getElem?_toList] at this
  rw [Array.getD_eq_getD_getElem?]
  exact this
end
end Go.AX

/- Plain laws: loops, lists and needs, with no program in sight. -/
namespace Go.AX
open Go.AM

theorem FUEL_eq : FUEL = 4611686018427387904 := by unfold FUEL; rfl
theorem iter_inv {σ ρ : Type} {f : σ → Option (σ ⊕ ρ)} (I : σ → Prop) (R : ρ → Prop) (m : σ → Nat)
    (step : ∀ s, I s → (∃ s', f s = some (.inl s') ∧ I s' ∧ m s' < m s) ∨ (∃ r, f s = some (.inr r) ∧ R r)) : ∀ n s, I s → m s < n → ∃ r, iter f n s = some r ∧ R r
  | 0, s, _, hm => by omega
  | n + 1, s, hI, hm => by
    rcases step s hI with ⟨s', h1, h2, h3⟩ | ⟨r, h1, h2⟩
    · obtain ⟨r, h4, h5⟩ := iter_inv I R m step n s' h2 (by omega)
      exact ⟨r, by simp only [iter, h1, h4], h5⟩
    · exact ⟨r, by simp only [iter, h1], h2⟩
/-- A loop that keeps I and comes nearer its end. -/
theorem run_inv {σ ρ : Type} {f : σ → Option (σ ⊕ ρ)} (I : σ → Prop) (R : ρ → Prop) (m : σ → Nat) {s : σ} (h0 : I s) (hm : m s ≤ 4000000000000000000)
    (step : ∀ s, I s → (∃ s', f s = some (.inl s') ∧ I s' ∧ m s' < m s) ∨ (∃ r, f s = some (.inr r) ∧ R r)) : ∃ r, run f s = some r ∧ R r := by
  unfold run
  exact iter_inv I R m step _ s h0 (by rw [FUEL_eq]; omega)
/-- A loop with one answer. -/
theorem run_is {σ ρ : Type} {f : σ → Option (σ ⊕ ρ)} (r : ρ) (I : σ → Prop) (m : σ → Nat) {s : σ} (h0 : I s) (hm : m s ≤ 4000000000000000000)
    (step : ∀ s, I s → (∃ s', f s = some (.inl s') ∧ I s' ∧ m s' < m s) ∨ f s = some (.inr r)) : run f s = some r := by
  obtain ⟨r', h1, h2⟩ := run_inv I (fun x => x = r) m h0 hm (fun s hs => (step s hs).imp id fun h => ⟨r, h, rfl⟩)
  rw [h1, h2]

section
variable {α : Type}
theorem getI_nat {xs : List α} {i : Nat} (h : i < xs.length) : getI xs (i : Int) = some xs[i] := by
  unfold getI
  rw [if_pos (by omega)]
  simp [h]
theorem getI_some {xs : List α} {i : Int} (h0 : 0 ≤ i) (h : i < xs.length) : getI xs i = some (xs[i.toNat]'(by omega)) := by
  unfold getI
  rw [if_pos h0, List.getElem?_eq_getElem (by omega)]
theorem need_is {c : Prop} [Decidable c] (h : c) : need c = some () := by unfold need; rw [if_pos h]
@[simp] theorem optG_true [Inhabited α] (o : Option α) : optG true o = o := rfl
@[simp] theorem optG_false [Inhabited α] (o : Option α) : optG false o = some default := rfl
theorem wr_id {x : Int} (h1 : -9223372036854775808 ≤ x) (h2 : x ≤ 9223372036854775807) : wr x = x := wr_eq h1 h2
theorem wr_succ {n : Nat} (h : n < 9223372036854775807) : wr ((n : Int) + 1) = ((n + 1 : Nat) : Int) := by rw [wr_eq (by omega) (by omega)]; omega
theorem slc_all (xs : List α) : slc xs 0 xs.length = xs := by simp [slc]
theorem nilU_same {ρ : Type} [DecidableEq ρ] {xs : List α} {k : Bool → Option ρ} {r : ρ} (h1 : xs = [] → k true = some r) (h2 : k false = some r) : nilU xs k = some r := by
  unfold nilU
  split
  · rw [h1 rfl, h2]; simp
  · exact h2
end
end Go.AX
