import Derived.Test.YtpipaggkbiapjaaDoorXJ
/- More operations: pointers to what is laid down, nil, clear. -/
namespace Go.AX
open Go.AM Go.RowKit

section
variable {C : Cx} {P : Program} {nt : Nat} {env : Env} {h hS : Hp} {K : Env → Hp → Prop} {gc gx gy : Bool} {t : TypeId} {x y : X} {u : AV} {α β : Type} [Enc α] [Enc β]

theorem p_eqV {e m o : Nat} {cs : Nat → AV} (hk : C.kd t = some (.ptr e)) (hx : ev env x = (gx, .vref cs m o)) (hy : ev env y = (gy, .nilp)) (hg : gc = true → gx = true ∧ gy = true := by first | exact fun _ => ⟨rfl, rfl⟩ | simp_all) :
    PVok C h env (.bin .eql t x y) gc (.bool false) := by
  refine pvE (S := (gx = true ∧ gy = true) ∧ True) ?_ fun e => ⟨hg e, trivial⟩
  have : binAll C h .eql t (.vref cs m o) .nilp = (.bool false, True) := by
    show eqA C h t false _ _ = _
    simp only [eqA, hk, eqB]; rfl
  simp only [pv, hx, hy, this]
theorem p_neV {e m o : Nat} {cs : Nat → AV} (hk : C.kd t = some (.ptr e)) (hx : ev env x = (gx, .vref cs m o)) (hy : ev env y = (gy, .nilp)) (hg : gc = true → gx = true ∧ gy = true := by first | exact fun _ => ⟨rfl, rfl⟩ | simp_all) :
    PVok C h env (.bin .neq t x y) gc (.bool true) := by
  refine pvE (S := (gx = true ∧ gy = true) ∧ True) ?_ fun e => ⟨hg e, trivial⟩
  have : binAll C h .neq t (.vref cs m o) .nilp = (.bool true, True) := by
    show eqA C h t true _ _ = _
    simp only [eqA, hk, eqB]; rfl
  simp only [pv, hx, hy, this]
/-! ### nil or empty -/
/-- What comes of both answers where a list of nothing is asked whether it is nil. -/
def nilU {ρ γ : Type} [DecidableEq ρ] (xs : List γ) (k : Bool → Option ρ) : Option ρ := match xs with
  | [] => if k true = k false then k true else none
  | _ => k false
theorem nilU_t {ρ γ : Type} [DecidableEq ρ] {xs : List γ} {k : Bool → Option ρ} {r : ρ} (hh : nilU xs k = some r) {b : Bool} (hb : b = true → xs = []) : k b = some r := by
  unfold nilU at hh
  split at hh
  · split at hh
    · rename_i h2
      cases b
      · rw [← h2]; exact hh
      · exact hh
    · cases hh
  · rename_i h1
    cases b
    · exact hh
    · exact (h1 (hb rfl)).elim

theorem bin_op {o : Oper} {op : BinOp} {t : TypeId} {x y : X} (ho : cookOp o.op = some (.bin op t x y)) : ∃ ox oy ty, o.op = .binOp op t ox oy ty ∧ cookX ox = some x ∧ cookX oy = some y := by
  unfold cookOp at ho
  split at ho <;> (try (simp at ho; done)) <;> (try (split at ho <;> simp at ho <;> done))
  case h_11 op' t' x' y' ty e =>
    split at ho
    case h_2 => simp at ho
    case h_1 x2 y2 h1 h2 =>
      simp only [Option.some.injEq, I.bin.injEq] at ho
      obtain ⟨rfl, rfl, rfl, rfl⟩ := ho
      exact ⟨_, _, _, e, h1, h2⟩

theorem TL.eqNilU {d : Nat} {e : TypeId} {xs : List α} {ks : List KO} (hk : C.kd t = some (.slc e)) (hx : ev env x = (true, L xs)) (hy : ev env y = (true, .nils)) (hd : Nat.ble (d + 1) nt = true)
    (rest : ∀ b : Bool, (b = true → xs = []) → TL C.P nt ks K ((d, true, .bool b) :: env) h) : TL C.P nt (⟨some d, none, .bin .eql t x y⟩ :: ks) K env h := by
  refine TL.cons (gc := true) rfl ?_ (fun e => by simp at e)
  intro o μ a w ho hdst s _ N hN
  obtain ⟨ox, oy, ty, hop, hcx, hcy⟩ := bin_op ho
  have vx := ev_ok hcx s.env (by rw [hx])
  rw [hx] at vx
  have vy := ev_ok hcy s.env (by rw [hy])
  rw [hy] at vy
  have vy : a.eval oy = .slice none 0 0 := vy
  have hb0 : Below w.heap.size w w := Below.refl _ _
  have key : ∀ b : Bool, (b = true → xs = []) → (Sem.run C.P (do eqGuard .eql t ox oy (a.eval ox) (a.eval oy); binOp .eql t (a.eval ox) (a.eval oy)) w = .ok (.bool b) w) → o.wp C.P a w N (fun _ _ _ => False) := by
    intro b hb hrun
    unfold Oper.wp
    have : (execOp a.eval o).run C.P w = .ok (.value (.bool b)) w := by
      simp only [execOp, hop]
      rw [Sem.run_bind, hrun]
      rfl
    rw [this]
    simp only [Oper.upon]
    rw [hdst]
    exact hN μ _ _ _ _ (env_put (v := .bool b) s (Step.refl μ w) s.sim (dlt hd) rfl) (Step.refl μ w) (rest b hb)
  obtain ⟨i, hi, hkk, hK⟩ := kd_ok hk
  have vx : VR μ w (L xs) (a.eval ox) := vx
  generalize hcx' : a.eval ox = cx at key vx
  rw [vy] at key
  rcases vx with ⟨h0, h1, rfl⟩ | ⟨ad, cap, rfl, _⟩
  · exact key true (fun _ => List.length_eq_zero_iff.1 h0) (run_eql (by simp) (by simp) (by unfold eqGuard; simp) (equal_of fun d => by simp [Op.equalIn, run_und hK]) (.inl rfl))
  · exact key false (fun e => by cases e) (run_eql (by simp) (by simp) (by unfold eqGuard; simp) (equal_of fun d => by simp [Op.equalIn, run_und hK]) (.inl rfl))

/-- A literal of nothing. -/
theorem TL.litZ {d : Nat} {e : TypeId} {ei : TI} {ks : List KO} (hk : C.kd t = some (.slc e)) (he : C.ty e = some ei) (hd : Nat.ble (d + 1) nt = true)
    (rest : TL C.P nt ks K ((d, true, .z0) :: env) h) : TL C.P nt (⟨some d, none, .bsl t 0 []⟩ :: ks) K env h := by
  refine TL.cons (gc := true) rfl ?_ (fun e => by simp at e)
  intro o μ a w ho hdst s hgc N hN
  obtain ⟨out, hrun, o2, o3⟩ := bsl_run (l := []) (S := True) ho hk he (by simp) rfl trivial rfl s
  have hb : Below w.heap.size w { w with heap := w.heap.push (.cells out e) } := below_push
  have st := Step.of_below s.sim.muok hb
  unfold Oper.wp
  rw [hrun]
  simp only [Oper.upon]
  rw [hdst]
  exact hN μ _ _ _ _ (env_put (v := .z0) s st (s.sim.below hb) (dlt hd) ⟨_, rfl⟩) st rest

/-! ### clear -/
theorem TL.clrO {e : TypeId} {ei : TI} {b : Nat} {xs : List α} {l k : Int} {ks : List KO} (nd : Nd h) (z : α) (hk : C.kd t = some (.slc e)) (he : C.ty e = some ei) (hs : ei.sz = Enc.sz α) (hz : ∀ j, j < Enc.sz α → ei.z j = ec z j)
    (hx : ev env x = (true, OS b xs l k)) {j : Nat} (hj : h[j]? = some (b, RL e xs)) (hb : 0 ≤ l ∧ l ≤ k ∧ k ≤ xs.length)
    (rest : Nd (h.set j (b, RL e (clr xs l k z))) → TL C.P nt ks K env (h.set j (b, RL e (clr xs l k z)))) : TL C.P nt (⟨none, none, .bi .clear [t] [x]⟩ :: ks) K env h := by
  have hone : allOne h ei.z ei.sz := by
    rw [hs]
    refine allOne_of fun d hd => ?_
    rw [hz d hd]
    have : d < (Enc.cl z).length := by rw [Enc.len]; exact hd
    unfold ec ofL
    rw [List.getD_eq_getElem?_getD, List.getElem?_eq_getElem this]
    exact oneA_AV1 (Enc.cell _ _ (List.getElem_mem this))
  refine TL.clear rfl rfl rfl hk he (by rw [hx]; rfl) (nd.get hj) rfl hs hone ?_
  have hlen : (clr xs l k z).length = xs.length := by simp [clr]; omega
  refine TL.setrow (q' := RL e (clr xs l k z)) nd hj rfl (by simp [RL, hlen]) (fun p hp => ?_) rest
  have hsz0 := Enc.pos (α := α)
  simp only [RL] at hp ⊢
  have hq : p / Enc.sz α < xs.length := Nat.div_lt_of_lt_mul (by rw [Nat.mul_comm]; exact hp)
  have hm := Nat.mod_lt p hsz0
  have hpd : p = p / Enc.sz α * Enc.sz α + p % Enc.sz α := by rw [Nat.mul_comm]; exact (Nat.div_add_mod _ _).symm
  rw [rowL_split hsz0]
  unfold putC
  have hget : (clr xs l k z)[p / Enc.sz α]? = if l.toNat ≤ p / Enc.sz α ∧ p / Enc.sz α < k.toNat then some z else xs[p / Enc.sz α]? := by
    unfold clr
    rw [List.append_assoc, List.getElem?_append]
    simp only [List.length_take]
    by_cases h1 : p / Enc.sz α < l.toNat
    · rw [if_pos (by omega), if_neg (by omega), List.getElem?_take, if_pos h1]
    · rw [if_neg (by omega), List.getElem?_append]
      simp only [List.length_replicate]
      by_cases h2 : p / Enc.sz α < k.toNat
      · rw [if_pos (by omega), if_pos (by omega), List.getElem?_replicate, if_pos (by omega)]
      · rw [if_neg (by omega), if_neg (by omega), List.getElem?_drop]
        congr 1
        omega
  rw [hget]
  by_cases hin : l.toNat ≤ p / Enc.sz α ∧ p / Enc.sz α < k.toNat
  · have h1 : l.toNat * Enc.sz α ≤ p / Enc.sz α * Enc.sz α := Nat.mul_le_mul_right _ hin.1
    have h2 : (p / Enc.sz α + 1) * Enc.sz α ≤ k.toNat * Enc.sz α := Nat.mul_le_mul_right _ hin.2
    have h3 : l.toNat * Enc.sz α + (k - l).toNat * Enc.sz α = k.toNat * Enc.sz α := by rw [← Nat.add_mul]; congr 1; omega
    rw [Nat.add_mul] at h2
    rw [if_pos hin, if_pos (by omega)]
    rw [rep_at (by rw [hs]; omega), hs, show (p - l.toNat * Enc.sz α) % Enc.sz α = p % Enc.sz α by
      have : p - l.toNat * Enc.sz α = p % Enc.sz α + (p / Enc.sz α - l.toNat) * Enc.sz α := by rw [Nat.sub_mul]; omega
      rw [this, Nat.add_mul_mod_self_right, Nat.mod_mod]]
    exact (hz _ hm).symm
  · rw [if_neg hin, if_neg ?_, rowL_split hsz0]
    rintro ⟨h1, h2⟩
    have h3 : l.toNat * Enc.sz α + (k - l).toNat * Enc.sz α = k.toNat * Enc.sz α := by rw [← Nat.add_mul]; congr 1; omega
    rw [h3] at h2
    apply hin
    constructor
    · exact (Nat.le_div_iff_mul_le hsz0).2 h1
    · exact Nat.div_lt_of_lt_mul (by rw [Nat.mul_comm]; exact h2)

/-! ### ends, looks, regions of open order -/
theorem vok_wk {i : I} {v v' : AV} (hv : gc = true → VOK P nt h env i v) (hw : Wk v v') : gc = true → VOK P nt h env i v' := fun hg o μ a w ho s N hN => hv hg o μ a w ho s N fun c w' h1 h2 => hN c w' (hw _ _ _ h1) h2
def allA (h : Hp) : List AV → Prop
  | [] => True
  | w :: r => oneA h w ∧ allA h r
theorem allA.mem : ∀ {l : List AV}, allA h l → ∀ w ∈ l, oneA h w
  | _ :: _, hh, w, hw => by
    rcases List.mem_cons.1 hw with rfl | hw
    · exact hh.1
    · exact allA.mem hh.2 w hw
theorem look_nil : Look1 h .nils (L ([] : List α)) := look_wk (look_v trivial) Wk_nil
theorem look_z0 : Look1 h .z0 (L ([] : List α)) := look_wk (look_v trivial) Wk_z0
theorem clr_len {γ : Type} {xs : List γ} {l k : Int} {z : γ} (hb : 0 ≤ l ∧ l ≤ k ∧ k ≤ xs.length) : xs.length = (clr xs l k z).length := by simp [clr]; omega

/-- A function may end without ret. -/
theorem TK.endK {Q : Post} {c : KC} (k : ∀ KE : Env → Hp → Prop, (∀ env h, TL P nt [] (fun env h => Q .normal env h) env h → KE env h) → TK P nt c (thenQ KE Q) env h) : TK P nt c Q env h := by
  intro c' hc μ a w s
  refine wp_mono (k _ (fun _ _ h => h) c' hc μ a w s) ?_
  rintro e a1 w1 ⟨μ1, env1, h1, q, s1, st1⟩
  cases e with
  | normal =>
    have q : TL P nt [] (fun env h => Q .normal env h) env1 h1 := q
    obtain ⟨μ2, env2, h2, q2, s2, st2⟩ := q [] rfl (fun p hp => by cases hp) μ1 a1 w1 s1
    exact ⟨μ2, env2, h2, q2, s2, st1.trans st2⟩
  | _ => exact ⟨μ1, env1, h1, q, s1, st1⟩
theorem TL.guardT {d : Option Nat} {g : Option (Nat × Bool)} {i : I} {ks : List KO} (hg : gcOf env g = some true) (hk : TL P nt (⟨d, none, i⟩ :: ks) K env h) : TL P nt (⟨d, g, i⟩ :: ks) K env h := by
  intro os hl hz μ a w hs
  cases os with
  | nil => simp at hl
  | cons o os =>
    have hgo := gc_ok hs hg
    have h1 := hk (o :: os) (by simpa using hl) (fun p hp => by
      simp only [List.zip_cons_cons, List.mem_cons] at hp
      rcases hp with rfl | hp
      · exact hz (o, ⟨d, g, i⟩) (by simp)
      · exact hz p (by simp [hp])) μ a w hs
    simp only [List.zip_cons_cons, wpK] at h1 ⊢
    cases g with
    | none => exact h1
    | some p =>
      obtain ⟨t, want⟩ := p
      simp only [GcSays] at hgo ⊢
      rw [hgo.1 (by trivial)]
      simp only [if_true]
      exact h1
theorem RetQ_end {ts : List Nat} {R : AV → Hp → Prop} (hh : RetQ ts R .ret env h) : RetQ ts R .normal env h := hh
theorem TL.keep (ts : List Nat) {ks : List KO} (k : TL P nt ks K (keepE ts env) h) : TL P nt ks K env h := TL.sub (keepE_sub ts env) k
end
end Go.AX
