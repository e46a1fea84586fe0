import Derived.Test.YtpipaggkbiapjaaDoorXV
/- Loops that are walked round by round, and slices of pointers written out. -/
namespace Go.AX
open Go.AM Go.RowKit
set_option linter.unusedSectionVars false
section
variable {P : Program} {nt : Nat} {env : Env} {h : Hp} {Q : Post} {b : KC}

/-- A loop that ends within so many rounds. -/
def unr (P : Program) (nt : Nat) (b : KC) (Q : Post) : Nat → Env → Hp → Prop
  | 0, _, _ => False
  | n + 1, env, h => TK P nt b (thenQ (unr P nt b Q n) Q) env h
theorem TK.unroll (n : Nat) (h0 : unr P nt b Q n env h) : TK P nt (.loop b) Q env h := by
  refine TK.loop (fun (s : Nat) env h => unr P nt b Q s env h) id n h0 ?_
  intro s env h hI
  cases s with
  | zero => exact hI.elim
  | succ s =>
    refine TK.mono hI ?_
    intro e env' h' hq
    cases e <;> first | exact ⟨s, hq, Nat.lt_succ_self _⟩ | exact hq
theorem unr_s {n : Nat} (k : TK P nt b (thenQ (unr P nt b Q n) Q) env h) : unr P nt b Q (n + 1) env h := k
end

section
variable {C : Cx} {nt : Nat} {env : Env} {h : Hp} {K : Env → Hp → Prop} {gc gx gy : Bool} {t : TypeId} {x y : X}

/-- Pointers into own rows, written out. -/
def LitR (env : Env) (h : Hp) : Nat → List (Nat × X) → List AV → Prop
  | _, [], [] => True
  | i, (k, x) :: r, .ref b o st :: as => (k = i ∧ ev env x = (true, .ref b o st) ∧ refOK h b st) ∧ LitR env h (i + 1) r as
  | _, _, _ => False
theorem litR_of : ∀ {ps : List (Nat × X)} {as : List AV} {i : Nat}, LitR env h i ps as → ∃ l S, litA h env 1 i ps = some (l, S) ∧ S ∧ l = as.map fun a (_ : Nat) => a
  | [], [], _, _ => ⟨[], True, rfl, trivial, rfl⟩
  | (k, x) :: r, .ref b o st :: as, i, ⟨⟨hk, hx, hr⟩, hl⟩ => by
    obtain ⟨l, S, h1, h2, h3⟩ := litR_of hl
    refine ⟨(fun _ => .ref b o st) :: l, (k = i ∧ (ev env x).1 = true ∧ refOK h b st ∧ 1 = 1) ∧ S, ?_, ⟨⟨hk, by rw [hx], hr, rfl⟩, h2⟩, by rw [h3]; rfl⟩
    simp only [litA, hx, cellsA, h1]
theorem TL.litR {d n : Nat} {ps : List (Nat × X)} {e : TypeId} {ei : TI} {ks : List KO} (as : List AV) (hk : C.kd t = some (.slc e)) (he : C.ty e = some ei) (hs : ei.sz = 1) (hl : LitR env h 0 ps as) (hn : as.length = n)
    (hlim : Nat.ble n 16777216 = true) (hd : Nat.ble (d + 1) nt = true) (rest : TL C.P nt ks K ((d, true, .sl (ofL as) n n) :: env) h) : TL C.P nt (⟨some d, none, .bsl t n ps⟩ :: ks) K env h := by
  obtain ⟨l, S, h1, h2, h3⟩ := litR_of hl
  refine TL.bslv (l := l) (S := S) (gc := true) rfl rfl (dlt hd) hk he (by rw [hs, Nat.mul_one]; exact Nat.le_of_ble_eq_true hlim) (by rw [hs]; exact h1) (fun _ => h2) (by rw [h3, List.length_map, hn]) ?_
  have e1 : catC ei.sz l = ofL as := by
    funext j
    rw [hs, h3]
    simp only [catC, ofL, List.getD_eq_getElem?_getD, Nat.div_one, List.getElem?_map]
    cases as[j]? <;> rfl
  rw [e1, hs, Nat.mul_one]
  exact rest
theorem p_lenR' {e n m : Nat} {c : Nat → AV} (hk : C.kd t = some (.slc e)) (hx : ev env x = (gx, .sl c m n)) (hg : gc = true → gx = true := by first | exact fun _ => rfl | simp_all) :
    PVok C h env (.bi .len [t] [x]) gc (.int .i64 n) := by
  refine pvE (S := (gx = true ∧ lenT C t (.sl c m n)) ∧ True) ?_ fun e => ⟨⟨hg e, by unfold lenT; rw [hk]; trivial⟩, trivial⟩
  simp only [pv, hx]; rfl
theorem p_iaR {e : TypeId} {ei : TI} {n m : Nat} {c : Nat → AV} {k : IntKind} {i : Int} (hk : C.kd t = some (.slc e)) (he : C.ty e = some ei) (hs : ei.sz = 1) (hx : ev env x = (gx, .sl c m n)) (hy : ev env y = (gy, .int k i))
    (hi : 0 ≤ i ∧ i < n) (hm : 0 < m) (hg : gc = true → gx = true ∧ gy = true := by first | exact fun _ => ⟨rfl, rfl⟩ | simp_all) : PVok C h env (.ia t x y) gc (.vref c m i.toNat) := by
  refine pvE (S := (gx = true ∧ gy = true) ∧ (0 ≤ i ∧ i < n) ∧ 0 < m) ?_ fun e => ⟨hg e, hi, hm⟩
  simp only [pv, hx, hy, iaA, hk, he, iaB, hs, Nat.mul_one]
/-- Is an own list nil? -/
theorem TL.eqNilO {α : Type} [Enc α] {d b : Nat} {e : TypeId} {xs : List α} {ks : List KO} (nd : Nd h) (hk : C.kd t = some (.slc e)) (hx : ev env x = (true, OL b xs)) (hy : ev env y = (true, .nils)) {j : Nat} {ty : TypeId} (hj : h[j]? = some (b, RL ty xs)) (hd : Nat.ble (d + 1) nt = true)
    (rest : ∀ b : Bool, (b = true → xs = []) → TL C.P nt ks K ((d, true, .bool b) :: env) h) : TL C.P nt (⟨some d, none, .bin .eql t x y⟩ :: ks) K env h := by
  refine TL.cons (gc := true) rfl ?_ (fun e => by simp at e)
  intro o μ a w ho hdst s _ N hN
  obtain ⟨ox, oy, ty', hop, hcx, hcy⟩ := bin_op ho
  have vx := ev_ok hcx s.env (by rw [hx])
  rw [hx] at vx
  have vy := ev_ok hcy s.env (by rw [hy])
  rw [hy] at vy
  have vy : a.eval oy = .slice none 0 0 := vy
  have hb0 : Below w.heap.size w w := Below.refl _ _
  have key : ∀ b : Bool, (b = true → xs = []) → (Sem.run C.P (do eqGuard .eql t ox oy (a.eval ox) (a.eval oy); binOp .eql t (a.eval ox) (a.eval oy)) w = .ok (.bool b) w) → o.wp C.P a w N (fun _ _ _ => False) := by
    intro b hb hrun
    unfold Oper.wp
    have : (execOp a.eval o).run C.P w = .ok (.value (.bool b)) w := by
      simp only [execOp, hop]
      rw [Sem.run_bind, hrun]
      rfl
    rw [this]
    simp only [Oper.upon]
    rw [hdst]
    exact hN μ _ _ _ _ (env_put (v := .bool b) s (Step.refl μ w) s.sim (dlt hd) rfl) (Step.refl μ w) (rest b hb)
  obtain ⟨i, hi, hkk, hK⟩ := kd_ok hk
  have vx : VR μ w (OL b xs) (a.eval ox) := vx
  generalize hcx' : a.eval ox = cx at key vx
  rw [vy] at key
  obtain ⟨_, _, hvir, hB⟩ := vx
  rcases s.sim.row b _ (nd.get hj) with ⟨hv, hf, hm⟩ | ⟨B, cs, hnv, hf, hL, _⟩
  · obtain ⟨_, h2, x0, rfl⟩ := hvir hv
    cases x0 with
    | none => exact key true (fun _ => List.length_eq_zero_iff.1 h2) (run_eql (by simp) (by simp) (by unfold eqGuard; simp) (equal_of fun d => by simp [Op.equalIn, run_und hK]) (.inl rfl))
    | some q => exact key false (fun e => by cases e) (run_eql (by simp) (by simp) (by unfold eqGuard; simp) (equal_of fun d => by simp [Op.equalIn, run_und hK]) (.inl rfl))
  · obtain ⟨_, h5⟩ := hB B hf
    obtain ⟨cap, rfl, _⟩ := h5 hL.symm
    exact key false (fun e => by cases e) (run_eql (by simp) (by simp) (by unfold eqGuard; simp) (equal_of fun d => by simp [Op.equalIn, run_und hK]) (.inl rfl))
end
end Go.AX
