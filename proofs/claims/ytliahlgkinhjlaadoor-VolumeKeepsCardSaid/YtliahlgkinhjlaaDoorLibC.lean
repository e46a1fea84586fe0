import Derived.Test.YtliahlgkinhjlaaDoorLibB
namespace Go.AX
open Go.AM Go.RowKit
section
variable {C : Cx} {nt : Nat} {env : Env} {h : Hp} {gc gx gy : Bool} {t : TypeId} {x y : X}
def eqLf (C : Cx) (m m' : Nat) (xs ys : Nat → AV) (t : TypeId) (o : Nat) : Bool × Prop := ((eqS C t (xs o) (ys o)).1, o < m ∧ o < m' ∧ (eqS C t (xs o) (ys o)).2)
def eqF1 (C : Cx) (m m' : Nat) (xs ys : Nat → AV) (t : TypeId) (o : Nat) : Bool × Prop :=
  match C.ty t with
  | some i => match i.kd with
    | .struct fs => ((eqFs C i.sz i.sz (cutM xs o i.sz) (cutM ys o i.sz) fs).1, o + i.sz ≤ m ∧ o + i.sz ≤ m' ∧ (eqFs C i.sz i.sz (cutM xs o i.sz) (cutM ys o i.sz) fs).2)
    | _ => eqLf C m m' xs ys t o
  | none => eqLf C m m' xs ys t o
def eqGs (C : Cx) (m m' : Nat) (xs ys : Nat → AV) : List (TypeId × Nat) → Bool × Prop
  | [] => (true, True)
  | (t, o) :: r => ((eqF1 C m m' xs ys t o).1 && (eqGs C m m' xs ys r).1, (eqF1 C m m' xs ys t o).2 ∧ (eqGs C m m' xs ys r).2)
end
end Go.AX

namespace Go.AX
open Go.AM Go.RowKit
section
variable {C : Cx} {nt : Nat} {env : Env} {h : Hp} {K : Env → Hp → Prop} {x y : X} {t : TypeId} {u : AV} {α : Type} [Enc α]

theorem src_okN {P : Program} {μ : Mu} {w : World} (s : Sim μ h w) {sz n : Nat} {u : AV} {x : Value} {pc : Nat → AV} {S : Prop} (hu : VR μ w u x) (hs : srcA h sz u = some (n, pc, S)) (hS : S) :
    (∀ w1 : World, (Builtin.lenOf x).run P w1 = .ok n w1) ∧ ∀ m, m ≤ n → ∃ new : Array Value, new.size = m * sz ∧ (∀ w1 : World, w1.heap = w.heap → (Builtin.firstCells sz m x).run P w1 = .ok new w1) ∧
      ∀ j, j < m * sz → VR μ w (pc j) (new.getD j undef) := by
  refine ⟨(src_ok (P := P) s hu hs hS).1, fun m hmn => ?_⟩
  have hms : m * sz ≤ n * sz := Nat.mul_le_mul_right _ hmn
  have rows : ∀ (g o : Nat) (cs : Nat → AV), (∀ j, j < m * sz → ∃ u, w.cell? ⟨g, o + j, none⟩ = some u ∧ VR μ w (cs j) u) →
      ∃ new : Array Value, new.size = m * sz ∧ (∀ w1 : World, w1.heap = w.heap → (loadCells ⟨g, o, none⟩ (m * sz)).run P w1 = .ok new w1) ∧ ∀ j, j < m * sz → VR μ w (cs j) (new.getD j undef) := by
    intro g o cs hc
    have hex : ∀ j, ∃ u, j < m * sz → w.cell? ⟨g, o + j, none⟩ = some u ∧ VR μ w (cs j) u := by
      intro j
      by_cases hj : j < m * sz
      · obtain ⟨u, hu⟩ := hc j hj; exact ⟨u, fun _ => hu⟩
      · exact ⟨undef, fun hh => absurd hh hj⟩
    obtain ⟨f, hf⟩ := Classical.axiomOfChoice hex
    refine ⟨((List.range (m * sz)).map f).toArray, by simp, fun w1 h1 => run_loadCells w1 _ _ f (fun j hj => ?_), fun j hj => by simpa [hj] using (hf j hj).2⟩
    rw [cell_at]
    have := (hf j hj).1
    simpa only [World.cell?, h1] using this
  have zero : n = 0 → (∃ ad sc, x = .slice ad 0 sc) → ∃ new : Array Value, new.size = m * sz ∧ (∀ w1 : World, w1.heap = w.heap → (Builtin.firstCells sz m x).run P w1 = .ok new w1) ∧
      ∀ j, j < m * sz → VR μ w (pc j) (new.getD j undef) := by
    rintro h0 ⟨ad, sc, rfl⟩
    have hm0 : m = 0 := by omega
    subst hm0
    exact ⟨#[], by simp, fun w1 _ => by cases ad <;> simp [Builtin.firstCells, loadCells, loadCellsFrom], fun j hj => absurd hj (by omega)⟩
  unfold srcA at hs
  split at hs
  case h_1 cells m' n' =>
    simp only [Option.some.injEq, Prod.mk.injEq] at hs
    obtain ⟨rfl, rfl, rfl⟩ := hs
    rcases hu with ⟨rfl, rfl, rfl⟩ | ⟨ad, cap, rfl, hn, hse, hc⟩
    · exact zero rfl ⟨_, _, rfl⟩
    by_cases h0 : m * sz = 0
    · exact ⟨#[], by simp [h0], fun w1 _ => by simp [Builtin.firstCells, h0, loadCells, loadCellsFrom], fun j hj => absurd hj (by omega)⟩
    · have hm : 0 < m' := by omega
      obtain ⟨hsp, _⟩ := hse hm
      obtain ⟨ab, ao, asp⟩ := ad
      simp only at hsp
      subst hsp
      obtain ⟨new, h1, h2, h3⟩ := rows ab ao cells (fun j hj => hc j (by omega))
      exact ⟨new, h1, fun w1 hw => by simpa [Builtin.firstCells] using h2 w1 hw, h3⟩
  case h_2 =>
    simp only [Option.some.injEq, Prod.mk.injEq] at hs
    obtain ⟨rfl, rfl, rfl⟩ := hs
    obtain rfl : x = .slice none 0 0 := hu
    exact zero rfl ⟨_, _, rfl⟩
  case h_3 b off len st sz' =>
    cases hg : h.get b with
    | none => rw [hg] at hs; simp at hs
    | some r =>
      rw [hg] at hs
      simp only [Option.some.injEq, Prod.mk.injEq] at hs
      obtain ⟨rfl, rfl, rfl⟩ := hs
      obtain ⟨hst, rfl⟩ := hS
      rcases s.rs (by unfold refOK; rw [hg]; exact hst) hu with ⟨_, x', _, _, _, rfl, _, _, _, rfl⟩ | ⟨r', B, cs, cap, hg', _, hB, hL, rfl, hcap, hlen, hh, hE, hmE, hcells⟩
      · exact zero rfl ⟨_, _, rfl⟩
      rw [hg] at hg'
      injection hg' with hg'
      subst hg'
      obtain ⟨new, h1, h2, h3⟩ := rows B.g off (cutM r.cells off (len * sz')) (fun j hj => by
        obtain ⟨u, hu, hv⟩ := hcells (off + j) (by omega)
        exact ⟨u, by simp [World.cell?, hh, hu], by rw [cutM_at (by omega)]; exact hv⟩)
      exact ⟨new, h1, fun w1 hw => by simpa [Builtin.firstCells] using h2 w1 hw, h3⟩
  case h_4 s' =>
    simp only [Option.some.injEq, Prod.mk.injEq] at hs
    obtain ⟨rfl, rfl, rfl⟩ := hs
    obtain rfl : x = .string s' := hu
    subst hS
    refine ⟨(s'.extract 0 m).data.map fun b => .int .u8 b.toNat, by simp; omega, fun w1 _ => by simp [Builtin.firstCells], fun j hj => ?_⟩
    have hj' : j < s'.size := by omega
    have hb : btA s' (j : Int) = (s'[j]'hj').toNat := by simp [btA, hj']
    show _ = _
    rw [hb]
    have hjm : j < min m s'.size := by omega
    simp only [Array.getD, Array.size_map]
    simp only [ByteArray.size_data, ByteArray.size_extract, Nat.sub_zero]
    simp [hjm]
    rfl
  case h_5 =>
    simp only [Option.some.injEq, Prod.mk.injEq] at hs
    obtain ⟨rfl, rfl, rfl⟩ := hs
    obtain ⟨x', rfl⟩ := hu
    exact zero rfl ⟨_, _, rfl⟩
  case h_6 => simp at hs

def cpy {γ : Type} (xs ys : List γ) : List γ := ys.take xs.length ++ xs.drop ys.length
theorem cpy_len {γ : Type} {xs ys : List γ} : xs.length = (cpy xs ys).length := by simp [cpy]; omega
theorem TL.copyO {d b : Nat} {t' e : TypeId} {ei : TI} {xs ys : List α} {ks : List KO} (nd : Nd h) (hk : C.kd t = some (.slc e)) (he : C.ty e = some ei) (hs : ei.sz = Enc.sz α) (hx : ev env x = (true, OL b xs)) {j : Nat} (hj : h[j]? = some (b, RL e xs))
    (hy : ev env y = (true, u)) (hsrc : Src h u ys) (hd : Nat.ble (d + 1) nt = true)
    (rest : Nd (h.set j (b, RL e (cpy xs ys))) → TL C.P nt ks K ((d, true, .int .i64 (min (ys.length : Int) xs.length)) :: env) (h.set j (b, RL e (cpy xs ys)))) : TL C.P nt (⟨some d, none, .bi .copy [t, t'] [x, y]⟩ :: ks) K env h := by
  obtain ⟨pc, S, h1, h2, h3⟩ := hsrc
  have hr := nd.get hj
  refine TL.cons (gc := true) rfl ?_ (fun e => by simp at e)
  intro o μ a w ho hdst s _ N hN
  obtain ⟨ox, oy, hop, hcx, hcy⟩ := two_ops ho
  have vx := ev_ok hcx s.env (by rw [hx])
  rw [hx] at vx
  have vy := ev_ok hcy s.env (by rw [hy])
  rw [hy] at vy
  obtain ⟨hl, hnew⟩ := src_okN (P := C.P) s.sim vy h1 h2
  obtain ⟨new, hns, hnew, hnv⟩ := hnew (min ys.length xs.length) (Nat.min_le_left _ _)
  obtain ⟨_, _, _, hK⟩ := kd_ok hk
  obtain ⟨q, hq, hqs, _, _⟩ := C.info he
  have hsz0 := Enc.pos (α := α)
  have hexec : ∀ r, (Builtin.copy_ #[t, t'] o.type #[a.eval ox, a.eval oy]).run C.P w = r → (execOp a.eval o).run C.P w = r.andThen fun v w' => .ok (.value v) w' := by
    intro r hr
    simp [execOp, hop, resolve, invoke, builtin, hr]
  have hmin : ((min ys.length xs.length : Nat) : Int) = min (ys.length : Int) xs.length := by omega
  have same : xs.length = 0 → xs = [] := fun h0 => List.length_eq_zero_iff.1 h0
  have none0 : xs.length = 0 → (∃ y cap, a.eval ox = .slice y 0 cap) → o.wp C.P a w N (fun _ _ _ => False) := by
    rintro h0 ⟨z, cap, hz⟩
    have hm0 : min ys.length xs.length = 0 := by omega
    rw [hm0] at hnew hns
    have hempty : new.toList = [] := by
      have : new.size = 0 := by simpa using hns
      rw [← Array.length_toList] at this
      exact List.length_eq_zero_iff.1 this
    have hrun : (Builtin.copy_ #[t, t'] o.type #[a.eval ox, a.eval oy]).run C.P w = .ok (goInt 0) w := by
      rw [hz]
      cases z <;> simp [Builtin.copy_, run_und hK, sizeOf, typeInfo, hq, hl, hqs, hs, hnew w rfl, hempty, storeCells]
    unfold Oper.wp
    rw [hexec _ hrun]
    simp only [Result.andThen_ok, Oper.upon]
    rw [hdst]
    have hx0 := same h0
    subst hx0
    have hc0 : cpy ([] : List α) ys = [] := by simp [cpy]
    have e0 : h.set j (b, RL e (cpy ([] : List α) ys)) = h := by rw [hc0]; obtain ⟨hlt, e1⟩ := List.getElem?_eq_some_iff.1 hj; rw [← e1]; exact List.set_getElem_self hlt
    have := rest (by rw [e0]; exact nd)
    rw [e0, show min (ys.length : Int) (([] : List α).length : Int) = 0 by simp; omega] at this
    exact hN μ _ _ _ _ (env_put (v := .int .i64 0) (u := goInt 0) (d := some d) s (Step.refl _ _) s.sim (dlt hd) rfl) (Step.refl _ _) this
  have hx' : VR μ w (.rs b 0 xs.length (xs.length * Enc.sz α) (Enc.sz α)) (a.eval ox) := vx
  rcases s.sim.rs (by unfold refOK; rw [hr]; rfl) hx' with ⟨_, z, _, _, _, hl0, _, _, _, hex⟩ | ⟨r', B, cs, cap, hr', _, hB, hL, hex, hcap, hlen, hh, hE, hmE, hcells⟩
  · exact none0 hl0 ⟨z, 0, hex⟩
  rw [hr] at hr'
  injection hr' with hr'
  subst hr'
  by_cases hl0 : xs.length = 0
  · exact none0 hl0 ⟨_, cap, by rw [hex, hl0]⟩
  have hle : min ys.length xs.length * Enc.sz α ≤ xs.length * Enc.sz α := Nat.mul_le_mul_right _ (Nat.min_le_right _ _)
  have hley : min ys.length xs.length * Enc.sz α ≤ ys.length * Enc.sz α := Nat.mul_le_mul_right _ (Nat.min_le_left _ _)
  have hone : ∀ v ∈ new.toList, v.oneCell' = true := by
    intro v hv
    obtain ⟨q, hq, rfl⟩ := List.getElem_of_mem hv
    simp only [Array.length_toList] at hq
    have hq' : q < min ys.length xs.length * Enc.sz α := by omega
    have h1' : oneA h (pc q) := by
      rw [h3 q (by omega), rowL_split hsz0]
      have hq2 : q / Enc.sz α < ys.length := Nat.div_lt_of_lt_mul (by rw [Nat.mul_comm]; omega)
      rw [List.getElem?_eq_getElem hq2]
      have : q % Enc.sz α < (Enc.cl ys[q / Enc.sz α]).length := by rw [Enc.len]; exact Nat.mod_lt _ hsz0
      show oneA _ (ec _ _)
      unfold ec ofL
      rw [List.getD_eq_getElem?_getD, List.getElem?_eq_getElem this]
      exact oneA_AV1 (Enc.cell _ _ (List.getElem_mem this))
    have := oneA_ok s.sim (hnv q hq') h1'
    simpa [Array.getD, hq] using this
  have hmr : (RL e xs).m = xs.length * Enc.sz α := rfl
  have hfit : 0 + new.toList.length ≤ cs.size := by rw [Array.length_toList, hns, hE]; omega
  have hst := run_storeCells_at C.P B.g 0 e new.toList 0 cs w hh (by simpa using hfit) hone
  let cs' : Array Value := (cs.toList.take 0 ++ new.toList ++ cs.toList.drop (0 + new.toList.length)).toArray
  have hrun : (Builtin.copy_ #[t, t'] o.type #[a.eval ox, a.eval oy]).run C.P w = .ok (goInt (min ys.length xs.length : Nat)) (w.setRow B.g cs') := by
    simp only [Nat.add_zero] at hst
    rw [hex]
    simp [Builtin.copy_, run_und hK, sizeOf, typeInfo, hq, hl, hqs, hs, hnew w rfl]
    rw [hst]
    rfl
  have hget : ∀ q, cs'[q]? = if 0 ≤ q ∧ q < 0 + min ys.length xs.length * Enc.sz α then new[q - 0]? else cs[q]? := by
    intro q
    have := seg_get cs.toList new.toList 0 q (by simpa using hfit)
    simpa [cs', hns] using this
  have hsize : cs'.size = cs.size := by simp [cs', hns]; omega
  obtain ⟨hu, nd'⟩ := nd.upd (r' := RL e (cpy xs ys)) hj
  have hlc : (cpy xs ys).length = xs.length := cpy_len.symm
  have hcl : ∀ q, q < xs.length * Enc.sz α → (RL e (cpy xs ys)).cells q = if q < min ys.length xs.length * Enc.sz α then pc q else (RL e xs).cells q := by
    intro q hq
    show rowL (Enc.sz α) ec (cpy xs ys) q = _
    have hq2 : q / Enc.sz α < xs.length := Nat.div_lt_of_lt_mul (by rw [Nat.mul_comm]; omega)
    by_cases hc : q < min ys.length xs.length * Enc.sz α
    · rw [if_pos hc, h3 q (by omega), rowL_split hsz0, rowL_split hsz0]
      have hq3 : q / Enc.sz α < min ys.length xs.length := Nat.div_lt_of_lt_mul (by rw [Nat.mul_comm]; omega)
      have : (cpy xs ys)[q / Enc.sz α]? = ys[q / Enc.sz α]? := by
        unfold cpy
        rw [List.getElem?_append_left (by simp; omega), List.getElem?_take, if_pos (by omega)]
      rw [this]
    · rw [if_neg hc]
      show _ = rowL (Enc.sz α) ec xs q
      rw [rowL_split hsz0, rowL_split hsz0]
      have hq3 : min ys.length xs.length ≤ q / Enc.sz α := (Nat.le_div_iff_mul_le hsz0).2 (by omega)
      have : (cpy xs ys)[q / Enc.sz α]? = xs[q / Enc.sz α]? := by
        unfold cpy
        rw [List.getElem?_append_right (by simp; omega), List.getElem?_drop]
        congr 1
        simp
        omega
      rw [this]
  obtain ⟨μ', s', st, _, _, hf⟩ := s.sim.turn (w' := w.setRow B.g cs') (r' := RL e (cpy xs ys)) (B' := B) (cs := cs') hr hB (.inl rfl) (by simp; exact (s.sim.lt b B hB).2) (Nat.le_refl _) (fun _ => rfl)
    (by rw [hL]; simp [RL, hlc]) (setRow_heap w B.g cs cs' e (0, 0) hh) (by rw [hsize, hE]) (by simp only [RL, hlc]; omega) (fun q hq => by
      have hq' : q < xs.length * Enc.sz α := by simpa [RL, hlc] using hq
      rw [hget q, hcl q hq']
      by_cases hr2 : q < min ys.length xs.length * Enc.sz α
      · rw [if_pos ⟨Nat.zero_le _, by omega⟩, if_pos hr2]
        have hlt : q < new.size := by omega
        refine ⟨new[q], by simp [hlt], ?_⟩
        have := hnv q hr2
        simpa [Array.getD, hlt] using this
      · rw [if_neg (by omega), if_neg hr2]
        exact hcells q (by omega)) (fun k' _ hk' => setRow_other w B.g k' cs' hk') (by simp) rfl rfl rfl
  have := rest nd'
  rw [← hu] at this
  unfold Oper.wp
  rw [hexec _ hrun]
  simp only [Result.andThen_ok, Oper.upon]
  rw [hdst]
  rw [hmin.symm] at this
  exact hN μ' _ _ _ _ (env_put (v := .int .i64 _) (u := goInt _) (d := some d) s st s' (dlt hd) rfl) st this
end
end Go.AX

namespace Go.AX
open Go.AM
theorem FUEL_eq : FUEL = 4611686018427387904 := by unfold FUEL; rfl
theorem iter_inv {σ ρ : Type} {f : σ → Option (σ ⊕ ρ)} (I : σ → Prop) (R : ρ → Prop) (m : σ → Nat)
    (step : ∀ s, I s → (∃ s', f s = some (.inl s') ∧ I s' ∧ m s' < m s) ∨ (∃ r, f s = some (.inr r) ∧ R r)) : ∀ n s, I s → m s < n → ∃ r, iter f n s = some r ∧ R r
  | 0, s, _, hm => by omega
  | n + 1, s, hI, hm => by
    rcases step s hI with ⟨s', h1, h2, h3⟩ | ⟨r, h1, h2⟩
    · obtain ⟨r, h4, h5⟩ := iter_inv I R m step n s' h2 (by omega)
      exact ⟨r, by simp only [iter, h1, h4], h5⟩
    · exact ⟨r, by simp only [iter, h1], h2⟩

theorem run_inv {σ ρ : Type} {f : σ → Option (σ ⊕ ρ)} (I : σ → Prop) (R : ρ → Prop) (m : σ → Nat) {s : σ} (h0 : I s) (hm : m s ≤ 4000000000000000000)
    (step : ∀ s, I s → (∃ s', f s = some (.inl s') ∧ I s' ∧ m s' < m s) ∨ (∃ r, f s = some (.inr r) ∧ R r)) : ∃ r, run f s = some r ∧ R r := by
  unfold run
  exact iter_inv I R m step _ s h0 (by rw [FUEL_eq]; omega)

theorem run_is {σ ρ : Type} {f : σ → Option (σ ⊕ ρ)} (r : ρ) (I : σ → Prop) (m : σ → Nat) {s : σ} (h0 : I s) (hm : m s ≤ 4000000000000000000)
    (step : ∀ s, I s → (∃ s', f s = some (.inl s') ∧ I s' ∧ m s' < m s) ∨ f s = some (.inr r)) : run f s = some r := by
  obtain ⟨r', h1, h2⟩ := run_inv I (fun x => x = r) m h0 hm (fun s hs => (step s hs).imp id fun h => ⟨r, h, rfl⟩)
  rw [h1, h2]
section
variable {α : Type}
theorem getI_nat {xs : List α} {i : Nat} (h : i < xs.length) : getI xs (i : Int) = some xs[i] := by
  unfold getI
  rw [if_pos (by omega)]
  simp [h]
theorem need_is {c : Prop} [Decidable c] (h : c) : need c = some () := by unfold need; rw [if_pos h]
@[simp] theorem optG_true [Inhabited α] (o : Option α) : optG true o = o := rfl
@[simp] theorem optG_false [Inhabited α] (o : Option α) : optG false o = some default := rfl
theorem wr_succ {n : Nat} (h : n < 9223372036854775807) : wr ((n : Int) + 1) = ((n + 1 : Nat) : Int) := by rw [wr_eq (by omega) (by omega)]; omega
theorem slc_all (xs : List α) : slc xs 0 xs.length = xs := by simp [slc]
theorem nilU_same {ρ : Type} [DecidableEq ρ] {xs : List α} {k : Bool → Option ρ} {r : ρ} (h1 : xs = [] → k true = some r) (h2 : k false = some r) : nilU xs k = some r := by
  unfold nilU
  split
  · rw [h1 rfl, h2]; simp
  · exact h2
end
end Go.AX

namespace Go.AX
open Go.AM Go.RowKit

def Grid {α : Type} [Enc α] (e : TypeId) : Hp → List AV → List (List α) → Prop
  | [], [], [] => True
  | (b, r) :: T, c :: cs, xs :: xss => (r = RL e xs ∧ c = OL b xs) ∧ Grid e T cs xss
  | _, _, _ => False
section
variable {α : Type} [Enc α] {e : TypeId}
theorem Grid.len : ∀ {T : Hp} {cs : List AV} {xss : List (List α)}, Grid e T cs xss → T.length = xss.length ∧ cs.length = xss.length
  | [], [], [], _ => ⟨rfl, rfl⟩
  | (b, r) :: T, c :: cs, xs :: xss, h => by
    obtain ⟨h1, h2⟩ := Grid.len h.2
    exact ⟨by simp [h1], by simp [h2]⟩
theorem Grid.at : ∀ {T : Hp} {cs : List AV} {xss : List (List α)} {k : Nat} {a : List α}, Grid e T cs xss → xss[k]? = some a → ∃ nm, T[k]? = some (nm, RL e a) ∧ cs[k]? = some (OL nm a)
  | [], [], [], _, _, _, ha => by simp at ha
  | (b, r) :: T, c :: cs, xs :: xss, 0, a, h, ha => by
    simp only [List.getElem?_cons_zero, Option.some.injEq] at ha
    subst ha
    obtain ⟨⟨rfl, rfl⟩, _⟩ := h
    exact ⟨b, rfl, rfl⟩
  | (b, r) :: T, c :: cs, xs :: xss, k + 1, a, h, ha => by
    simp only [List.getElem?_cons_succ] at ha ⊢
    exact Grid.at h.2 ha
theorem Grid.set : ∀ {T : Hp} {cs : List AV} {xss : List (List α)} {k nm : Nat} {a ys : List α}, Grid e T cs xss → T[k]? = some (nm, RL e a) → Grid e (T.set k (nm, RL e ys)) (cs.set k (OL nm ys)) (xss.set k ys)
  | [], [], [], _, _, _, _, _, ha => by simp at ha
  | (b, r) :: T, c :: cs, xs :: xss, 0, nm, a, ys, h, ha => by
    simp only [List.getElem?_cons_zero, Option.some.injEq, Prod.mk.injEq] at ha
    obtain ⟨rfl, _⟩ := ha
    exact ⟨⟨rfl, rfl⟩, h.2⟩
  | (b, r) :: T, c :: cs, xs :: xss, k + 1, nm, a, ys, h, ha => by
    simp only [List.getElem?_cons_succ] at ha
    exact ⟨h.1, Grid.set h.2 ha⟩
theorem Grid.push : ∀ {T : Hp} {cs : List AV} {xss : List (List α)} {nm : Nat} {ys : List α}, Grid e T cs xss → Grid e (T ++ [(nm, RL e ys)]) (cs ++ [OL nm ys]) (xss ++ [ys])
  | [], [], [], _, _, _ => ⟨⟨rfl, rfl⟩, trivial⟩
  | _ :: _, _ :: _, _ :: _, _, _, h => ⟨h.1, Grid.push h.2⟩
end
section
variable {C : Cx} {P : Program} {nt : Nat} {env : Env} {h hS : Hp} {K : Env → Hp → Prop} {Q : Post} {gc gx gy : Bool} {t : TypeId} {x y : X} {u : AV} {α β : Type} [Enc α] [Enc β]
end
end Go.AX

namespace Go.AX
open Go.AM Go.RowKit
section
variable {μ : Mu} {h : Hp} {w : World} {P : Program}
theorem freeze_get {g o n k : Nat} {cs : Array Value} {ty : TypeId} (hg : w.heap[g]? = some (.cells cs ty (0, 0))) (hn : n ≠ 0) :
    (w.freeze ⟨g, o, none⟩ n).heap[k]? = if k = g then some (.cells cs ty (o, o + n)) else w.heap[k]? := by
  unfold World.freeze
  rw [if_neg hn]
  simp only [Array.getElem?_modify]
  by_cases hk : k = g
  · subst hk
    rw [if_pos rfl, if_pos rfl, hg]
    simp
  · rw [if_neg hk, if_neg fun e => hk e.symm]

theorem Sim.mark (s : Sim μ h w) {b : Nat} {B : Blk} {cs : Array Value} {ty : TypeId} (hf : μ.f b = some B) (hB : w.heap[B.g]? = some (.cells cs ty (0, 0))) (o : Nat) :
    Step μ w (μ.less b) (w.freeze ⟨B.g, o, none⟩ 1) ∧ Sim (μ.less b) (h.del b) (w.freeze ⟨B.g, o, none⟩ 1) := by
  have hget : ∀ k, (w.freeze ⟨B.g, o, none⟩ 1).heap[k]? = if k = B.g then some (.cells cs ty (o, o + 1)) else w.heap[k]? := fun k => freeze_get hB (by omega)
  have hsz : (w.freeze ⟨B.g, o, none⟩ 1).heap.size = w.heap.size := by simp [World.freeze]
  have L := Step.less (μ := μ) (w := w) (b := b)
  have st : Step μ w (μ.less b) (w.freeze ⟨B.g, o, none⟩ 1) := by
    refine ⟨L.nx, L.old, L.vir, L.ban, fun g hg hk => ?_, fun g hg => ?_, by rw [hsz]; exact Nat.le_refl _, rfl, rfl, rfl⟩
    · rw [hget]
      rw [if_neg]
      rintro rfl
      rcases hk with hk | hk
      · exact s.noban b B hf hk
      · exact hk.2.2 b B hf rfl
    · have h1 := L.sld g hg
      exact ⟨by rw [hsz]; exact h1.1, h1.2.1, h1.2.2⟩
  refine ⟨st, ⟨fun x r e => ?_, fun x x' B1 B2 e e' hg => s.inj x x' B1 B2 (Mu.less_f e).2 (Mu.less_f e').2 hg, fun x B1 e => ?_, fun x hx => s.vlt x hx.2, fun x B1 e => s.noban x B1 (Mu.less_f e).2, fun g hg => by rw [hsz]; exact s.banlt g hg⟩⟩
  · rw [Hp.get_del] at e
    by_cases hx : x = b
    · rw [if_pos hx] at e; cases e
    · rw [if_neg hx] at e
      rcases s.row x r e with ⟨h1, h2, h3⟩ | ⟨B1, cs1, h0, h1, h2, h3, h4, h5, h6⟩
      · exact .inl ⟨⟨hx, h1⟩, by simp only [Mu.less]; rw [if_neg hx]; exact h2, h3⟩
      · have hne : B1.g ≠ B.g := fun hh => hx (s.inj x b B1 B h1 hf hh)
        refine .inr ⟨B1, cs1, fun hh => h0 hh.2, by simp only [Mu.less]; rw [if_neg hx]; exact h1, h2, by rw [hget, if_neg hne]; exact h3, h4, h5, fun i hi => ?_⟩
        obtain ⟨u, hu, hv⟩ := h6 i hi
        exact ⟨u, hu, VR.mono st _ _ hv⟩
  · have := s.lt x B1 (Mu.less_f e).2
    exact ⟨this.1, by rw [hsz]; exact this.2⟩
end
section
variable {C : Cx} {nt : Nat} {env : Env} {h : Hp} {K : Env → Hp → Prop} {t : TypeId} {x : X}

theorem TL.cvtF {d b : Nat} {e : TypeId} {xs : List UInt8} {ks : List KO} (nd : Nd h) (hk : C.kd t = some (.slc e)) (he : C.kd e = some (.int .u8)) (hx : ev env x = (true, OL b xs)) {j : Nat} {ty : TypeId} (hj : h[j]? = some (b, RL ty xs)) (hpos : xs ≠ []) (hd : Nat.ble (d + 1) nt = true)
    (rest : Nd (h.eraseIdx j) → TL C.P nt ks K ((d, true, L xs) :: env) (h.eraseIdx j)) : TL C.P nt (⟨some d, none, .cvt t t x⟩ :: ks) K env h := by
  refine TL.cons (gc := true) rfl ?_ (fun e => by cases e)
  intro o μ a w ho hdst s _ N hN
  obtain ⟨ox, hop, hcx⟩ := cvt_op ho
  have vx := ev_ok hcx s.env (by rw [hx])
  rw [hx] at vx
  have hr := nd.get hj
  have hlen : 0 < xs.length := List.length_pos_iff.2 hpos
  obtain ⟨v1, v2, v3, v4⟩ := vx
  rcases s.sim.row b _ hr with ⟨_, _, h0⟩ | ⟨B, cs, hnv, q1, q2, q3, q4, q5, q6⟩
  · simp only [RL, Enc.sz] at h0; omega
  obtain ⟨w1, w2⟩ := v4 B q1
  obtain ⟨cap, hv, hcap⟩ := w2 q2.symm
  obtain ⟨_, _, _, hK⟩ := kd_ok hk
  obtain ⟨_, _, _, hK2⟩ := kd_ok he
  have hrun : (execOp a.eval o).run C.P w = .ok (.value (.slice (some ⟨B.g, 0, none⟩) xs.length cap)) (w.freeze ⟨B.g, cs.size, none⟩ 1) := by
    have hsh : w.shape? B.g = some (ty, cs.size) := by unfold World.shape?; rw [q3]; rfl
    simp only [execOp, hop, convert, Sem.run_bind, run_und hK, Result.andThen_ok, hv]
    simp [run_und hK2, markStringish, shape, freeze, Sem.run, hsh]
  obtain ⟨st, s'⟩ := Sim.mark s.sim q1 q3 cs.size
  have s2 : Sim (μ.less b) (h.eraseIdx j) (w.freeze ⟨B.g, cs.size, none⟩ 1) := Sim.sub s' fun x q e => by
    obtain ⟨h1, h2⟩ := get_erase nd hj e
    rw [Hp.get_del, if_neg h1]
    exact h2
  unfold Oper.wp
  rw [hrun]
  simp only [Oper.upon]
  rw [hdst]
  refine hN _ _ _ _ _ (env_put (v := L xs) s st s2 (dlt hd) ?_) st (rest (nd.erase j))
  refine Or.inr ⟨_, cap, rfl, ?_, fun _ => ⟨rfl, ?_, ?_, fun x B' e hg => ?_⟩, fun i hi => ?_⟩
  · simp only [RL, Enc.sz] at q5
    simp only [Enc.sz] at hcap
    omega
  · have := (s.sim.lt b B q1).2
    simp only [World.freeze]
    rw [if_neg (by omega)]
    simpa using this
  · exact s.sim.noban b B q1
  · obtain ⟨h1, h2⟩ := Mu.less_f e
    exact h1 (s.sim.inj x b B' B h2 q1 hg)
  · obtain ⟨u, hu, hv⟩ := q6 i hi
    refine ⟨u, ?_, VR.mono st _ _ hv⟩
    unfold World.cell?
    rw [freeze_get q3 (by omega), if_pos rfl]
    simpa using hu

theorem TL.litO {α : Type} [Enc α] {d n : Nat} {ps : List (Nat × X)} {e : TypeId} {ei : TI} {ks : List KO} (nd : Nd h) (xs : List α) (hk : C.kd t = some (.slc e)) (he : C.ty e = some ei) (hs : ei.sz = Enc.sz α) (hl : LitL env 0 ps xs) (hn : n = xs.length)
    (hlim : Nat.ble (n * Enc.sz α) 16777216 = true) (hd : Nat.ble (d + 1) nt = true) (rest : ∀ b, Nd ((b, RL e xs) :: h) → TL C.P nt ks K ((d, true, OL b xs) :: env) ((b, RL e xs) :: h)) : TL C.P nt (⟨some d, none, .bsl t n ps⟩ :: ks) K env h := by
  obtain ⟨l, S, h1, h2, h3, h4⟩ := litA_of (h := h) hl
  refine TL.bsl rfl rfl (dlt hd) hk he (by rw [hs]; exact Nat.le_of_ble_eq_true hlim) (by rw [hs]; exact h1) h2 (by rw [h3, hn]) fun b hb => ?_
  have hv : (AV.sl (catC ei.sz l) (n * ei.sz) n) = L xs := by
    unfold L VS
    rw [hn, hs]
    congr 1
    have := VS_congr (e1 := fun (p : Nat → AV) => p) (l := l) (xs := xs) rfl h3 h4
    rw [← this]
    simp [rowL]
  have hc : catC ei.sz l = rowL (Enc.sz α) ec xs := by
    unfold L VS at hv
    injection hv
  have := rest b (nd.cons _ hb)
  simp only [OL, RL] at this
  rw [hc, hs, hn]
  exact this
end
end Go.AX

namespace Go.AX
open Go.AM Go.RowKit
section
variable {C : Cx} {P : Program} {nt : Nat} {env : Env} {h : Hp} {K : Env → Hp → Prop} {Q : Post} {t : TypeId} {x y : X} {α : Type} [Enc α]
end
section
variable {P : Program} {nt : Nat} {env : Env} {h : Hp} {ks : List KO} {K : Env → Hp → Prop} {r : List (Nat × Nat)} {i : Nat}
end
end Go.AX

namespace Go.AX
open Go.AM Go.RowKit
section
variable {α : Type} [Enc α]

def zp (e : TypeId) (ns : List Nat) (pl : List (List α)) : Hp := List.zipWith (fun b xs => (b, RL e xs)) ns pl

def pcell (ns : List Nat) (pl : List (List α)) (q : Nat) : AV := OL (ns.getD q 0) (pl.getD q [])
def pcells (ns ix : List Nat) (pl : List (List α)) : List AV := ix.map (pcell ns pl)
def GP (ns ix : List Nat) (pl : List (List α)) : Prop := ns.length = pl.length ∧ ∀ q ∈ ix, q < pl.length

def OX (b : Nat) (ix : List Nat) : AV := .rs b 0 ix.length (ix.length * 1) 1
variable {e : TypeId} {ns ix : List Nat} {pl : List (List α)} {q b : Nat} {xs ys : List α} {i : Int}
omit [Enc α] in
theorem GP.lt (h : GP ns ix pl) (hi : getI ix i = some q) : q < pl.length := h.2 q (List.mem_of_getElem? (getI_in hi).2.2)
omit [Enc α] in
theorem GP.nil : GP [] [] ([] : List (List α)) := ⟨rfl, fun q h => by cases h⟩
omit [Enc α] in
theorem GP.put (h : GP ns ix pl) (k : Nat) (hq : q < pl.length) : GP ns (ix.set k q) pl := ⟨h.1, fun x hx => by
  rcases List.mem_or_eq_of_mem_set hx with h1 | h1
  · exact h.2 x h1
  · rw [h1]; exact hq⟩
omit [Enc α] in
theorem GP.turn (h : GP ns ix pl) : GP ns ix (pl.set q ys) := ⟨by rw [List.length_set]; exact h.1, fun x hx => by rw [List.length_set]; exact h.2 x hx⟩
omit [Enc α] in
theorem GP.push (h : GP ns ix pl) : GP (ns ++ [b]) (ix ++ [pl.length]) (pl ++ [xs]) := ⟨by simp [h.1], fun x hx => by
  rw [List.length_append]
  rcases List.mem_append.1 hx with h1 | h1
  · have := h.2 x h1; omega
  · rw [List.mem_singleton.1 h1]; simp⟩
theorem Grid.m {T : Hp} {cs : List AV} {xss : List (List α)} {ty : TypeId} (h : Grid e T cs xss) : xss.length * Enc.sz (List α) = (RV ty cs).m := by
  have := h.len.2
  simp only [RV, Enc.sz]; omega
end
section
variable {C : Cx} {P : Program} {nt : Nat} {env : Env} {h : Hp} {K : Env → Hp → Prop} {Q : Post} {gc gx gy : Bool} {t : TypeId} {x y : X} {u : AV} {α : Type} [Enc α] {ns ix : List Nat} {pl : List (List α)} {q b : Nat} {i : Int} {F : Hp} {e' : TypeId}
end
end Go.AX
