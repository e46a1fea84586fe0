import Derived.Test.YtpipaggkbiapjaaDoorAmI
/- Own rows: made, written, grown. -/
namespace Go.AM
open Go.RowKit

def Hp.upd : Hp → Nat → Row → Hp
  | [], _, _ => []
  | (x, q) :: h, b, r => if x = b then (x, r) :: h else (x, q) :: Hp.upd h b r

theorem Hp.get_upd : ∀ (h : Hp) (b : Nat) (r : Row) (x : Nat), (h.upd b r).get x = if x = b then (h.get b).map (fun _ => r) else h.get x
  | [], b, r, x => by simp [Hp.upd, Hp.get]
  | (y, q) :: h, b, r, x => by
    have ih := Hp.get_upd h b r x
    by_cases hy : y = b
    · subst hy
      by_cases hx : y = x
      · subst hx; simp [Hp.upd, Hp.get]
      · have hx' : ¬ x = y := fun e => hx e.symm
        simp [Hp.upd, Hp.get, hx, hx']
    · by_cases hx : y = x
      · subst hx; simp [Hp.upd, Hp.get, hy]
      · simp [Hp.upd, Hp.get, hy, hx, ih]

section
variable {μ : Mu} {h : Hp} {w : World}

/-- A new own row. -/
theorem Sim.new (s : Sim μ h w) {w' : World} {r : Row} {cs : Array Value} (hw : w'.heap = w.heap.push (.cells cs r.ty)) (ho : w'.os = w.os) (ht : w'.tape = w.tape) (hu : w'.output = w.output)
    (hm : r.m ≤ cs.size) (hc : ∀ i, i < r.m → ∃ u, cs[i]? = some u ∧ VR μ w (r.cells i) u) :
    ∃ μ', Sim μ' ((μ.nx, r) :: h) w' ∧ Step μ w μ' w' ∧ h.get μ.nx = none ∧ μ'.nx = μ.nx + 1 ∧ ¬ μ'.vir μ.nx ∧ μ'.f μ.nx = some { g := w.heap.size, L := r.m, E := cs.size } := by
  have hnvir : ¬ μ.vir μ.nx := fun hh => Nat.lt_irrefl _ (s.vlt _ hh)
  have hsz : w'.heap.size = w.heap.size + 1 := by rw [hw]; simp
  have hold : ∀ k, k < w.heap.size → w'.heap[k]? = w.heap[k]? := fun k hk => by rw [hw, Array.getElem?_push_lt hk, Array.getElem?_eq_getElem hk]
  have hnew : w'.heap[w.heap.size]? = some (.cells cs r.ty (0, 0)) := by rw [hw]; simp
  let μ' : Mu := { f := fun x => if x = μ.nx then some { g := w.heap.size, L := r.m, E := cs.size } else μ.f x, nx := μ.nx + 1, ban := μ.ban, vir := μ.vir }
  have hf : ∀ b B, μ'.f b = some B → (b = μ.nx ∧ B = { g := w.heap.size, L := r.m, E := cs.size }) ∨ (b ≠ μ.nx ∧ μ.f b = some B) := by
    intro b B e
    simp only [μ'] at e
    by_cases hb : b = μ.nx
    · rw [if_pos hb] at e; injection e with e; exact .inl ⟨hb, e.symm⟩
    · rw [if_neg hb] at e; exact .inr ⟨hb, e⟩
  have st : Step μ w μ' w' := by
    refine ⟨by simp [μ'], fun b hb B e => ?_, fun _ _ hh => hh, fun _ => Iff.rfl, fun g hg _ => hold g hg, fun g hg => ⟨by have := hg.1; omega, hg.2.1, fun b B e => ?_⟩, by omega, ho, ht, hu⟩
    · rcases hf b B e with ⟨rfl, _⟩ | ⟨_, e⟩
      · omega
      · exact .inr ⟨B, e, Nat.le_refl _, fun _ => rfl⟩
    · rcases hf b B e with ⟨_, rfl⟩ | ⟨_, e⟩
      · have := hg.1; show w.heap.size ≠ g; omega
      · exact hg.2.2 b B e
  refine ⟨μ', ⟨fun b q e => ?_, fun b b' B B' e e' hg => ?_, fun b B e => ?_, fun b hb => Nat.lt_succ_of_lt (s.vlt b hb), fun b B e => ?_, fun g hg => by have := s.banlt g hg; omega⟩, st, ?_, rfl, hnvir, by simp [μ']⟩
  · simp only [Hp.get] at e
    by_cases hb : μ.nx = b
    · rw [if_pos hb] at e
      injection e with e
      subst e hb
      refine .inr ⟨{ g := w.heap.size, L := r.m, E := cs.size }, cs, hnvir, by simp [μ'], rfl, hnew, rfl, hm, fun i hi => ?_⟩
      obtain ⟨u, hu, hv⟩ := hc i hi
      exact ⟨u, hu, VR.mono st _ _ hv⟩
    · rw [if_neg hb] at e
      rcases s.row b q e with ⟨hv, hn, h0⟩ | ⟨B, ds, hnv, h1, h2, h3, h4, h5, h6⟩
      · exact .inl ⟨hv, by simp only [μ']; rw [if_neg (fun e => hb e.symm)]; exact hn, h0⟩
      refine .inr ⟨B, ds, hnv, by simp only [μ']; rw [if_neg (fun e => hb e.symm)]; exact h1, h2, (hold _ (s.lt b B h1).2).trans h3, h4, h5, fun i hi => ?_⟩
      obtain ⟨u, hu, hv⟩ := h6 i hi
      exact ⟨u, hu, VR.mono st _ _ hv⟩
  · rcases hf b B e with ⟨rfl, rfl⟩ | ⟨hb, e⟩ <;> rcases hf b' B' e' with ⟨rfl, rfl⟩ | ⟨hb', e'⟩
    · rfl
    · have := (s.lt b' B' e').2; simp only at hg; omega
    · have := (s.lt b B e).2; simp only at hg; omega
    · exact s.inj b b' B B' e e' hg
  · rcases hf b B e with ⟨rfl, rfl⟩ | ⟨hb, e⟩
    · exact ⟨by simp [μ'], by simp only; omega⟩
    · have := s.lt b B e; exact ⟨by simp only [μ']; omega, by omega⟩
  · rcases hf b B e with ⟨rfl, rfl⟩ | ⟨hb, e⟩
    · intro hban; have := s.banlt _ hban; simp only at this; omega
    · exact s.noban b B e
  · cases hq : h.get μ.nx with
    | none => rfl
    | some q =>
      rcases s.row _ q hq with ⟨hv, _⟩ | ⟨B, ds, _, h1, _⟩
      · exact (hnvir hv).elim
      have := (s.lt _ B h1).1
      omega

/-- An own row that turns, in its place or in a new one. -/
theorem Sim.turn (s : Sim μ h w) {w' : World} {b : Nat} {r r' : Row} {B B' : Blk} {cs : Array Value} (hb : h.get b = some r) (hB : μ.f b = some B)
    (hplace : B'.g = B.g ∨ w.heap.size ≤ B'.g) (hlt : B'.g < w'.heap.size) (hgrow : B.L ≤ B'.L) (hsame : B.L = B'.L → B = B')
    (hL : B'.L = r'.m) (hcell : w'.heap[B'.g]? = some (.cells cs r'.ty (0, 0))) (hE : cs.size = B'.E) (hm : r'.m ≤ B'.E)
    (hc : ∀ i, i < r'.m → ∃ u, cs[i]? = some u ∧ VR μ w (r'.cells i) u)
    (hother : ∀ k, k < w.heap.size → k ≠ B.g → w'.heap[k]? = w.heap[k]?) (hsz : w.heap.size ≤ w'.heap.size) (ho : w'.os = w.os) (ht : w'.tape = w.tape) (hu : w'.output = w.output) :
    ∃ μ', Sim μ' (h.upd b r') w' ∧ Step μ w μ' w' ∧ μ'.nx = μ.nx ∧ ¬ μ'.vir b ∧ μ'.f b = some B' := by
  have hnv : ¬ μ.vir b := by
    rcases s.row b r hb with ⟨_, hn, _⟩ | ⟨_, _, hh, _⟩
    · rw [hn] at hB; cases hB
    · exact hh
  let μ' : Mu := { f := fun x => if x = b then some B' else μ.f x, nx := μ.nx, ban := μ.ban, vir := μ.vir }
  have hf : ∀ x D, μ'.f x = some D → (x = b ∧ D = B') ∨ (x ≠ b ∧ μ.f x = some D) := by
    intro x D e
    simp only [μ'] at e
    by_cases hx : x = b
    · rw [if_pos hx] at e; injection e with e; exact .inl ⟨hx, e.symm⟩
    · rw [if_neg hx] at e; exact .inr ⟨hx, e⟩
  have hne : ∀ x D, x ≠ b → μ.f x = some D → D.g ≠ B.g := fun x D hx e hg => hx (s.inj x b D B e hB hg)
  have st : Step μ w μ' w' := by
    refine ⟨Nat.le_refl _, fun x _ D e => ?_, fun _ _ hh => hh, fun _ => Iff.rfl, fun g hg hk => hother g hg ?_, fun g hg => ⟨Nat.lt_of_lt_of_le hg.1 hsz, hg.2.1, fun x D e => ?_⟩, hsz, ho, ht, hu⟩
    · rcases hf x D e with ⟨rfl, rfl⟩ | ⟨_, e⟩
      · exact .inr ⟨B, hB, hgrow, hsame⟩
      · exact .inr ⟨D, e, Nat.le_refl _, fun _ => rfl⟩
    · rintro rfl
      rcases hk with hk | hk
      · exact s.noban b B hB hk
      · exact hk.2.2 b B hB rfl
    · rcases hf x D e with ⟨_, rfl⟩ | ⟨_, e⟩
      · rcases hplace with h1 | h1
        · rw [h1]; exact hg.2.2 b B hB
        · have := hg.1; omega
      · exact hg.2.2 x D e
  refine ⟨μ', ⟨fun x q e => ?_, fun x x' D D' e e' hg => ?_, fun x D e => ?_, s.vlt, fun x D e => ?_, fun g hg => Nat.lt_of_lt_of_le (s.banlt g hg) hsz⟩, st, rfl, hnv, by simp [μ']⟩
  · rw [Hp.get_upd] at e
    by_cases hx : x = b
    · subst hx
      rw [if_pos rfl, hb] at e
      simp only [Option.map_some, Option.some.injEq] at e
      subst e
      refine .inr ⟨B', cs, hnv, by simp [μ'], hL, hcell, hE, hm, fun i hi => ?_⟩
      obtain ⟨u, hu, hv⟩ := hc i hi
      exact ⟨u, hu, VR.mono st _ _ hv⟩
    · rw [if_neg hx] at e
      rcases s.row x q e with ⟨hv, hn, h0⟩ | ⟨D, ds, hnv', h1, h2, h3, h4, h5, h6⟩
      · exact .inl ⟨hv, by simp only [μ']; rw [if_neg hx]; exact hn, h0⟩
      refine .inr ⟨D, ds, hnv', by simp only [μ']; rw [if_neg hx]; exact h1, h2, (hother _ (s.lt x D h1).2 (hne x D hx h1)).trans h3, h4, h5, fun i hi => ?_⟩
      obtain ⟨u, hu, hv⟩ := h6 i hi
      exact ⟨u, hu, VR.mono st _ _ hv⟩
  · rcases hf x D e with ⟨rfl, rfl⟩ | ⟨hx, e1⟩ <;> rcases hf x' D' e' with ⟨rfl, rfl⟩ | ⟨hx', e2⟩
    · rfl
    · exfalso
      rcases hplace with h1 | h1
      · exact hne x' D' hx' e2 (by rw [← hg, h1])
      · have := (s.lt x' D' e2).2; omega
    · exfalso
      rcases hplace with h1 | h1
      · exact hne x D hx e1 (by rw [hg, h1])
      · have := (s.lt x D e1).2; omega
    · exact s.inj x x' D D' e1 e2 hg
  · rcases hf x D e with ⟨rfl, rfl⟩ | ⟨hx, e⟩
    · exact ⟨(s.lt x B hB).1, hlt⟩
    · exact ⟨(s.lt x D e).1, Nat.lt_of_lt_of_le (s.lt x D e).2 hsz⟩
  · rcases hf x D e with ⟨rfl, rfl⟩ | ⟨hx, e⟩
    · intro hban
      rcases hplace with h1 | h1
      · rw [h1] at hban; exact s.noban x B hB hban
      · have := s.banlt _ hban; omega
    · exact s.noban x D e

end

/-! ### one cell -/
def oneA (h : Hp) : AV → Prop
  | .junk => False
  | .agg _ _ => False
  | .tup _ _ => False
  | .ref b _ st => refOK h b st
  | .rs b _ _ st _ => refOK h b st
  | .bool _ => True
  | .int _ _ => True
  | .str _ => True
  | .nilp => True
  | .vref _ _ _ => True
  | .nils => True
  | .sl _ _ _ => True
  | .fn _ _ _ => True
  | .nilf => True
  | .z0 => True

theorem oneA_ok {μ : Mu} {h : Hp} {w : World} (s : Sim μ h w) {u : AV} {v : Value} (hv : VR μ w u v) (h1 : oneA h u) : v.oneCell' = true := by
  cases u <;> try exact h1.elim
  case ref b o st => obtain ⟨_, _, _, _, _, _, _, e, _⟩ := s.ref h1 hv; rw [e]; rfl
  case rs b o l st sz => rcases s.rs h1 hv with ⟨_, _, _, _, _, _, _, _, _, e⟩ | ⟨_, _, _, _, _, _, _, _, e, _⟩ <;> (rw [e]; rfl)
  case vref c m o => obtain ⟨_, _, e, _⟩ := hv; rw [e]; rfl
  case sl c m n => rcases hv with ⟨_, _, e⟩ | ⟨_, _, e, _⟩ <;> (rw [e]; rfl)
  case z0 => obtain ⟨_, e⟩ := hv; rw [e]; rfl
  case fn f m c => obtain ⟨_, e, _⟩ := hv; rw [e]; rfl
  all_goals (rw [show v = _ from hv]; rfl)

def allOne (h : Hp) (pc : Nat → AV) : Nat → Prop
  | 0 => True
  | k + 1 => allOne h pc k ∧ oneA h (pc k)
theorem allOne_ok {h : Hp} {pc : Nat → AV} : ∀ {k : Nat}, allOne h pc k → ∀ j, j < k → oneA h (pc j)
  | 0, _, j, hj => absurd hj (by omega)
  | k + 1, hh, j, hj => by
    by_cases hk : j = k
    · subst hk; exact hh.2
    · exact allOne_ok hh.1 j (by omega)

section
variable {C : Cx} {nt : Nat} {env : Env} {h : Hp} {K : Env → Hp → Prop}

theorem env_put {μ μ' : Mu} {a : Act} {w w' : World} {h' : Hp} {d : Option Nat} {v : AV} {u : Value} (s : SimA nt μ env h a w) (st : Step μ w μ' w') (s' : Sim μ' h' w') (hd : ∀ x, d = some x → x < nt)
    (hv : VR μ' w' v u) : SimA nt μ' (putE d true v env) h' (a.put d u) w' :=
  SimA.put ⟨s', s.env.mono st, s.size, s.defers⟩ hd (fun _ => hv) (fun e => by simp at e)

/-- A new variable. -/
theorem TL.alloc {k : KO} {ks : List KO} {t : TypeId} {i : TI} (hi : k.i = .al t) (hg : k.g = none) (hd : ∀ d, k.d = some d → d < nt) (ht : C.ty t = some i)
    (rest : ∀ b, h.get b = none → TL C.P nt ks K (putE k.d true (.ref b 0 i.sz) env) ((b, ⟨t, i.sz, i.z⟩) :: h)) : TL C.P nt (k :: ks) K env h := by
  refine TL.cons (gc := true) (by rw [hg]; rfl) ?_ (fun e => by simp at e)
  intro o μ a w ho hdst s _ N hN
  rw [hi] at ho
  have hop : o.op = .alloc t := by
    unfold cookOp at ho
    split at ho <;> (try (simp at ho; done)) <;> (try (split at ho <;> simp at ho <;> done))
    case h_4 t' e => simp at ho; rw [e, ho]
  have hz := (C.ok t i ht).2.2
  have hrun : (execOp a.eval o).run C.P w = .ok (.value (.pointer (some ⟨w.heap.size, 0, none⟩))) { w with heap := w.heap.push (.cells i.zv.cells t) } := by
    simp [execOp, hop, Instr.alloc, Cx.zero ht, newVar, newRow]
  obtain ⟨μ', s', st, hn, _, hnv, hf⟩ := s.sim.new (w' := { w with heap := w.heap.push (.cells i.zv.cells t) }) (r := ⟨t, i.sz, i.z⟩) (cs := i.zv.cells) rfl rfl rfl rfl (by simp [hz])
    (fun j hj => ⟨i.zv.cells.getD j undef, by
      have hj : j < i.zv.cells.size := by rw [hz]; exact hj
      simp [Array.getD, hj], cAV_ok μ w _⟩)
  unfold Oper.wp
  rw [hrun]
  simp only [Oper.upon]
  rw [hdst]
  refine hN μ' _ _ _ _ (env_put s st s' hd ?_) st (rest μ.nx hn)
  refine ⟨by omega, hnv, fun B e => ?_⟩
  rw [hf] at e
  injection e with e
  subst e
  exact ⟨Nat.le_refl _, fun _ => rfl⟩

/-- A variable that is laid with a value. -/
theorem TL.box {k : KO} {ks : List KO} {t : TypeId} {x : X} {m : Nat} {pc : Nat → AV} {S : Prop} (hi : k.i = .box t x) (hg : k.g = none) (hd : ∀ d, k.d = some d → d < nt)
    (hx : (ev env x).1 = true) (hc : cellsA h (ev env x).2 = some (m, pc, S)) (hS : S)
    (rest : ∀ b, h.get b = none → TL C.P nt ks K (putE k.d true (.ref b 0 m) env) ((b, ⟨t, m, pc⟩) :: h)) : TL C.P nt (k :: ks) K env h := by
  refine TL.cons (gc := true) (by rw [hg]; rfl) ?_ (fun e => by simp at e)
  intro o μ a w ho hdst s _ N hN
  rw [hi] at ho
  obtain ⟨ox, hop, hcx⟩ : ∃ ox, o.op = .box t ox ∧ cookX ox = some x := by
    unfold cookOp at ho
    split at ho <;> (try (simp at ho; done)) <;> (try (split at ho <;> simp at ho <;> done))
    case h_5 t' ox e =>
      obtain ⟨y, hy, e2⟩ := Option.map_eq_some_iff.1 ho
      simp only [I.box.injEq] at e2
      obtain ⟨rfl, rfl⟩ := e2
      exact ⟨ox, e, hy⟩
  obtain ⟨c1, c2⟩ := cellsA_ok s.sim (ev_ok hcx s.env hx) hc hS
  have hrun : (execOp a.eval o).run C.P w = .ok (.value (.pointer (some ⟨w.heap.size, 0, none⟩))) { w with heap := w.heap.push (.cells (a.eval ox).cells t) } := by
    simp [execOp, hop, Instr.box, newVar, newRow]
  obtain ⟨μ', s', st, hn, _, hnv, hf⟩ := s.sim.new (w' := { w with heap := w.heap.push (.cells (a.eval ox).cells t) }) (r := ⟨t, m, pc⟩) (cs := (a.eval ox).cells) rfl rfl rfl rfl (by simp [c1])
    (fun j hj => ⟨(a.eval ox).cells.getD j undef, by
      have hj : j < (a.eval ox).cells.size := by rw [c1]; exact hj
      simp [Array.getD, hj], c2 j hj⟩)
  unfold Oper.wp
  rw [hrun]
  simp only [Oper.upon]
  rw [hdst]
  refine hN μ' _ _ _ _ (env_put s st s' hd ?_) st (rest μ.nx hn)
  refine ⟨by omega, hnv, fun B e => ?_⟩
  rw [hf] at e
  injection e with e
  subst e
  exact ⟨Nat.le_refl _, fun _ => rfl⟩

/-- Zero cells, again and again. -/
def rep (i : TI) (n : Nat) : Nat → AV := catC i.sz (List.replicate n i.z)

theorem rep_at {i : TI} {n j : Nat} (h : j < n * i.sz) : rep i n j = i.z (j % i.sz) := by
  have hp : 0 < i.sz := by
    rcases Nat.eq_zero_or_pos i.sz with h0 | h0
    · rw [h0] at h; simp at h
    · exact h0
  have : j / i.sz < n := Nat.div_lt_of_lt_mul (by rw [Nat.mul_comm]; exact h)
  simp [rep, catC, this]

/-- make([]T, n). -/
theorem TL.mk {k : KO} {ks : List KO} {t e : TypeId} {ei : TI} {x y : X} {q q' : IntKind} {n : Int} (hi : k.i = .mk t x y) (hg : k.g = none) (hd : ∀ d, k.d = some d → d < nt)
    (ht : C.kd t = some (.slc e)) (he : C.ty e = some ei) (hx : ev env x = (true, .int q n)) (hy : ev env y = (true, .int q' n)) (h0 : 0 ≤ n) (hb : n * ei.by' ≤ 281474976710656) (hsm : n ≤ 9223372036854775807)
    (rest : ∀ b, h.get b = none → TL C.P nt ks K (putE k.d true (.rs b 0 n.toNat (n.toNat * ei.sz) ei.sz) env) ((b, ⟨e, n.toNat * ei.sz, rep ei n.toNat⟩) :: h)) : TL C.P nt (k :: ks) K env h := by
  refine TL.cons (gc := true) (by rw [hg]; rfl) ?_ (fun e => by simp at e)
  intro o μ a w ho hdst s _ N hN
  rw [hi] at ho
  obtain ⟨ox, oy, hop, hcx, hcy⟩ : ∃ ox oy, o.op = .makeSlice t ox oy ∧ cookX ox = some x ∧ cookX oy = some y := by
    unfold cookOp at ho
    split at ho <;> (try (simp at ho; done)) <;> (try (split at ho <;> simp at ho <;> done))
    case h_15 t' ox oy e' =>
      split at ho
      case h_2 => simp at ho
      case h_1 x' y' h1 h2 =>
        simp only [Option.some.injEq, I.mk.injEq] at ho
        obtain ⟨rfl, rfl, rfl⟩ := ho
        exact ⟨ox, oy, e', h1, h2⟩
  have vx := ev_ok hcx s.env (by rw [hx])
  have vy := ev_ok hcy s.env (by rw [hy])
  rw [hx] at vx
  rw [hy] at vy
  obtain ⟨_, _, _, hK⟩ := kd_ok ht
  obtain ⟨j, hj, hjb, hjs⟩ := Cx.bytes he w
  have hw : IntKind.i64.wrap n = n := w64 (by omega) hsm
  let cs : Array Value := (Array.range (n.toNat * ei.sz)).map fun j => ei.zv.cells[j % ei.zv.cells.size]!
  have hz := (C.ok e ei he).2.2
  have hrun : (execOp a.eval o).run C.P w = .ok (.value (.slice (some ⟨w.heap.size, 0, none⟩) n.toNat n.toNat)) { w with heap := w.heap.push (.cells cs e) } := by
    have hlt : ¬ n < 0 := by omega
    have hbb : ¬ (281474976710656 < (j.bytes : Int) * n) := by rw [hjb, Int.mul_comm]; omega
    have hx' : a.eval ox = .int q n := vx
    have hy' : a.eval oy = .int q' n := vy
    by_cases hz0 : n.toNat * ei.sz = 0
    · have hcs : cs = #[] := by simp [cs, hz0]
      simp only [execOp, hop, hx', hy', Instr.makeSlice, Sem.run_bind, run_und hK, Result.andThen_ok, asInt, asIntOf, Sem.run_pure, hj, hw]
      simp [hlt, hbb, newRow, hz0, hcs, Cx.size he]
      rw [show Array.range 0 = (#[] : Array Nat) from Array.eq_empty_of_size_eq_zero (by simp)]
      simp
    · simp only [execOp, hop, hx', hy', Instr.makeSlice, Sem.run_bind, run_und hK, Result.andThen_ok, asInt, asIntOf, Sem.run_pure, hj, hw]
      have hzz := fun w => Cx.zero he w
      rw [if_neg (by simp [hlt, hbb])]
      simp only [Sem.run_bind, Cx.size he, Result.andThen_ok, run_askRoom]
      rw [if_neg hz0]
      simp [Cx.zero he, newRow, cs]
  obtain ⟨μ', s', st, hn, _, hnv, hf⟩ := s.sim.new (w' := { w with heap := w.heap.push (.cells cs e) }) (r := ⟨e, n.toNat * ei.sz, rep ei n.toNat⟩) (cs := cs) rfl rfl rfl rfl (by simp [cs])
    (fun j hj => by
      have hj : j < n.toNat * ei.sz := hj
      have hpos : 0 < ei.sz := by
        rcases Nat.eq_zero_or_pos ei.sz with h0 | h0
        · rw [h0] at hj; simp at hj
        · exact h0
      have hlt : j % ei.zv.cells.size < ei.zv.cells.size := Nat.mod_lt _ (by omega)
      refine ⟨ei.zv.cells[j % ei.zv.cells.size]!, by simp [cs, hj], ?_⟩
      have : ei.zv.cells[j % ei.zv.cells.size]! = ei.zv.cells.getD (j % ei.sz) undef := by
        rw [← hz]
        simp [Array.getD, hlt]
      rw [this]
      simp only [rep_at hj]
      exact cAV_ok μ w _)
  unfold Oper.wp
  rw [hrun]
  simp only [Oper.upon]
  rw [hdst]
  refine hN μ' _ _ _ _ (env_put s st s' hd ?_) st (rest μ.nx hn)
  refine ⟨by omega, by omega, fun hh => (hnv hh).elim, fun B e => ?_⟩
  rw [hf] at e
  injection e with e
  subst e
  exact ⟨Nat.le_refl _, fun _ => ⟨n.toNat, rfl, by simp [cs]⟩⟩

end
end Go.AM
