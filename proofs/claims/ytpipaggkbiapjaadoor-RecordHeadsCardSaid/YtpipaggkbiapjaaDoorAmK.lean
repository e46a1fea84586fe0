import Derived.Test.YtpipaggkbiapjaaDoorAmJ
import Derived.Laws.AppendOwn
/- Slices that are written out; stores; append. -/
namespace Go.AM
open Go.RowKit

section
variable {C : Cx} {nt : Nat} {env : Env} {h : Hp} {K : Env → Hp → Prop}

/-- Where the parts of a slice of n elements lie. -/
def slots (e sz n : Nat) : List (TypeId × Nat) := (List.range n).map fun i => (e, i * sz)

/-- The elements of a slice that is written out. -/
def litA (h : Hp) (env : Env) (sz : Nat) : Nat → List (Nat × X) → Option (List (Nat → AV) × Prop)
  | _, [] => some ([], True)
  | i, (k, x) :: r => match cellsA h (ev env x).2, litA h env sz (i + 1) r with
    | some (m, pc, s), some (l, S) => some (pc :: l, (k = i ∧ (ev env x).1 = true ∧ s ∧ m = sz) ∧ S)
    | _, _ => none

theorem catC_lt {sz : Nat} {l : List (Nat → AV)} {i d : Nat} (hd : d < sz) : catC sz l (i * sz + d) = match l[i]? with | some pc => pc d | none => .junk := by
  unfold catC
  have h1 : (i * sz + d) / sz = i := by
    rw [Nat.mul_comm, Nat.mul_add_div (by omega), Nat.div_eq_of_lt hd, Nat.add_zero]
  have h2 : (i * sz + d) % sz = d := by
    rw [Nat.mul_comm, Nat.mul_add_mod, Nat.mod_eq_of_lt hd]
  rw [h1, h2]
  cases l[i]? <;> rfl

theorem lit_fill {e sz n : Nat} {ei : TI} (he : C.ty e = some ei) (hsz : ei.sz = sz) : ∀ (ps : List (Nat × X)) (i : Nat) (l : List (Nat → AV)) (S : Prop) (cs : Nat → AV), litA h env sz i ps = some (l, S) → S → i + l.length ≤ n →
    (fillA C h (slots e sz n) env cs ps).2 ∧ ∀ j, (fillA C h (slots e sz n) env cs ps).1 j = if i * sz ≤ j ∧ j < (i + l.length) * sz then catC sz l (j - i * sz) else cs j
  | [], i, l, S, cs, hl, hS, hn => by
    simp only [litA, Option.some.injEq, Prod.mk.injEq] at hl
    obtain ⟨rfl, rfl⟩ := hl
    refine ⟨trivial, fun j => ?_⟩
    rw [if_neg (by simp)]
    rfl
  | (k, x) :: r, i, l, S, cs, hl, hS, hn => by
    simp only [litA] at hl
    split at hl
    case h_2 => simp at hl
    case h_1 m pc s l' S' e1 e2 =>
      simp only [Option.some.injEq, Prod.mk.injEq] at hl
      obtain ⟨rfl, rfl⟩ := hl
      obtain ⟨⟨rfl, hg, hs, rfl⟩, hS'⟩ := hS
      have hlen : k + 1 + l'.length ≤ n := by simp at hn; omega
      have hslot : (slots e m n)[k]? = some (e, k * m) := by
        have : k < n := by omega
        simp [slots, this]
      have ih := lit_fill he hsz r (k + 1) l' S' (putC cs (k * m) m pc) e2 hS' hlen
      unfold fillA
      rw [hslot, e1]
      simp only [he]
      refine ⟨⟨⟨hg, hs, hsz.symm⟩, ih.1⟩, fun j => ?_⟩
      rw [ih.2 j]
      have hk1 : (k + 1) * m = k * m + m := by rw [Nat.add_mul, Nat.one_mul]
      have hk2 : (k + 1 + l'.length) * m = k * m + m + l'.length * m := by rw [Nat.add_mul, hk1]
      have hk3 : (k + (pc :: l').length) * m = k * m + m + l'.length * m := by rw [List.length_cons, Nat.add_mul, Nat.add_mul, Nat.one_mul]; omega
      rw [hk1, hk2, hk3]
      have hm : ∀ q, k * m + m + q - k * m = m + q := fun q => by omega
      by_cases h1 : k * m + m ≤ j ∧ j < k * m + m + l'.length * m
      · rw [if_pos h1, if_pos (by omega)]
        have hm0 : 0 < m := by
          rcases Nat.eq_zero_or_pos m with h0 | h0
          · subst h0; simp at h1
          · exact h0
        obtain ⟨q, rfl⟩ : ∃ q, j = k * m + m + q := ⟨j - (k * m + m), by omega⟩
        rw [hm, show k * m + m + q - (k * m + m) = q by omega]
        unfold catC
        rw [Nat.add_div_left _ hm0, Nat.add_mod_left]
        simp
      · rw [if_neg h1]
        unfold putC
        by_cases h2 : k * m ≤ j ∧ j < k * m + m
        · rw [if_pos h2, if_pos (by omega)]
          unfold catC
          rw [Nat.div_eq_of_lt (by omega), Nat.mod_eq_of_lt (by omega)]
          simp
        · rw [if_neg h2, if_neg (by omega)]

theorem bsl_run {o : Oper} {t e : TypeId} {ei : TI} {n : Nat} {ps : List (Nat × X)} {l : List (Nat → AV)} {S : Prop} (ho : cookOp o.op = some (.bsl t n ps)) (ht : C.kd t = some (.slc e)) (he : C.ty e = some ei)
    (hn : n * ei.sz ≤ 16777216) (hl : litA h env ei.sz 0 ps = some (l, S)) (hS : S) (hln : l.length = n) {μ : Mu} {a : Act} {w : World} (s : SimA nt μ env h a w) :
    ∃ out : Array Value, (execOp a.eval o).run C.P w = .ok (.value (.slice (some ⟨w.heap.size, 0, none⟩) n n)) { w with heap := w.heap.push (.cells out e) } ∧ out.size = n * ei.sz ∧
      ∀ j, j < n * ei.sz → VR μ w (catC ei.sz l j) (out.getD j undef) := by
  obtain ⟨ops, hop, hcx⟩ : ∃ ops : Array (Nat × Operand), o.op = .buildSlice t n ops ∧ cookPs ops.toList = some ps := by
    unfold cookOp at ho
    split at ho <;> (try (simp at ho; done)) <;> (try (split at ho <;> simp at ho <;> done))
    case h_7 t' n' ops e' =>
      obtain ⟨y, hy, e2⟩ := Option.map_eq_some_iff.1 ho
      simp only [I.bsl.injEq] at e2
      obtain ⟨rfl, rfl, rfl⟩ := e2
      exact ⟨ops, e', hy⟩
  obtain ⟨_, _, _, hK⟩ := kd_ok ht
  have hz := (C.ok e ei he).2.2
  have hfl := lit_fill (C := C) (n := n) he rfl ps 0 l S (rep ei n) hl hS (by omega)
  let cs0 : Array Value := (Array.range (n * ei.sz)).map fun j => ei.zv.cells[j % ei.zv.cells.size]!
  have hpos : ∀ j, j < n * ei.sz → 0 < ei.sz := by
    intro j hj
    rcases Nat.eq_zero_or_pos ei.sz with h0 | h0
    · rw [h0] at hj; simp at hj
    · exact h0
  have hfill := fillA_ok (C := C) (place := fun i => some (i * ei.sz, ei.sz)) (m := n * ei.sz) s.sim s.env (fs := slots e ei.sz n) (by
    intro i t' o' hi'
    simp only [slots, List.getElem?_map, Option.map_eq_some_iff] at hi'
    obtain ⟨i', h1, h2⟩ := hi'
    obtain ⟨hlt, rfl⟩ := List.getElem?_eq_some_iff.1 h1
    simp only [List.length_range] at hlt
    simp only [List.getElem_range, Prod.mk.injEq] at h2
    obtain ⟨rfl, rfl⟩ := h2
    refine ⟨ei, he, rfl, ?_⟩
    have : (i + 1) * ei.sz ≤ n * ei.sz := Nat.mul_le_mul_right _ hlt
    rw [Nat.add_mul, Nat.one_mul] at this
    exact this) hcx (rep ei n) cs0 (by simp [cs0]) (fun j hj => by
      have hv : cs0.getD j undef = ei.zv.cells.getD (j % ei.sz) undef := by
        have hlt2 : j % ei.sz < ei.sz := Nat.mod_lt _ (hpos j hj)
        simp [cs0, Array.getD, hz, hj, hlt2]
      rw [hv, rep_at hj]
      exact cAV_ok μ w _) hfl.1
  obtain ⟨out, o1, o2, o3⟩ := hfill
  refine ⟨out, ?_, o2, fun j hj => ?_⟩
  · have o1' : Instr.fill (fun i => some (i * ei.sz, ei.sz)) cs0 (ops.map fun p => (p.1, a.eval p.2)).toList = some out := by simpa using o1
    have hnn : ¬ (2 ^ 24 < n * ei.sz) := by omega
    by_cases hz0 : n * ei.sz = 0
    · have hcs : cs0 = #[] := by simp [cs0, hz0]
      rw [hcs] at o1'
      have hr0 : (Array.range 0).map (fun x => (#[] : Array Value)[x % (#[] : Array Value).size]!) = #[] := by
        rw [show Array.range 0 = (#[] : Array Nat) from Array.eq_empty_of_size_eq_zero (by simp)]
        simp
      simp only [execOp, hop, Instr.buildSlice, Sem.run_bind, run_und hK, Result.andThen_ok, Cx.size he, gt_iff_lt]
      rw [if_neg hnn]
      simp only [Sem.run_bind, Sem.run_pure, Result.andThen_ok, hz0, if_true, hr0]
      rw [o1']
      simp [newRow]
    · simp only [execOp, hop, Instr.buildSlice, Sem.run_bind, run_und hK, Result.andThen_ok, Cx.size he, gt_iff_lt]
      rw [if_neg hnn]
      simp only [Sem.run_bind, Sem.run_pure, Result.andThen_ok, hz0, if_false, Cx.zero he]
      rw [show Array.map (fun x => ei.zv.cells[x % ei.zv.cells.size]!) (Array.range (n * ei.sz)) = cs0 from rfl, o1']
      simp [newRow]
  · have := o3 j hj
    rw [hfl.2 j, if_pos (by rw [hln]; simp; exact hj), Nat.zero_mul, Nat.sub_zero] at this
    exact this

/-- []T{..}: an own row. -/
theorem TL.bsl {k : KO} {ks : List KO} {t e : TypeId} {ei : TI} {n : Nat} {ps : List (Nat × X)} {l : List (Nat → AV)} {S : Prop} (hi : k.i = .bsl t n ps) (hg : k.g = none) (hd : ∀ d, k.d = some d → d < nt)
    (ht : C.kd t = some (.slc e)) (he : C.ty e = some ei) (hn : n * ei.sz ≤ 16777216) (hl : litA h env ei.sz 0 ps = some (l, S)) (hS : S) (hln : l.length = n)
    (rest : ∀ b, h.get b = none → TL C.P nt ks K (putE k.d true (.rs b 0 n (n * ei.sz) ei.sz) env) ((b, ⟨e, n * ei.sz, catC ei.sz l⟩) :: h)) : TL C.P nt (k :: ks) K env h := by
  refine TL.cons (gc := true) (by rw [hg]; rfl) ?_ (fun e => by simp at e)
  intro o μ a w ho hdst s _ N hN
  rw [hi] at ho
  obtain ⟨out, hrun, o2, o3⟩ := bsl_run ho ht he hn hl hS hln s
  obtain ⟨μ', s', st, hnn, _, hnv, hf⟩ := s.sim.new (w' := { w with heap := w.heap.push (.cells out e) }) (r := ⟨e, n * ei.sz, catC ei.sz l⟩) (cs := out) rfl rfl rfl rfl (by simp [o2])
    (fun j hj => ⟨out.getD j undef, by
      have hj : j < out.size := by rw [o2]; exact hj
      simp [Array.getD, hj], o3 j hj⟩)
  unfold Oper.wp
  rw [hrun]
  simp only [Oper.upon]
  rw [hdst]
  refine hN μ' _ _ _ _ (env_put s st s' hd ?_) st (rest μ.nx hnn)
  refine ⟨by omega, by omega, fun hh => (hnv hh).elim, fun B e => ?_⟩
  rw [hf] at e
  injection e with e
  subst e
  exact ⟨Nat.le_refl _, fun _ => ⟨n, rfl, by simp [o2]⟩⟩

theorem below_push {w : World} {c : Obj} : Below w.heap.size w { w with heap := w.heap.push c } :=
  ⟨rfl, rfl, rfl, by simp, fun k hk => by simp [Array.getElem?_push_lt hk, Array.getElem?_eq_getElem hk]⟩

/-- []T{..}: by value. -/
theorem TL.bslv {k : KO} {ks : List KO} {t e : TypeId} {ei : TI} {n : Nat} {ps : List (Nat × X)} {l : List (Nat → AV)} {S : Prop} {gc : Bool} (hi : k.i = .bsl t n ps) (hg : gcOf env k.g = some gc) (hd : ∀ d, k.d = some d → d < nt)
    (ht : C.kd t = some (.slc e)) (he : C.ty e = some ei) (hn : n * ei.sz ≤ 16777216) (hl : litA h env ei.sz 0 ps = some (l, S)) (hS : gc = true → S) (hln : l.length = n)
    (rest : TL C.P nt ks K (putE k.d gc (.sl (catC ei.sz l) (n * ei.sz) n) env) h) : TL C.P nt (k :: ks) K env h := by
  refine TL.cons hg ?_ (fun e => ⟨hd, by subst e; exact TL.under rest⟩)
  intro o μ a w ho hdst s hgc N hN
  rw [hi] at ho
  obtain ⟨out, hrun, o2, o3⟩ := bsl_run ho ht he hn hl (hS hgc) hln s
  have hb : Below w.heap.size w { w with heap := w.heap.push (.cells out e) } := below_push
  have st := Step.of_below s.sim.muok hb
  unfold Oper.wp
  rw [hrun]
  simp only [Oper.upon]
  rw [hdst]
  subst hgc
  refine hN μ _ _ _ _ (env_put (v := .sl (catC ei.sz l) (n * ei.sz) n) s st (s.sim.below hb) hd (Or.inr ⟨_, n, rfl, Nat.le_refl _, fun _ => ⟨rfl, ?_⟩, fun j hj => ?_⟩)) st rest
  · exact ⟨by simp, fun hban => Nat.lt_irrefl _ (s.sim.banlt _ hban), fun b B e hg => Nat.lt_irrefl _ (hg ▸ (s.sim.lt b B e).2)⟩
  · have hj' : j < out.size := by omega
    refine ⟨out.getD j undef, by simp [World.cell?, Array.getD, hj'], VR.mono st _ _ (o3 j hj)⟩

theorem seg_get (l vs : List Value) (o i : Nat) (ho : o + vs.length ≤ l.length) :
    (l.take o ++ vs ++ l.drop (o + vs.length))[i]? = if o ≤ i ∧ i < o + vs.length then vs[i - o]? else l[i]? := by
  have hlen : (l.take o).length = o := by simp; omega
  rw [List.append_assoc, List.getElem?_append]
  by_cases h1 : i < o
  · rw [if_pos (by omega), if_neg (by omega)]
    simp [h1]
  · rw [if_neg (by omega), hlen, List.getElem?_append]
    by_cases h2 : i < o + vs.length
    · rw [if_pos (by omega), if_pos (by omega)]
    · rw [if_neg (by omega), if_neg (by omega), List.getElem?_drop]
      congr 1
      omega

/-- A store into an own row. -/
theorem TL.st {k : KO} {ks : List KO} {t : TypeId} {i : TI} {x y : X} {b off m : Nat} {r : Row} {pc : Nat → AV} {S : Prop} (hi : k.i = .st t x y) (hg : k.g = none) (hd : k.d = none) (ht : C.ty t = some i)
    (hx : ev env x = (true, .ref b off r.m)) (hr : h.get b = some r) (hy : (ev env y).1 = true) (hc : cellsA h (ev env y).2 = some (m, pc, S)) (hS : S) (hm : m = i.sz) (hoff : off + m ≤ r.m)
    (h1 : allOne h pc m) (rest : TL C.P nt ks K env (h.upd b { r with cells := putC r.cells off m pc })) : TL C.P nt (k :: ks) K env h := by
  refine TL.cons (gc := true) (by rw [hg]; rfl) ?_ (fun e => by simp at e)
  intro o μ a w ho hdst s _ N hN
  rw [hi] at ho
  obtain ⟨ox, oy, hop, hcx, hcy⟩ : ∃ ox oy, o.op = .store t ox oy ∧ cookX ox = some x ∧ cookX oy = some y := by
    unfold cookOp at ho
    split at ho <;> (try (simp at ho; done)) <;> (try (split at ho <;> simp at ho <;> done))
    case h_9 t' ox oy e' =>
      split at ho
      case h_2 => simp at ho
      case h_1 x' y' h1 h2 =>
        simp only [Option.some.injEq, I.st.injEq] at ho
        obtain ⟨rfl, rfl, rfl⟩ := ho
        exact ⟨ox, oy, e', h1, h2⟩
  have vx := ev_ok hcx s.env (by rw [hx])
  rw [hx] at vx
  have vy := ev_ok hcy s.env hy
  obtain ⟨r', B, cs, hr', _, hB, hL, hex, hh, hE, hmE, hcells⟩ := s.sim.ref (by unfold refOK; rw [hr]) vx
  rw [hr] at hr'
  injection hr' with hr'
  subst hr'
  obtain ⟨c1, c2⟩ := cellsA_ok s.sim vy hc hS
  have hone : ∀ v ∈ (a.eval oy).cells.toList, v.oneCell' = true := by
    intro v hv
    obtain ⟨j, hj, rfl⟩ := List.getElem_of_mem hv
    simp only [Array.length_toList] at hj
    have := oneA_ok s.sim (c2 j (by omega)) (allOne_ok h1 j (by omega))
    simpa [Array.getD, hj] using this
  have hst := run_storeCells_at C.P B.g off r.ty (a.eval oy).cells.toList 0 cs w hh (by simp [c1]; omega) hone
  let cs' : Array Value := (cs.toList.take off ++ (a.eval oy).cells.toList ++ cs.toList.drop (off + (a.eval oy).cells.toList.length)).toArray
  have hrun : (execOp a.eval o).run C.P w = .ok .skip (w.setRow B.g cs') := by
    have hsz : (a.eval oy).cells.size = i.sz := by rw [c1, hm]
    simp only [Nat.add_zero] at hst
    simp [execOp, hop, Instr.storeAt, hex, Instr.sureAddr, storeVar, Cx.size ht, hsz]
    rw [hst]
    rfl
  have hget : ∀ j, cs'[j]? = if off ≤ j ∧ j < off + m then (a.eval oy).cells[j - off]? else cs[j]? := by
    intro j
    have := seg_get cs.toList (a.eval oy).cells.toList off j (by simp [c1]; omega)
    simpa [cs', c1] using this
  have hsize : cs'.size = cs.size := by simp [cs', c1]; omega
  obtain ⟨μ', s', st, _, _, hf⟩ := s.sim.turn (w' := w.setRow B.g cs') (r' := { r with cells := putC r.cells off m pc }) (B' := B) (cs := cs') hr hB (.inl rfl) (by simp; exact (s.sim.lt b B hB).2) (Nat.le_refl _) (fun _ => rfl)
    hL (setRow_heap w B.g cs cs' r.ty (0, 0) hh) (by rw [hsize, hE]) hmE (fun j hj => by
      simp only [putC]
      rw [hget j]
      by_cases hr2 : off ≤ j ∧ j < off + m
      · rw [if_pos hr2, if_pos hr2]
        have hlt : j - off < (a.eval oy).cells.size := by omega
        refine ⟨(a.eval oy).cells[j - off], by simp [hlt], ?_⟩
        have := c2 (j - off) (by omega)
        simpa [Array.getD, hlt] using this
      · rw [if_neg hr2, if_neg hr2]
        exact hcells j hj) (fun k' _ hk' => setRow_other w B.g k' cs' hk') (by simp) rfl rfl rfl
  unfold Oper.wp
  rw [hrun]
  simp only [Oper.upon]
  rw [hdst, hd]
  exact hN μ' _ _ _ _ ⟨s', s.env.mono st, s.size, s.defers⟩ st rest

/-! ### append -/
def srcA (h : Hp) (sz : Nat) : AV → Option (Nat × (Nat → AV) × Prop)
  | .sl cells m n => some (n, cells, n * sz ≤ m)
  | .nils => some (0, (fun _ => .junk), True)
  | .rs b off len st sz' => match h.get b with
    | some r => some (len, cutM r.cells off (len * sz), st = r.m ∧ sz' = sz)
    | none => none
  | .str s => some (s.size, (fun j => .int .u8 (btA s j)), sz = 1)
  | .z0 => some (0, (fun _ => .junk), True)
  | _ => none

theorem src_ok {P : Program} {μ : Mu} {w : World} (s : Sim μ h w) {sz n : Nat} {u : AV} {x : Value} {pc : Nat → AV} {S : Prop} (hu : VR μ w u x) (hs : srcA h sz u = some (n, pc, S)) (hS : S) :
    (∀ w1 : World, (Builtin.lenOf x).run P w1 = .ok n w1) ∧ ∃ new : Array Value, new.size = n * sz ∧ (∀ w1 : World, w1.heap = w.heap → (Builtin.firstCells sz n x).run P w1 = .ok new w1) ∧
      ∀ j, j < n * sz → VR μ w (pc j) (new.getD j undef) := by
  have rows : ∀ (g o : Nat) (cs : Nat → AV), (∀ j, j < n * sz → ∃ u, w.cell? ⟨g, o + j, none⟩ = some u ∧ VR μ w (cs j) u) →
      ∃ new : Array Value, new.size = n * sz ∧ (∀ w1 : World, w1.heap = w.heap → (loadCells ⟨g, o, none⟩ (n * sz)).run P w1 = .ok new w1) ∧ ∀ j, j < n * sz → VR μ w (cs j) (new.getD j undef) := by
    intro g o cs hc
    have hex : ∀ j, ∃ u, j < n * sz → w.cell? ⟨g, o + j, none⟩ = some u ∧ VR μ w (cs j) u := by
      intro j
      by_cases hj : j < n * sz
      · obtain ⟨u, hu⟩ := hc j hj; exact ⟨u, fun _ => hu⟩
      · exact ⟨undef, fun hh => absurd hh hj⟩
    obtain ⟨f, hf⟩ := Classical.axiomOfChoice hex
    refine ⟨((List.range (n * sz)).map f).toArray, by simp, fun w1 h1 => run_loadCells w1 _ _ f (fun j hj => ?_), fun j hj => by simpa [hj] using (hf j hj).2⟩
    rw [cell_at]
    have := (hf j hj).1
    simpa only [World.cell?, h1] using this
  unfold srcA at hs
  split at hs
  case h_1 cells m n' =>
    simp only [Option.some.injEq, Prod.mk.injEq] at hs
    obtain ⟨rfl, rfl, rfl⟩ := hs
    rcases hu with ⟨rfl, rfl, rfl⟩ | ⟨ad, cap, rfl, hn, hse, hc⟩
    · exact ⟨fun w1 => by simp [Builtin.lenOf], #[], by simp, fun w1 _ => by simp [Builtin.firstCells], fun j hj => absurd hj (by omega)⟩
    refine ⟨fun w1 => by simp [Builtin.lenOf], ?_⟩
    by_cases h0 : n' * sz = 0
    · exact ⟨#[], by simp [h0], fun w1 _ => by simp [Builtin.firstCells, h0, loadCells, loadCellsFrom], fun j hj => absurd hj (by omega)⟩
    · have hm : 0 < m := by omega
      obtain ⟨hsp, _⟩ := hse hm
      obtain ⟨ab, ao, asp⟩ := ad
      simp only at hsp
      subst hsp
      obtain ⟨new, h1, h2, h3⟩ := rows ab ao cells (fun j hj => hc j (by omega))
      exact ⟨new, h1, fun w1 hw => by simpa [Builtin.firstCells] using h2 w1 hw, h3⟩
  case h_2 =>
    simp only [Option.some.injEq, Prod.mk.injEq] at hs
    obtain ⟨rfl, rfl, rfl⟩ := hs
    obtain rfl : x = .slice none 0 0 := hu
    exact ⟨fun w1 => by simp [Builtin.lenOf], #[], by simp, fun w1 _ => by simp [Builtin.firstCells], fun j hj => absurd hj (by omega)⟩
  case h_3 b off len st sz' =>
    cases hg : h.get b with
    | none => rw [hg] at hs; simp at hs
    | some r =>
      rw [hg] at hs
      simp only [Option.some.injEq, Prod.mk.injEq] at hs
      obtain ⟨rfl, rfl, rfl⟩ := hs
      obtain ⟨hst, rfl⟩ := hS
      rcases s.rs (by unfold refOK; rw [hg]; exact hst) hu with ⟨_, x', _, _, _, rfl, _, _, _, rfl⟩ | ⟨r', B, cs, cap, hg', _, hB, hL, rfl, hcap, hlen, hh, hE, hmE, hcells⟩
      · refine ⟨fun w1 => by simp [Builtin.lenOf], #[], by simp, fun w1 _ => by cases x' <;> simp [Builtin.firstCells, loadCells, loadCellsFrom], fun j hj => absurd hj (by omega)⟩
      rw [hg] at hg'
      injection hg' with hg'
      subst hg'
      obtain ⟨new, h1, h2, h3⟩ := rows B.g off (cutM r.cells off (len * sz')) (fun j hj => by
        obtain ⟨u, hu, hv⟩ := hcells (off + j) (by omega)
        exact ⟨u, by simp [World.cell?, hh, hu], by rw [cutM_at hj]; exact hv⟩)
      exact ⟨fun w1 => by simp [Builtin.lenOf], new, h1, fun w1 hw => by simpa [Builtin.firstCells] using h2 w1 hw, h3⟩
  case h_4 s' =>
    simp only [Option.some.injEq, Prod.mk.injEq] at hs
    obtain ⟨rfl, rfl, rfl⟩ := hs
    obtain rfl : x = .string s' := hu
    subst hS
    refine ⟨fun w1 => by simp [Builtin.lenOf], (s'.extract 0 s'.size).data.map fun b => .int .u8 b.toNat, by simp, fun w1 _ => by simp [Builtin.firstCells], fun j hj => ?_⟩
    have hj' : j < s'.size := by simpa using hj
    have hb : btA s' (j : Int) = (s'[j]'hj').toNat := by simp [btA, hj']
    show _ = _
    rw [hb]
    simp [Array.getD, hj']
    rfl
  case h_5 =>
    simp only [Option.some.injEq, Prod.mk.injEq] at hs
    obtain ⟨rfl, rfl, rfl⟩ := hs
    obtain ⟨x', rfl⟩ := hu
    refine ⟨fun w1 => by simp [Builtin.lenOf], #[], by simp, fun w1 _ => by cases x' <;> simp [Builtin.firstCells, loadCells, loadCellsFrom], fun j hj => absurd hj (by omega)⟩
  case h_6 => simp at hs

/-- Cells, and so many others behind. -/
def appC (cs : Nat → AV) (m : Nat) (pc : Nat → AV) (k : Nat) : Nat → AV := fun j => if j < m then cs j else if j < m + k then pc (j - m) else .junk

def bytesOK (C : Cx) (t : TypeId) : Prop := match C.kd t with
  | some (.slc _) => True
  | some .str => True
  | _ => False

theorem bytesOK.und {t : TypeId} (hb : bytesOK C t) : ∃ d, C.P.underlying t = some d ∧ ∀ k, d ≠ .int k := by
  unfold bytesOK at hb
  split at hb
  case h_1 e hk => obtain ⟨_, _, _, hK⟩ := kd_ok hk; exact ⟨_, hK, by simp⟩
  case h_2 hk => obtain ⟨_, _, _, hK⟩ := kd_ok hk; exact ⟨_, hK, by simp⟩
  case h_3 => exact hb.elim
end
end Go.AM
