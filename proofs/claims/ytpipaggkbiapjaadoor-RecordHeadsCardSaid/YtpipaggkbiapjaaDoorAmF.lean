import Derived.Test.YtpipaggkbiapjaaDoorAmE
/- Structs that are built; cuts; all of them together. -/
namespace Go.AM

theorem run_mapM_list {α β : Type} {P : Program} {w : World} {f : α → Sem β} {g : α → β} : ∀ (l : List α), (∀ x ∈ l, (f x).run P w = .ok (g x) w) → (l.mapM f).run P w = .ok (l.map g) w
  | [], _ => by simp
  | x :: l, h => by
    have ih := run_mapM_list l (fun y hy => h y (by simp [hy]))
    simp [List.mapM_cons, h x (by simp), ih]

theorem run_mapM_array {α β : Type} {P : Program} {w : World} {f : α → Sem β} {g : α → β} (l : Array α) (h : ∀ x ∈ l.toList, (f x).run P w = .ok (g x) w) : (l.mapM f).run P w = .ok (l.map g) w := by
  rw [Array.mapM_eq_mapM_toList, Sem.run_map, run_mapM_list l.toList h, Result.andThen_ok]
  congr 1
  apply Array.ext'
  simp

theorem fold_set (o : Nat) : ∀ (vs : List Value) (k : Nat) (cells : Array Value),
    ((vs.zipIdx k).foldl (fun cs (x : Value × Nat) => cs.setIfInBounds (o + x.2) x.1) cells).size = cells.size ∧
    ∀ i, i < cells.size → ((vs.zipIdx k).foldl (fun cs (x : Value × Nat) => cs.setIfInBounds (o + x.2) x.1) cells).getD i undef =
      if o + k ≤ i ∧ i < o + k + vs.length then vs.getD (i - (o + k)) undef else cells.getD i undef
  | [], k, cells => ⟨rfl, fun i hi => by simp; omega⟩
  | v :: vs, k, cells => by
    obtain ⟨h1, h2⟩ := fold_set o vs (k + 1) (cells.setIfInBounds (o + k) v)
    refine ⟨by simpa using h1, fun i hi => ?_⟩
    have := h2 i (by simpa using hi)
    simp only [List.zipIdx_cons, List.foldl_cons]
    rw [this]
    by_cases ha : o + (k + 1) ≤ i ∧ i < o + (k + 1) + vs.length
    · rw [if_pos ha, if_pos (by simp; omega)]
      rw [show i - (o + k) = (i - (o + (k + 1))) + 1 by omega]
      simp
    · rw [if_neg ha]
      by_cases hb : i = o + k
      · subst hb
        rw [if_pos (by simp)]
        simp [Array.getD, hi]
      · rw [if_neg (by simp; omega)]
        simp only [Array.getD_eq_getD_getElem?]
        rw [Array.getElem?_setIfInBounds_ne (by omega)]

section
variable {C : Cx} {nt : Nat} {μ : Mu} {env : Env} {h : Hp} {a : Act} {w : World}

theorem cellsA_ok (hS : Sim μ h w) {u : AV} {v : Value} {k : Nat} {pc : Nat → AV} {s : Prop} (hu : VR μ w u v) (hc : cellsA h u = some (k, pc, s)) (hs : s) :
    v.cells.size = k ∧ ∀ j, j < k → VR μ w (pc j) (v.cells.getD j undef) := by
  have one : v.cells = #[v] → VR μ w (pc 0) v → v.cells.size = 1 ∧ ∀ j, j < 1 → VR μ w (pc j) (v.cells.getD j undef) := by
    intro hv h0
    rw [hv]
    refine ⟨rfl, fun j hj => ?_⟩
    obtain rfl : j = 0 := by omega
    simpa using h0
  unfold cellsA at hc
  split at hc
  case h_2 => simp at hc
  case h_3 => simp at hc
  all_goals (simp only [Option.some.injEq, Prod.mk.injEq] at hc; obtain ⟨rfl, rfl, rfl⟩ := hc)
  case h_1 m cs =>
    obtain ⟨vs, rfl, hm, hh⟩ := hu
    exact ⟨hm, hh⟩
  case h_4 =>
    obtain ⟨r, B, cs, _, _, _, _, he, _⟩ := hS.ref hs hu
    exact one (by rw [he]; rfl) hu
  case h_5 =>
    rcases hS.rs hs hu with ⟨_, _, _, _, _, _, _, _, _, he⟩ | ⟨r, B, cs, cap, _, _, _, _, he, _⟩ <;> exact one (by rw [he]; rfl) hu
  case h_6 => exact one (by rw [show v = _ from hu]; rfl) hu
  case h_7 => exact one (by rw [show v = _ from hu]; rfl) hu
  case h_8 => exact one (by rw [show v = _ from hu]; rfl) hu
  case h_9 => exact one (by rw [show v = _ from hu]; rfl) hu
  case h_10 => exact one (by obtain ⟨g, o, he, _⟩ := hu; rw [he]; rfl) hu
  case h_11 => exact one (by rw [show v = _ from hu]; rfl) hu
  case h_12 => exact one (by rcases hu with ⟨_, _, he⟩ | ⟨ad, cap, he, _⟩ <;> (rw [he]; rfl)) hu
  case h_13 => exact one (by obtain ⟨vs, he, _⟩ := hu; rw [he]; rfl) hu
  case h_14 => exact one (by rw [show v = _ from hu]; rfl) hu
  case h_15 => exact one (by obtain ⟨x, he⟩ := hu; rw [he]; rfl) hu

theorem allTy_ok : ∀ {fs : List (TypeId × Nat)}, allTy C fs → ∀ p ∈ fs, ∃ i, C.ty p.1 = some i
  | [], _, p, hp => absurd hp (by simp)
  | q :: r, hh, p, hp => by
    obtain ⟨t, o⟩ := q
    rcases List.mem_cons.1 hp with rfl | hp
    · exact Option.isSome_iff_exists.1 hh.1
    · exact allTy_ok hh.2 p hp

theorem fits_ok : ∀ {fs : List (TypeId × Nat)} {m : Nat}, fits C fs m → ∀ t o, (t, o) ∈ fs → ∃ i, C.ty t = some i ∧ o + i.sz ≤ m
  | [], _, _, t, o, hp => absurd hp (by simp)
  | (t', o') :: r, m, hh, t, o, hp => by
    unfold fits at hh
    rcases List.mem_cons.1 hp with e | hp
    · injection e with e1 e2
      subst e1 e2
      cases hi : C.ty t with
      | none => rw [hi] at hh; exact hh.1.elim
      | some i => rw [hi] at hh; exact ⟨i, rfl, hh.1⟩
    · exact fits_ok hh.2 t o hp

theorem fillA_ok (hS : Sim μ h w) (he : EnvR μ w env a) {fs : List (TypeId × Nat)} {m : Nat} {place : Nat → Option (Nat × Nat)}
    (hp : ∀ n t o, fs[n]? = some (t, o) → ∃ i, C.ty t = some i ∧ place n = some (o, i.sz) ∧ o + i.sz ≤ m) :
    ∀ {ops : List (Nat × Operand)} {ps : List (Nat × X)}, cookPs ops = some ps → ∀ (cs : Nat → AV) (cells : Array Value), cells.size = m → (∀ j, j < m → VR μ w (cs j) (cells.getD j undef)) →
      (fillA C h fs env cs ps).2 →
      ∃ out : Array Value, Instr.fill place cells (ops.map fun p => (p.1, a.eval p.2)) = some out ∧ out.size = m ∧ ∀ j, j < m → VR μ w ((fillA C h fs env cs ps).1 j) (out.getD j undef)
  | [], ps, hc, cs, cells, hm, hv, hs => by
    simp only [cookPs, Option.some.injEq] at hc
    subst hc
    exact ⟨cells, rfl, hm, hv⟩
  | (n, o) :: ops, ps, hc, cs, cells, hm, hv, hs => by
    simp only [cookPs] at hc
    split at hc
    case h_2 => simp at hc
    case h_1 x xs h1 h2 =>
      injection hc with hc
      subst hc
      unfold fillA at hs ⊢
      split at hs
      case h_2 => exact hs.elim
      case h_1 ft off k pc s e1 e2 =>
        split at hs
        case h_2 => exact hs.elim
        case h_1 fi e3 =>
          obtain ⟨⟨hg, hs1, hk⟩, hs2⟩ := hs
          obtain ⟨i, hi, hpl, hle⟩ := hp n ft off e1
          rw [e3] at hi
          injection hi with hi
          subst hi
          obtain ⟨c1, c2⟩ := cellsA_ok hS (ev_ok h1 he hg) e2 hs1
          have hfs := fold_set off (a.eval o).cells.toList 0 cells
          have ih := fillA_ok hS he hp h2 (putC cs off k pc) (((a.eval o).cells.toList.zipIdx 0).foldl (fun cs (x : Value × Nat) => cs.setIfInBounds (off + x.2) x.1) cells) (by rw [hfs.1]; exact hm) (by
            intro j hj
            rw [hfs.2 j (by omega)]
            simp only [Nat.add_zero, Array.length_toList, c1]
            unfold putC
            by_cases hr : off ≤ j ∧ j < off + k
            · rw [if_pos hr, if_pos hr]
              have := c2 (j - off) (by omega)
              simpa [Array.getD_eq_getD_getElem?, List.getD_eq_getElem?_getD] using this
            · rw [if_neg hr, if_neg hr]
              exact hv j hj) hs2
          obtain ⟨out, o1, o2, o3⟩ := ih
          refine ⟨out, ?_, o2, o3⟩
          simp only [List.map_cons, Instr.fill, hpl]
          rw [if_neg (by simp [c1, hk, hm]; omega)]
          rw [← o1]
          congr 1
          rw [← Array.foldl_toList, Array.toList_zipIdx]

theorem bldA_ok (hS : Sim μ h w) (he : EnvR μ w env a) {t : TypeId} {ops : Array (Nat × Operand)} {ps : List (Nat × X)} (hc : cookPs ops.toList = some ps) (hs : (bldA C h env t ps).2) :
    ∃ c, (Instr.build t (ops.map fun p => (p.1, a.eval p.2))).run C.P w = .ok c w ∧ VR μ w (bldA C h env t ps).1 c := by
  unfold bldA at hs ⊢
  cases hi : C.ty t with
  | none => rw [hi] at hs; exact hs.elim
  | some i =>
    rw [hi] at hs
    simp only at hs ⊢
    cases hk : i.kd <;> rw [hk] at hs <;> try exact hs.elim
    case struct fs =>
      simp only at hs ⊢
      obtain ⟨⟨ha, hf⟩, hs⟩ := hs
      have hK := (C.ok t i hi).1
      rw [hk] at hK
      obtain ⟨fields, hu, rfl, _⟩ := hK
      have hz := (C.ok t i hi).2.2
      let place : Nat → Option (Nat × Nat) := fun n => (fields.map fun f : Field => (f.offset, ((C.ty f.type).map (·.sz)).getD 0))[n]?
      have hfill := fillA_ok (place := place) (m := i.sz) hS he (fs := fields.toList.map fun f : Field => (f.type, f.offset)) (by
        intro n ft o hn
        simp only [List.getElem?_map, Option.map_eq_some_iff] at hn
        obtain ⟨f, hf1, hf2⟩ := hn
        simp only [Prod.mk.injEq] at hf2
        obtain ⟨rfl, rfl⟩ := hf2
        obtain ⟨fi, h1, h2⟩ := fits_ok hf f.type f.offset (List.mem_map.2 ⟨f, List.mem_of_getElem? hf1, rfl⟩)
        refine ⟨fi, h1, ?_, h2⟩
        have hf1' : fields[n]? = some f := by simpa using hf1
        simp [place, hf1', h1]) hc i.z i.zv.cells hz (fun j _ => cAV_ok μ w _) hs
      obtain ⟨out, o1, o2, o3⟩ := hfill
      have hmap : (fields.mapM fun f : Field => do pure (f.offset, ← sizeOf f.type) : Sem _).run C.P w = .ok (fields.map fun f : Field => (f.offset, ((C.ty f.type).map (·.sz)).getD 0)) w := by
        refine run_mapM_array fields fun f hf => ?_
        obtain ⟨fi, h1⟩ := allTy_ok ha (f.type, f.offset) (List.mem_map.2 ⟨f, hf, rfl⟩)
        simp [Cx.size h1, h1]
      refine ⟨.agg out, ?_, out, rfl, o2, fun j hj => by rw [tabL_get _ _ _ _ hj, Nat.zero_add]; exact o3 j hj⟩
      simp only [Instr.build, Sem.run_bind, Cx.zero hi, Result.andThen_ok, run_und hu, hmap]
      have : Instr.fill (fun x => (fields.map fun f : Field => (f.offset, ((C.ty f.type).map (·.sz)).getD 0))[x]?) i.zv.cells (ops.map fun p => (p.1, a.eval p.2)).toList = some out := by
        simpa [place] using o1
      rw [this]
      rfl

theorem mf_ok (he : EnvR μ w env a) {f : FuncId} {os : Array Operand} {xs : List X} (hc : cookXs os.toList = some xs) (hs : allG (evs env xs)) :
    VR μ w (.fn f xs.length (ofL ((evs env xs).map (·.2)))) (.func (.func f) #[] (os.map a.eval)) := by
  obtain ⟨h1, h2⟩ := evs_ok hc he (allG_ok hs)
  refine ⟨_, rfl, by simpa using h1, fun i hi => ?_⟩
  have := h2 i hi
  simpa [Array.getD_eq_getD_getElem?, List.getD_eq_getElem?_getD] using this

theorem boundA_ok {o : Option Operand} {x : Option X} (hc : cookXo o = some x) (he : EnvR μ w env a) {d : Nat} {g : Bool} {n : Int} (hb : boundA env x d = some (g, n)) (hg : g = true) :
    (o = none ∧ n = d) ∨ ∃ k, o.map a.eval = some (.int k n) := by
  unfold cookXo at hc
  split at hc
  case h_1 =>
    injection hc with hc
    subst hc
    simp only [boundA, Option.some.injEq, Prod.mk.injEq] at hb
    exact .inl ⟨rfl, hb.2.symm⟩
  case h_2 op =>
    split at hc
    case h_2 => simp at hc
    case h_1 y hy =>
      injection hc with hc
      subst hc
      simp only [boundA] at hb
      obtain ⟨m, h1, h2⟩ := Option.map_eq_some_iff.1 hb
      simp only [Prod.mk.injEq] at h2
      obtain ⟨rfl, rfl⟩ := h2
      have hv := ev_ok hy he hg
      unfold natA at h1
      split at h1 <;> simp at h1
      case h_1 k n' e =>
        subst h1
        rw [e] at hv
        exact .inr ⟨k, by rw [Option.map_some, show a.eval op = _ from hv]⟩

end
end Go.AM
