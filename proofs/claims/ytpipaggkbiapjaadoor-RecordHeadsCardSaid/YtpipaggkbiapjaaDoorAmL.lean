import Derived.Test.YtpipaggkbiapjaaDoorAmK
/- append. -/
namespace Go.AM
open Go.RowKit

section
variable {C : Cx} {nt : Nat} {env : Env} {h : Hp} {K : Env → Hp → Prop}

theorem Cx.info {t : TypeId} {i : TI} (hi : C.ty t = some i) : ∃ j, C.P.info? t = some j ∧ j.size = i.sz ∧ j.bytes = i.by' ∧ j.zero = some i.zv := by
  have := (C.ok t i hi).2.1
  obtain ⟨j, hj, he⟩ := Option.map_eq_some_iff.1 this
  simp only [Prod.mk.injEq] at he
  exact ⟨j, hj, he.2.1, he.2.2, he.1⟩

theorem two_ops {o : Oper} {b : Builtin} {t t' : TypeId} {x y : X} (ho : cookOp o.op = some (.bi b [t, t'] [x, y])) :
    ∃ ox oy, o.op = .call { callee := .builtin b, args := #[ox, oy], argTypes := #[t, t'] } ∧ cookX ox = some x ∧ cookX oy = some y := by
  unfold cookOp at ho
  split at ho <;> (try (simp at ho; done)) <;> (try (split at ho <;> simp at ho <;> done))
  case h_23 b' as ts e =>
    obtain ⟨q, hq, e2⟩ := Option.map_eq_some_iff.1 ho
    simp only [I.bi.injEq] at e2
    obtain ⟨rfl, h2, rfl⟩ := e2
    obtain ⟨ts⟩ := ts
    simp only at h2
    subst h2
    obtain ⟨l⟩ := as
    match l, hq with
    | [], hq => simp [cookXs] at hq
    | [p], hq =>
      simp only [cookXs] at hq
      split at hq <;> simp_all
    | [p, q], hq =>
      simp only [cookXs] at hq
      split at hq
      case h_2 => simp at hq
      case h_1 x1 l1 h1 h2 =>
        simp only [Option.some.injEq, List.cons.injEq] at hq
        obtain ⟨rfl, rfl⟩ := hq
        split at h2
        case h_2 => simp at h2
        case h_1 x2 l2 h3 h4 =>
          simp only [Option.some.injEq, List.cons.injEq] at h2
          obtain ⟨rfl, _⟩ := h2
          exact ⟨p, q, e, h1, h3⟩
    | p :: q :: r :: l, hq =>
      simp only [cookXs] at hq
      split at hq
      case h_2 => simp at hq
      case h_1 x1 l1 h1 h2 =>
        simp only [Option.some.injEq, List.cons.injEq] at hq
        obtain ⟨rfl, rfl⟩ := hq
        split at h2
        case h_2 => simp at h2
        case h_1 x2 l2 h3 h4 =>
          simp only [Option.some.injEq, List.cons.injEq] at h2
          obtain ⟨rfl, rfl⟩ := h2
          split at h4 <;> simp at h4

theorem run_app_new {t t' ty e : TypeId} {i : TypeInfo} {z : Value} (ht : C.P.underlying t = some (.slice e)) (ht' : ∃ d, C.P.underlying t' = some d ∧ ∀ k, d ≠ .int k) (hi : C.P.info? e = some i) (hz : i.zero = some z)
    {w : World} {s x : Value} {sl sc n : Nat} {ad : Option Addr} {old new : Array Value} (hs : s = .slice ad sl sc) (hold : (Builtin.firstCells i.size sl s).run C.P w.drew = .ok old w.drew)
    (hl : ∀ w1 : World, (Builtin.lenOf x).run C.P w1 = .ok n w1) (hnew : (Builtin.firstCells i.size n x).run C.P w.drew = .ok new w.drew)
    (hg : sc < sl + n) (h63 : ((sl + n : Nat) : Int) ≤ 9223372036854775807) (hfit : Builtin.nextslicecap (sl + n) sc * i.bytes ≤ 281474976710656) :
    (Builtin.append_ #[t, t'] ty #[s, x]).run C.P w = .ok (.slice (some ⟨w.heap.size, 0, none⟩) (sl + n) (grownCap w (sl + n) sc e))
      (w.drew.alloc (.cells (old ++ new ++ Builtin.zeroCells z.cells (grownCap w (sl + n) sc e - (sl + n))) e)) := by
  have hn : ¬ (sl + n ≤ sc) := by omega
  have h63' : ¬ (9223372036854775807 < ((sl : Int) + (n : Int))) := by omega
  have h48' : ¬ (281474976710656 < Builtin.nextslicecap (sl + n) sc * i.bytes) := by omega
  obtain ⟨d, hd, hdk⟩ := ht'
  subst hs
  simp [Builtin.append_, run_und ht, run_und hd, sizeOf, typeInfo, zeroValue, hi, hz, hl, hn, h63', h48', Question.forced, hnew, hold, newRow, grownCap]

theorem run_app_room {t t' ty e : TypeId} {i : TypeInfo} (ht : C.P.underlying t = some (.slice e)) (ht' : ∃ d, C.P.underlying t' = some d ∧ ∀ k, d ≠ .int k) (hi : C.P.info? e = some i)
    {w : World} {x : Value} {sl sc n g : Nat} {cur new : Array Value} (hcur : w.heap[g]? = some (.cells cur e (0, 0)))
    (hl : ∀ w1 : World, (Builtin.lenOf x).run C.P w1 = .ok n w1) (hnew : (Builtin.firstCells i.size n x).run C.P w = .ok new w) (h1 : ∀ v ∈ new.toList, v.oneCell' = true)
    (hroom : sl + n ≤ sc) (hfit : sl * i.size + new.size ≤ cur.size) :
    (Builtin.append_ #[t, t'] ty #[.slice (some ⟨g, 0, none⟩) sl sc, x]).run C.P w = .ok (.slice (some ⟨g, 0, none⟩) (sl + n) sc)
      (w.setRow g (cur.toList.take (sl * i.size) ++ new.toList ++ cur.toList.drop (sl * i.size + new.toList.length)).toArray) := by
  obtain ⟨d, hd, hdk⟩ := ht'
  have hst := run_storeCells_at C.P g (sl * i.size) e new.toList 0 cur w hcur (by simpa using hfit) h1
  simp only [Nat.add_zero] at hst
  simp [Builtin.append_, run_und ht, run_und hd, sizeOf, typeInfo, hi, hl, hroom, hnew, add_at]
  rw [hst]
  simp

theorem grown_size {w : World} {need old sz : Nat} {e : TypeId} {a b z : Array Value} (ha : a.size + b.size = need * sz) (hz : z.size = sz) :
    (a ++ b ++ Builtin.zeroCells z (grownCap w need old e - need)).size = grownCap w need old e * sz := by
  have hge := grownCap_ge w need old e
  simp only [Array.size_append, size_zeroCells, hz, ha, ← Nat.add_mul]
  congr 1
  omega

theorem run_app_none {t t' ty e : TypeId} {i : TypeInfo} (ht : C.P.underlying t = some (.slice e)) (ht' : ∃ d, C.P.underlying t' = some d ∧ ∀ k, d ≠ .int k) (hi : C.P.info? e = some i)
    {w : World} {x : Value} {new : Array Value} (hl : ∀ w1 : World, (Builtin.lenOf x).run C.P w1 = .ok 0 w1) (hnew : (Builtin.firstCells i.size 0 x).run C.P w = .ok new w) (h0 : new.size = 0) (ad : Option Addr) :
    (Builtin.append_ #[t, t'] ty #[.slice ad 0 0, x]).run C.P w = .ok (.slice ad 0 0) w := by
  obtain ⟨d, hd, hdk⟩ := ht'
  have : new = #[] := Array.eq_empty_of_size_eq_zero h0
  subst this
  cases ad <;> simp [Builtin.append_, run_und ht, run_und hd, sizeOf, typeInfo, hi, hl, hnew, storeCells]

section
variable {μ : Mu} {w : World}

/-- A row without a block, told anew. -/
theorem Sim.revir (s : Sim μ h w) {b : Nat} {r r' : Row} (hb : h.get b = some r) (hv : μ.vir b) (h0 : r'.m = 0) : Sim μ (h.upd b r') w ∧ Step μ w μ w := by
  refine ⟨⟨fun x q e => ?_, s.inj, s.lt, s.vlt, s.noban, s.banlt⟩, Step.refl _ _⟩
  rw [Hp.get_upd] at e
  by_cases hx : x = b
  · subst hx
    rw [if_pos rfl, hb] at e
    simp only [Option.map_some, Option.some.injEq] at e
    subst e
    rcases s.row x r hb with ⟨_, hn, _⟩ | ⟨_, _, hnv, _⟩
    · exact .inl ⟨hv, hn, h0⟩
    · exact (hnv hv).elim
  · rw [if_neg hx] at e
    exact s.row x q e

/-- A row without a block gets one. -/
theorem Sim.turnv (s : Sim μ h w) {w' : World} {b : Nat} {r r' : Row} {cs : Array Value} (hb : h.get b = some r) (hv : μ.vir b) (hpos : 0 < r'.m) (hw : w'.heap = w.heap.push (.cells cs r'.ty)) (ho : w'.os = w.os) (ht : w'.tape = w.tape)
    (hu : w'.output = w.output) (hm : r'.m ≤ cs.size) (hc : ∀ i, i < r'.m → ∃ u, cs[i]? = some u ∧ VR μ w (r'.cells i) u) :
    ∃ μ', Sim μ' (h.upd b r') w' ∧ Step μ w μ' w' ∧ μ'.nx = μ.nx ∧ ¬ μ'.vir b ∧ μ'.f b = some { g := w.heap.size, L := r'.m, E := cs.size } := by
  have hsz : w'.heap.size = w.heap.size + 1 := by rw [hw]; simp
  have hold : ∀ k, k < w.heap.size → w'.heap[k]? = w.heap[k]? := fun k hk => by rw [hw, Array.getElem?_push_lt hk, Array.getElem?_eq_getElem hk]
  have hnew : w'.heap[w.heap.size]? = some (.cells cs r'.ty (0, 0)) := by rw [hw]; simp
  let μ' : Mu := { f := fun x => if x = b then some { g := w.heap.size, L := r'.m, E := cs.size } else μ.f x, nx := μ.nx, ban := μ.ban, vir := fun x => x ≠ b ∧ μ.vir x }
  have hf : ∀ x D, μ'.f x = some D → (x = b ∧ D = { g := w.heap.size, L := r'.m, E := cs.size }) ∨ (x ≠ b ∧ μ.f x = some D) := by
    intro x D e
    simp only [μ'] at e
    by_cases hx : x = b
    · rw [if_pos hx] at e; injection e with e; exact .inl ⟨hx, e.symm⟩
    · rw [if_neg hx] at e; exact .inr ⟨hx, e⟩
  have st : Step μ w μ' w' := by
    refine ⟨Nat.le_refl _, fun x hx D e => ?_, fun _ _ hh => hh.2, fun _ => Iff.rfl, fun g hg _ => hold g hg, fun g hg => ⟨by have := hg.1; omega, hg.2.1, fun x D e => ?_⟩, by omega, ho, ht, hu⟩
    · rcases hf x D e with ⟨rfl, rfl⟩ | ⟨_, e⟩
      · exact .inl ⟨hv, hpos⟩
      · exact .inr ⟨D, e, Nat.le_refl _, fun _ => rfl⟩
    · rcases hf x D e with ⟨_, rfl⟩ | ⟨_, e⟩
      · have := hg.1; show w.heap.size ≠ g; omega
      · exact hg.2.2 x D e
  refine ⟨μ', ⟨fun x q e => ?_, fun x x' D D' e e' hg => ?_, fun x D e => ?_, fun x hx => s.vlt x hx.2, fun x D e => ?_, fun g hg => by have := s.banlt g hg; omega⟩, st, rfl, fun hh => hh.1 rfl, by simp [μ']⟩
  · rw [Hp.get_upd] at e
    by_cases hx : x = b
    · subst hx
      rw [if_pos rfl, hb] at e
      simp only [Option.map_some, Option.some.injEq] at e
      subst e
      refine .inr ⟨{ g := w.heap.size, L := r'.m, E := cs.size }, cs, fun hh => hh.1 rfl, by simp [μ'], rfl, hnew, rfl, hm, fun i hi => ?_⟩
      obtain ⟨u, hu, hv⟩ := hc i hi
      exact ⟨u, hu, VR.mono st _ _ hv⟩
    · rw [if_neg hx] at e
      rcases s.row x q e with ⟨hv', hn, h0⟩ | ⟨D, ds, hnv, h1, h2, h3, h4, h5, h6⟩
      · exact .inl ⟨⟨hx, hv'⟩, by simp only [μ']; rw [if_neg hx]; exact hn, h0⟩
      refine .inr ⟨D, ds, fun hh => hnv hh.2, by simp only [μ']; rw [if_neg hx]; exact h1, h2, (hold _ (s.lt x D h1).2).trans h3, h4, h5, fun i hi => ?_⟩
      obtain ⟨u, hu, hv⟩ := h6 i hi
      exact ⟨u, hu, VR.mono st _ _ hv⟩
  · rcases hf x D e with ⟨rfl, rfl⟩ | ⟨hx, e1⟩ <;> rcases hf x' D' e' with ⟨rfl, rfl⟩ | ⟨hx', e2⟩
    · rfl
    · have := (s.lt x' D' e2).2; simp only at hg; omega
    · have := (s.lt x D e1).2; simp only at hg; omega
    · exact s.inj x x' D D' e1 e2 hg
  · rcases hf x D e with ⟨rfl, rfl⟩ | ⟨hx, e1⟩
    · exact ⟨s.vlt x hv, by simp only; omega⟩
    · have := s.lt x D e1; exact ⟨this.1, by omega⟩
  · rcases hf x D e with ⟨rfl, rfl⟩ | ⟨hx, e1⟩
    · intro hban; have := s.banlt _ hban; simp only at this; omega
    · exact s.noban x D e1

/-- nil, and what has no room, taken as an own row. -/
theorem Sim.own (s : Sim μ h w) (r : Row) (h0 : r.m = 0) :
    ∃ μ', Sim μ' ((μ.nx, r) :: h) w ∧ Step μ w μ' w ∧ h.get μ.nx = none ∧ μ'.nx = μ.nx + 1 ∧ μ'.f μ.nx = none := by
  have hnvir : ¬ μ.vir μ.nx := fun hh => Nat.lt_irrefl _ (s.vlt _ hh)
  have hfn : μ.f μ.nx = none := by
    cases hq : μ.f μ.nx with
    | none => rfl
    | some B => have := (s.lt _ B hq).1; omega
  let μ' : Mu := { f := μ.f, nx := μ.nx + 1, ban := μ.ban, vir := fun x => x = μ.nx ∨ μ.vir x }
  have st : Step μ w μ' w := by
    refine ⟨by simp [μ'], fun b hb B e => .inr ⟨B, e, Nat.le_refl _, fun _ => rfl⟩, fun b hb hh => hh.resolve_left (by omega), fun _ => Iff.rfl, fun g hg _ => rfl, fun g hg => hg, Nat.le_refl _, rfl, rfl, rfl⟩
  refine ⟨μ', ⟨fun b q e => ?_, s.inj, fun b B e => ?_, fun b hb => ?_, s.noban, s.banlt⟩, st, ?_, rfl, hfn⟩
  · simp only [Hp.get] at e
    by_cases hb : μ.nx = b
    · rw [if_pos hb] at e
      injection e with e
      subst e hb
      exact .inl ⟨.inl rfl, hfn, h0⟩
    · rw [if_neg hb] at e
      rcases s.row b q e with ⟨hv, hn, h0⟩ | ⟨B, ds, hnv, h1, h2, h3, h4, h5, h6⟩
      · exact .inl ⟨.inr hv, hn, h0⟩
      refine .inr ⟨B, ds, fun hh => hnv (hh.resolve_left fun e => hb e.symm), h1, h2, h3, h4, h5, fun i hi => ?_⟩
      obtain ⟨u, hu, hv⟩ := h6 i hi
      exact ⟨u, hu, VR.mono st _ _ hv⟩
  · have := s.lt b B e; exact ⟨Nat.lt_succ_of_lt this.1, this.2⟩
  · rcases hb with rfl | hb
    · exact Nat.lt_succ_self _
    · exact Nat.lt_succ_of_lt (s.vlt b hb)
  · cases hq : h.get μ.nx with
    | none => rfl
    | some q =>
      rcases s.row _ q hq with ⟨hv, _⟩ | ⟨B, ds, _, h1, _⟩
      · exact (hnvir hv).elim
      have := (s.lt _ B h1).1
      omega
end

/-- A slot that holds nil holds an own row of nothing. -/
theorem TK.own {P : Program} {c : KC} {Q : Post} (t : Nat) (ty : TypeId) (sz : Nat) (cells : Nat → AV) {v : AV} (hl : lk env t = some (true, v)) (hv : v = .nils ∨ v = .z0)
    (k : ∀ b, h.get b = none → TK P nt c Q ((t, true, .rs b 0 0 0 sz) :: env) ((b, ⟨ty, 0, cells⟩) :: h)) : TK P nt c Q env h := by
  intro c' hc μ a w s
  obtain ⟨μ', s', st, hn, hnx, hf⟩ := s.sim.own ⟨ty, 0, cells⟩ rfl
  have hvv := (s.env t true v hl).1 rfl
  have hx : ∃ x, a.tmps.getD t undef = .slice x 0 0 := by
    rcases hv with rfl | rfl
    · exact ⟨none, hvv⟩
    · exact hvv
  have := k μ.nx hn c' hc μ' a w ⟨s', fun t' g v' e => ?_, s.size, s.defers⟩
  · refine wp_mono this ?_
    rintro e a' w' ⟨μ2, env2, h2, q, s2, st2⟩
    exact ⟨μ2, env2, h2, q, s2, st.trans st2⟩
  · simp only [lk] at e
    by_cases ht : t = t'
    · rw [if_pos ht] at e
      simp only [Option.some.injEq, Prod.mk.injEq] at e
      obtain ⟨rfl, rfl⟩ := e
      subst ht
      exact ⟨fun _ => ⟨by omega, by simp, fun _ => ⟨rfl, rfl, hx⟩, fun B e => by rw [hf] at e; cases e⟩, fun hh => by cases hh⟩
    · rw [if_neg ht] at e
      exact (s.env.mono st) t' g v' e

/-- append onto what an own row's end tells: what the machine does. -/
theorem app_wp {P' : Program} (hPC : P' = C.P) {ks : List KO} {o : Oper} {d : Option Nat} {μ : Mu} {a : Act} {w : World} {t t' e : TypeId} {ei : TI} {ox oy : Operand} {u : AV} {b len n : Nat} {pc : Nat → AV} {S : Prop} {r : Row}
    (s : SimA nt μ env h a w) (hop : o.op = .call { callee := .builtin .append, args := #[ox, oy], argTypes := #[t, t'] }) (hdst : o.dst = d)
    (hd : ∀ x, d = some x → x < nt) (ht : C.kd t = some (.slc e)) (ht' : bytesOK C t') (he : C.ty e = some ei) (vx : VR μ w (.rs b 0 len r.m ei.sz) (a.eval ox)) (hr : h.get b = some r) (hty : r.ty = e)
    (htip : len * ei.sz = r.m) (vy : VR μ w u (a.eval oy)) (hsrc : srcA h ei.sz u = some (n, pc, S)) (hS : S) (hsz : 0 < ei.sz) (hby : 0 < ei.by') (hlim : (len + n) * ei.by' ≤ 140737488355328)
    (h1 : ∀ j, j < n * ei.sz → oneA h (pc j)) (N : Act → World → Prop)
    (hN : ∀ μ' env' h' a' w', SimA nt μ' env' h' a' w' → Step μ w μ' w' → TL C.P nt ks K env' h' → N a' w')
    (rest : TL C.P nt ks K (putE d true (.rs b 0 (len + n) (r.m + n * ei.sz) ei.sz) env) (h.upd b ⟨e, r.m + n * ei.sz, appC r.cells r.m pc (n * ei.sz)⟩)) : o.wp P' a w N (fun _ _ _ => False) := by
  subst hPC
  obtain ⟨hl, new, hns, hnew, hnv⟩ := src_ok (P := C.P) s.sim vy hsrc hS
  obtain ⟨_, _, _, hK⟩ := kd_ok ht
  obtain ⟨j, hj, hjs, hjb, hjz⟩ := C.info he
  have hz := (C.ok e ei he).2.2
  have hone : ∀ v ∈ new.toList, v.oneCell' = true := by
    intro v hv
    obtain ⟨q, hq, rfl⟩ := List.getElem_of_mem hv
    simp only [Array.length_toList] at hq
    have := oneA_ok s.sim (hnv q (by omega)) (h1 q (by omega))
    simpa [Array.getD, hq] using this
  have hbl : len + n ≤ 140737488355328 := Nat.le_trans (Nat.le_mul_of_pos_right _ hby) hlim
  have hexec : ∀ r, (Builtin.append_ #[t, t'] o.type #[a.eval ox, a.eval oy]).run C.P w = r → (execOp a.eval o).run C.P w = r.andThen fun v w' => .ok (.value v) w' := by
    intro r hr
    simp [execOp, hop, resolve, invoke, builtin, hr]
  rcases s.sim.rs (by unfold refOK; rw [hr]) vx with ⟨r', ad, _, _, hm0, rfl, _, hvir, hno, hex⟩ | ⟨r', B, cs, cap, hr', _, hB, hL, hex, hcap, hlen, hh, hE, hmE, hcells⟩
  · -- no block yet
    by_cases hn0 : n = 0
    · subst hn0
      have hrun := run_app_none (C := C) (ty := o.type) hK ht'.und hj hl (by rw [hjs]; exact hnew w rfl) (by simpa using hns) ad
      obtain ⟨s', st⟩ := s.sim.revir hr (r' := ⟨e, r.m + 0 * ei.sz, appC r.cells r.m pc (0 * ei.sz)⟩) hvir (by simp [hm0])
      unfold Oper.wp
      rw [← hex] at hrun
      rw [hexec _ hrun]
      simp only [Result.andThen_ok, Oper.upon]
      rw [hdst]
      refine hN μ _ _ _ _ (env_put s st s' hd ?_) st rest
      rw [hex]
      exact ⟨vx.1, by simp, fun _ => ⟨by simp [hm0], rfl, ad, rfl⟩, fun B e => by rw [hno] at e; cases e⟩
    have hrun := run_app_new (C := C) (ty := o.type) hK ht'.und hj hjz (s := .slice ad 0 0) (ad := ad) (old := #[]) rfl (by cases ad <;> simp [Builtin.firstCells, loadCells, loadCellsFrom]) hl (by rw [hjs]; exact hnew w.drew rfl) (by omega) (by omega)
      (by rw [hjb]; exact growslice_fits (by omega) hlim)
    simp only [Nat.zero_add] at hrun
    let gc := grownCap w n 0 e
    let out : Array Value := #[] ++ new ++ Builtin.zeroCells ei.zv.cells (gc - n)
    have hsz2 : out.size = gc * ei.sz := grown_size (by simp [hns]) hz
    have hge : n ≤ gc := grownCap_ge w n 0 e
    have hget : ∀ q, q < n * ei.sz → out[q]? = new[q]? := by
      intro q hq
      simp only [out, Array.empty_append]
      rw [Array.getElem?_append, if_pos (by omega)]
    have hLE : n * ei.sz ≤ gc * ei.sz := Nat.mul_le_mul_right _ hge
    have hpos : 0 < n * ei.sz := Nat.mul_pos (by omega) hsz
    obtain ⟨μ', s', st, hnx, hnv, hf⟩ := s.sim.turnv (w' := w.drew.alloc (.cells out e)) (r' := ⟨e, r.m + n * ei.sz, appC r.cells r.m pc (n * ei.sz)⟩) (cs := out) hr hvir (by simp only; omega) rfl rfl rfl rfl (by rw [hsz2, hm0]; simpa using hLE)
      (fun q hq => by
        have hq' : q < n * ei.sz := by simp only at hq; omega
        rw [hget q hq']
        have hlt : q < new.size := by omega
        refine ⟨new[q], by simp [hlt], ?_⟩
        have := hnv q hq'
        simp only [appC, hm0]
        rw [if_neg (by omega), if_pos (by omega), Nat.sub_zero]
        simpa [Array.getD, hlt] using this)
    unfold Oper.wp
    rw [← hex] at hrun
    rw [hexec _ hrun]
    simp only [Result.andThen_ok, Oper.upon]
    rw [hdst]
    refine hN μ' _ _ _ _ (env_put s st s' hd ?_) st rest
    refine ⟨by rw [hnx]; exact vx.1, by simp, fun hh => (hnv hh).elim, fun B' e' => ?_⟩
    rw [hf] at e'
    injection e' with e'
    subst e'
    refine ⟨Nat.le_refl _, fun _ => ⟨gc, ?_, by simp [hsz2]⟩⟩
    simp only [Nat.zero_add]
    rfl
  rw [hr] at hr'
  injection hr' with hr'
  subst hr'
  rw [hty] at hh
  by_cases hroom : len + n ≤ cap
  · -- in place
    have hfit : len * j.size + new.size ≤ cs.size := by
      rw [hjs, hns, hE, ← hcap, Nat.zero_add, ← Nat.add_mul]
      exact Nat.mul_le_mul_right _ hroom
    have hrun := run_app_room (C := C) (ty := o.type) hK ht'.und hj (sc := cap) hh hl (by rw [hjs]; exact hnew w rfl) hone hroom hfit
    rw [hjs] at hrun hfit
    let cs' : Array Value := (cs.toList.take (len * ei.sz) ++ new.toList ++ cs.toList.drop (len * ei.sz + new.toList.length)).toArray
    have hget : ∀ q, cs'[q]? = if r.m ≤ q ∧ q < r.m + n * ei.sz then new[q - r.m]? else cs[q]? := by
      intro q
      have := seg_get cs.toList new.toList (len * ei.sz) q (by simpa using hfit)
      simpa [cs', hns, htip] using this
    have hsize : cs'.size = cs.size := by simp [cs']; omega
    have hLE : r.m + n * ei.sz ≤ B.E := by rw [← hE, ← htip, ← hns]; exact hfit
    obtain ⟨μ', s', st, hnx, hnv', hf⟩ := s.sim.turn (w' := w.setRow B.g cs') (r' := ⟨e, r.m + n * ei.sz, appC r.cells r.m pc (n * ei.sz)⟩) (B' := ⟨B.g, r.m + n * ei.sz, B.E⟩) (cs := cs') hr hB (.inl rfl) (by simp; exact (s.sim.lt b B hB).2)
      (by rw [hL]; exact Nat.le_add_right _ _) (fun h => by cases B; simp only at h ⊢; rw [h]) rfl (setRow_heap w B.g cs cs' e (0, 0) hh) (by rw [hsize, hE]) hLE (fun q hq => by
        simp only [appC]
        rw [hget q]
        by_cases hq1 : q < r.m
        · rw [if_pos hq1, if_neg (by omega)]
          exact hcells q hq1
        · simp only at hq
          rw [if_neg hq1, if_pos (by omega), if_pos (by omega)]
          have hlt : q - r.m < new.size := by omega
          refine ⟨new[q - r.m], by simp [hlt], ?_⟩
          have := hnv (q - r.m) (by omega)
          simpa [Array.getD, hlt] using this) (fun k' _ hk' => setRow_other w B.g k' cs' hk') (by simp) rfl rfl rfl
    unfold Oper.wp
    rw [← hex] at hrun
    rw [hexec _ hrun]
    simp only [Result.andThen_ok, Oper.upon]
    rw [hdst]
    refine hN μ' _ _ _ _ (env_put s st s' hd ?_) st rest
    refine ⟨by rw [hnx]; exact vx.1, by rw [Nat.zero_add, Nat.add_mul, htip]; exact Nat.le_refl _, fun hh => (hnv' hh).elim, fun B' e' => ?_⟩
    rw [hf] at e'
    injection e' with e'
    subst e'
    exact ⟨Nat.le_refl _, fun _ => ⟨cap, rfl, hcap⟩⟩
  · -- a new block
    have hold : ∃ old : Array Value, (Builtin.firstCells j.size len (.slice (some ⟨B.g, 0, none⟩) len cap)).run C.P w.drew = .ok old w.drew ∧ old.size = r.m ∧ ∀ q, q < r.m → VR μ w (r.cells q) (old.getD q undef) := by
      have hexs : ∀ q, ∃ u, q < r.m → cs[q]? = some u ∧ VR μ w (r.cells q) u := by
        intro q
        by_cases hq : q < r.m
        · obtain ⟨u, hu⟩ := hcells q hq; exact ⟨u, fun _ => hu⟩
        · exact ⟨undef, fun hh => absurd hh hq⟩
      obtain ⟨f, hf⟩ := Classical.axiomOfChoice hexs
      refine ⟨((List.range r.m).map f).toArray, ?_, by simp, fun q hq => by simpa [hq] using (hf q hq).2⟩
      simp only [Builtin.firstCells]
      rw [hjs, htip]
      refine run_loadCells w.drew _ _ f (fun q hq => ?_)
      rw [cell_at]
      have hcs := (hf q hq).1
      rw [World.cell?_drew]
      simp [World.cell?, hh, hcs]
    obtain ⟨old, ho1, ho2, ho3⟩ := hold
    have hrun := run_app_new (C := C) (ty := o.type) hK ht'.und hj hjz (s := .slice (some ⟨B.g, 0, none⟩) len cap) rfl ho1 hl (by rw [hjs]; exact hnew w.drew rfl) (by omega) (by omega) (by rw [hjb]; exact growslice_fits (by omega) hlim)
    let gc := grownCap w (len + n) cap e
    let out : Array Value := old ++ new ++ Builtin.zeroCells ei.zv.cells (gc - (len + n))
    have hsz2 : out.size = gc * ei.sz := grown_size (by rw [ho2, hns, ← htip, Nat.add_mul]) hz
    have hge : len + n ≤ gc := grownCap_ge w (len + n) cap e
    have hget : ∀ q, q < r.m + n * ei.sz → out[q]? = if q < r.m then old[q]? else new[q - r.m]? := by
      intro q hq
      simp only [out, Array.append_assoc]
      rw [Array.getElem?_append]
      by_cases h2 : q < r.m
      · rw [if_pos (by omega), if_pos h2]
      · rw [if_neg (by omega), if_neg h2, Array.getElem?_append, if_pos (by omega), ho2]
    have hnewb : (w.drew.alloc (.cells out e)).heap[w.heap.size]? = some (.cells out e (0, 0)) := heap_alloc_new w.drew _
    have hoth : ∀ k', k' < w.heap.size → (w.drew.alloc (.cells out e)).heap[k']? = w.heap[k']? := fun k' hk' => heap_alloc_old w.drew _ k' hk'
    have hLE : r.m + n * ei.sz ≤ gc * ei.sz := by
      rw [← htip, ← Nat.add_mul]
      exact Nat.mul_le_mul_right _ hge
    have hn0 : 0 < n * ei.sz := by
      rcases Nat.eq_zero_or_pos n with h0 | h0
      · exfalso
        subst h0
        have : len * ei.sz ≤ cap * ei.sz := by omega
        have := Nat.le_of_mul_le_mul_right this hsz
        omega
      · exact Nat.mul_pos h0 hsz
    obtain ⟨μ', s', st, hnx, hnv', hf⟩ := s.sim.turn (w' := w.drew.alloc (.cells out e)) (r' := ⟨e, r.m + n * ei.sz, appC r.cells r.m pc (n * ei.sz)⟩) (B' := ⟨w.heap.size, r.m + n * ei.sz, gc * ei.sz⟩) (cs := out) hr hB (.inr (Nat.le_refl _)) (by simp)
      (by rw [hL]; exact Nat.le_add_right _ _) (fun h => by simp only at h; omega) rfl hnewb hsz2 hLE (fun q hq => by
        simp only at hq
        simp only [appC]
        rw [hget q hq]
        by_cases hq1 : q < r.m
        · rw [if_pos hq1, if_pos hq1]
          have hlt : q < old.size := by omega
          refine ⟨old[q], by simp [hlt], ?_⟩
          have := ho3 q hq1
          simpa [Array.getD, hlt] using this
        · rw [if_neg hq1, if_neg hq1, if_pos (by omega)]
          have hlt : q - r.m < new.size := by omega
          refine ⟨new[q - r.m], by simp [hlt], ?_⟩
          have := hnv (q - r.m) (by omega)
          simpa [Array.getD, hlt] using this) (fun k' hk' _ => hoth k' hk') (by simp) rfl rfl rfl
    unfold Oper.wp
    rw [← hex] at hrun
    rw [hexec _ hrun]
    simp only [Result.andThen_ok, Oper.upon]
    rw [hdst]
    refine hN μ' _ _ _ _ (env_put s st s' hd ?_) st rest
    refine ⟨by rw [hnx]; exact vx.1, by rw [Nat.zero_add, Nat.add_mul, htip]; exact Nat.le_refl _, fun hh => (hnv' hh).elim, fun B' e' => ?_⟩
    rw [hf] at e'
    injection e' with e'
    subst e'
    exact ⟨Nat.le_refl _, fun _ => ⟨gc, rfl, by simp⟩⟩

/-- append onto an own row, at its end. -/
theorem TL.app {k : KO} {ks : List KO} {t t' e : TypeId} {ei : TI} {x y : X} {b len n : Nat} {pc : Nat → AV} {S : Prop} {r : Row} (hi : k.i = .bi .append [t, t'] [x, y]) (hg : k.g = none)
    (hd : ∀ d, k.d = some d → d < nt) (ht : C.kd t = some (.slc e)) (ht' : bytesOK C t') (he : C.ty e = some ei) (hx : ev env x = (true, .rs b 0 len r.m ei.sz)) (hr : h.get b = some r) (hty : r.ty = e)
    (htip : len * ei.sz = r.m) (hy : (ev env y).1 = true) (hsrc : srcA h ei.sz (ev env y).2 = some (n, pc, S)) (hS : S) (hsz : 0 < ei.sz) (hby : 0 < ei.by') (hlim : (len + n) * ei.by' ≤ 140737488355328)
    (h1 : ∀ j, j < n * ei.sz → oneA h (pc j))
    (rest : TL C.P nt ks K (putE k.d true (.rs b 0 (len + n) (r.m + n * ei.sz) ei.sz) env) (h.upd b ⟨e, r.m + n * ei.sz, appC r.cells r.m pc (n * ei.sz)⟩)) : TL C.P nt (k :: ks) K env h := by
  refine TL.cons (gc := true) (by rw [hg]; rfl) ?_ (fun e => by simp at e)
  intro o μ a w ho hdst s _ N hN
  rw [hi] at ho
  obtain ⟨ox, oy, hop, hcx, hcy⟩ := two_ops ho
  have vx := ev_ok hcx s.env (by rw [hx])
  rw [hx] at vx
  have vy := ev_ok hcy s.env hy
  exact app_wp rfl s hop hdst hd ht ht' he vx hr hty htip vy hsrc hS hsz hby hlim h1 N hN rest

end
end Go.AM
