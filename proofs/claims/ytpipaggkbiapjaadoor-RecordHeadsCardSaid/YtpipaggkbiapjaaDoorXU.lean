import Derived.Test.YtpipaggkbiapjaaDoorXR
import Derived.Test.YtpipaggkbiapjaaDoorAmS
/- append of zeros. -/
namespace Go.AX
open Go.AM Go.RowKit

section
variable {C : Cx} {P : Program} {nt : Nat} {env : Env} {h hS : Hp} {K : Env → Hp → Prop} {gc gx gy : Bool} {t : TypeId} {x y : X} {u : AV} {α β : Type} [Enc α] [Enc β]

theorem zeroV_ok {μ : Mu} {w : World} {e : TypeId} {ei : TI} {n : Nat} (he : C.ty e = some ei) : ∀ j, j < n * ei.sz → VR μ w (rep ei n j) ((Builtin.zeroCells ei.zv.cells n).getD j undef) := by
  intro j hj
  have hz := (C.ok e ei he).2.2
  have hpos : 0 < ei.sz := by
    rcases Nat.eq_zero_or_pos ei.sz with h0 | h0
    · rw [h0] at hj; simp at hj
    · exact h0
  have hlt2 : j % ei.sz < ei.sz := Nat.mod_lt _ hpos
  have : (Builtin.zeroCells ei.zv.cells n).getD j undef = ei.zv.cells.getD (j % ei.sz) undef := by simp [Builtin.zeroCells, Array.getD, hz, hj, hlt2]
  rw [this, rep_at hj]
  exact cAV_ok μ w _
theorem fit48 {a n by' : Nat} (h1 : n ≤ a) (h2 : a * by' ≤ 140737488355328) : n * by' ≤ 281474976710656 := by
  have := Nat.mul_le_mul_right by' h1
  omega

theorem run_app_newZ {t t' ty e : TypeId} {k : IntKind} {i : TypeInfo} {z : Value} (ht : C.P.underlying t = some (.slice e)) (ht' : C.P.underlying t' = some (.int k)) (hi : C.P.info? e = some i) (hz : i.zero = some z) (hzs : z.cells.size = i.size)
    {w : World} {s : Value} {sl sc n : Nat} {ad : Option Addr} {old : Array Value} (hs : s = .slice ad sl sc) (hold : (Builtin.firstCells i.size sl s).run C.P w.drew = .ok old w.drew)
    (hg : sc < sl + n) (h63 : ((sl + n : Nat) : Int) ≤ 9223372036854775807) (hb : n * i.bytes ≤ 281474976710656) (hfit : Builtin.nextslicecap (sl + n) sc * i.bytes ≤ 281474976710656) :
    (Builtin.append_ #[t, t'] ty #[s, .int k (n : Int)]).run C.P w = .ok (.slice (some ⟨w.heap.size, 0, none⟩) (sl + n) (grownCap w (sl + n) sc e))
      (w.drew.alloc (.cells (old ++ Builtin.zeroCells z.cells n ++ Builtin.zeroCells z.cells (grownCap w (sl + n) sc e - (sl + n))) e)) := by
  have hn : ¬ (sl + n ≤ sc) := by omega
  have h63' : ¬ (9223372036854775807 < ((sl : Int) + (n : Int))) := by omega
  have h48' : ¬ (281474976710656 < Builtin.nextslicecap (sl + n) sc * i.bytes) := by omega
  have hw : IntKind.i64.wrap (n : Int) = n := by rw [w64 (by omega) (by omega)]
  have hb' : ¬ ((281474976710656 : Int) < (n : Int) * (i.bytes : Int)) := by
    have : ((n * i.bytes : Nat) : Int) ≤ 281474976710656 := by omega
    rw [Int.natCast_mul] at this; omega
  have hneg : ¬ ((n : Int) < 0) := by omega
  subst hs
  by_cases h0 : n * i.size = 0
  · have e0 : Builtin.zeroCells z.cells n = #[] := Array.eq_empty_of_size_eq_zero (by rw [size_zeroCells, hzs]; exact h0)
    simp [Builtin.append_, run_und ht, run_und ht', sizeOf, typeInfo, zeroValue, asIntOf, hi, hz, hn, h63', h48', hw, hb', hneg, Question.forced, hold, newRow, grownCap, e0, asInt]
  · simp [Builtin.append_, run_und ht, run_und ht', sizeOf, typeInfo, zeroValue, asIntOf, hi, hz, hn, h63', h48', hw, hb', hneg, h0, Question.forced, hold, newRow, grownCap, asInt]
theorem run_app_roomZ {t t' ty e : TypeId} {k : IntKind} {i : TypeInfo} {z : Value} (ht : C.P.underlying t = some (.slice e)) (ht' : C.P.underlying t' = some (.int k)) (hi : C.P.info? e = some i) (hz : i.zero = some z) (hzs : z.cells.size = i.size)
    {w : World} {sl sc n g : Nat} {cur : Array Value} (hcur : w.heap[g]? = some (.cells cur e (0, 0))) (h1 : ∀ v ∈ (Builtin.zeroCells z.cells n).toList, v.oneCell' = true)
    (hroom : sl + n ≤ sc) (hfit : sl * i.size + (Builtin.zeroCells z.cells n).size ≤ cur.size) (h63 : (n : Int) ≤ 9223372036854775807) (hb : n * i.bytes ≤ 281474976710656) :
    (Builtin.append_ #[t, t'] ty #[.slice (some ⟨g, 0, none⟩) sl sc, .int k (n : Int)]).run C.P w = .ok (.slice (some ⟨g, 0, none⟩) (sl + n) sc)
      (w.setRow g (cur.toList.take (sl * i.size) ++ (Builtin.zeroCells z.cells n).toList ++ cur.toList.drop (sl * i.size + (Builtin.zeroCells z.cells n).toList.length)).toArray) := by
  have hw : IntKind.i64.wrap (n : Int) = n := by rw [w64 (by omega) (by omega)]
  have hb' : ¬ ((281474976710656 : Int) < (n : Int) * (i.bytes : Int)) := by
    have : ((n * i.bytes : Nat) : Int) ≤ 281474976710656 := by omega
    rw [Int.natCast_mul] at this; omega
  have hneg : ¬ ((n : Int) < 0) := by omega
  have hst := run_storeCells_at C.P g (sl * i.size) e (Builtin.zeroCells z.cells n).toList 0 cur w hcur (by simpa using hfit) h1
  simp only [Nat.add_zero] at hst
  by_cases h0 : n * i.size = 0
  · have e0 : Builtin.zeroCells z.cells n = #[] := Array.eq_empty_of_size_eq_zero (by rw [size_zeroCells, hzs]; exact h0)
    rw [e0] at hst
    simp [Builtin.append_, run_und ht, run_und ht', sizeOf, typeInfo, zeroValue, asIntOf, hi, hz, hw, hb', hneg, asInt, hroom, add_at, e0] at hst ⊢
    rw [hst]
    rfl
  · simp [Builtin.append_, run_und ht, run_und ht', sizeOf, typeInfo, zeroValue, asIntOf, hi, hz, hw, hb', hneg, h0, asInt, hroom, add_at]
    rw [hst]
    simp
theorem run_app_noneZ {t t' ty e : TypeId} {k : IntKind} {i : TypeInfo} {z : Value} {w : World} (ht : C.P.underlying t = some (.slice e)) (ht' : C.P.underlying t' = some (.int k)) (hi : C.P.info? e = some i) (_ : i.zero = some z) (ad : Option Addr) :
    (Builtin.append_ #[t, t'] ty #[.slice ad 0 0, .int k ((0 : Nat) : Int)]).run C.P w = .ok (.slice ad 0 0) w := by
  have hw : IntKind.i64.wrap (0 : Int) = 0 := by decide
  cases ad <;> simp [Builtin.append_, run_und ht, run_und ht', sizeOf, typeInfo, hi, asInt, asIntOf, hw, storeCells]

theorem app_wpZ {P' : Program} (hPC : P' = C.P) {ks : List KO} {o : Oper} {d : Option Nat} {μ : Mu} {a : Act} {w : World} {t t' e : TypeId} {ei : TI} {k : IntKind} {ox oy : Operand} {b len n : Nat} {r : Row}
    (s : SimA nt μ env h a w) (hop : o.op = .call { callee := .builtin .append, args := #[ox, oy], argTypes := #[t, t'] }) (hdst : o.dst = d)
    (hd : ∀ x, d = some x → x < nt) (ht : C.kd t = some (.slc e)) (ht' : C.kd t' = some (.int k)) (he : C.ty e = some ei) (vx : VR μ w (.rs b 0 len r.m ei.sz) (a.eval ox)) (hr : h.get b = some r) (hty : r.ty = e)
    (htip : len * ei.sz = r.m) (vy : a.eval oy = .int k (n : Int)) (hsz : 0 < ei.sz) (hby : 0 < ei.by') (hlim : (len + n) * ei.by' ≤ 140737488355328)
    (h1 : ∀ j, j < n * ei.sz → oneA h (rep ei n j)) (N : Act → World → Prop)
    (hN : ∀ μ' env' h' a' w', SimA nt μ' env' h' a' w' → Step μ w μ' w' → TL C.P nt ks K env' h' → N a' w')
    (rest : TL C.P nt ks K (putE d true (.rs b 0 (len + n) (r.m + n * ei.sz) ei.sz) env) (h.upd b ⟨e, r.m + n * ei.sz, appC r.cells r.m (rep ei n) (n * ei.sz)⟩)) : o.wp P' a w N (fun _ _ _ => False) := by
  subst hPC
  have hns : (Builtin.zeroCells ei.zv.cells n).size = n * ei.sz := by rw [size_zeroCells, (C.ok e ei he).2.2]
  have hnv := zeroV_ok (μ := μ) (w := w) (n := n) he
  generalize hnewd : Builtin.zeroCells ei.zv.cells n = new at hns hnv
  obtain ⟨_, _, _, hK⟩ := kd_ok ht
  obtain ⟨_, _, _, hK'⟩ := kd_ok ht'
  have vy' : Value.int k (n : Int) = a.eval oy := vy.symm
  obtain ⟨j, hj, hjs, hjb, hjz⟩ := C.info he
  have hz := (C.ok e ei he).2.2
  have hone : ∀ v ∈ new.toList, v.oneCell' = true := by
    intro v hv
    obtain ⟨q, hq, rfl⟩ := List.getElem_of_mem hv
    simp only [Array.length_toList] at hq
    have := oneA_ok s.sim (hnv q (by omega)) (h1 q (by omega))
    simpa [Array.getD, hq] using this
  have hbl : len + n ≤ 140737488355328 := Nat.le_trans (Nat.le_mul_of_pos_right _ hby) hlim
  have hexec : ∀ r, (Builtin.append_ #[t, t'] o.type #[a.eval ox, a.eval oy]).run C.P w = r → (execOp a.eval o).run C.P w = r.andThen fun v w' => .ok (.value v) w' := by
    intro r hr
    simp [execOp, hop, resolve, invoke, builtin, hr]
  rcases s.sim.rs (by unfold refOK; rw [hr]) vx with ⟨r', ad, _, _, hm0, rfl, _, hvir, hno, hex⟩ | ⟨r', B, cs, cap, hr', _, hB, hL, hex, hcap, hlen, hh, hE, hmE, hcells⟩
  · -- no block yet
    by_cases hn0 : n = 0
    · subst hn0
      have hrun := run_app_noneZ (C := C) (w := w) (ty := o.type) (k := k) hK hK' hj hjz ad
      obtain ⟨s', st⟩ := s.sim.revir hr (r' := ⟨e, r.m + 0 * ei.sz, appC r.cells r.m (rep ei 0) (0 * ei.sz)⟩) hvir (by simp [hm0])
      rw [vy'] at hrun
      unfold Oper.wp
      rw [← hex] at hrun
      rw [hexec _ hrun]
      simp only [Result.andThen_ok, Oper.upon]
      rw [hdst]
      refine hN μ _ _ _ _ (env_put s st s' hd ?_) st rest
      rw [hex]
      exact ⟨vx.1, by simp, fun _ => ⟨by simp [hm0], rfl, ad, rfl⟩, fun B e => by rw [hno] at e; cases e⟩
    have hrun := run_app_newZ (C := C) (w := w) (ty := o.type) (k := k) (n := n) hK hK' hj hjz (by rw [hjs]; exact hz) (s := .slice ad 0 0) (ad := ad) (old := #[]) rfl (by cases ad <;> simp [Builtin.firstCells, loadCells, loadCellsFrom]) (by omega) (by omega) (by rw [hjb]; exact fit48 (Nat.le_add_left _ _) hlim)
      (by rw [hjb]; exact growslice_fits (by omega) hlim)
    rw [hnewd, vy'] at hrun
    simp only [Nat.zero_add] at hrun
    let gc := grownCap w n 0 e
    let out : Array Value := #[] ++ new ++ Builtin.zeroCells ei.zv.cells (gc - n)
    have hsz2 : out.size = gc * ei.sz := grown_size (by simp [hns]) hz
    have hge : n ≤ gc := grownCap_ge w n 0 e
    have hget : ∀ q, q < n * ei.sz → out[q]? = new[q]? := by
      intro q hq
      simp only [out, Array.empty_append]
      rw [Array.getElem?_append, if_pos (by omega)]
    have hLE : n * ei.sz ≤ gc * ei.sz := Nat.mul_le_mul_right _ hge
    have hpos : 0 < n * ei.sz := Nat.mul_pos (by omega) hsz
    obtain ⟨μ', s', st, hnx, hnv, hf⟩ := s.sim.turnv (w' := w.drew.alloc (.cells out e)) (r' := ⟨e, r.m + n * ei.sz, appC r.cells r.m (rep ei n) (n * ei.sz)⟩) (cs := out) hr hvir (by simp only; omega) rfl rfl rfl rfl (by rw [hsz2, hm0]; simpa using hLE)
      (fun q hq => by
        have hq' : q < n * ei.sz := by simp only at hq; omega
        rw [hget q hq']
        have hlt : q < new.size := by omega
        refine ⟨new[q], by simp [hlt], ?_⟩
        have := hnv q hq'
        simp only [appC, hm0]
        rw [if_neg (by omega), if_pos (by omega), Nat.sub_zero]
        simpa [Array.getD, hlt] using this)
    unfold Oper.wp
    rw [← hex] at hrun
    rw [hexec _ hrun]
    simp only [Result.andThen_ok, Oper.upon]
    rw [hdst]
    refine hN μ' _ _ _ _ (env_put s st s' hd ?_) st rest
    refine ⟨by rw [hnx]; exact vx.1, by simp, fun hh => (hnv hh).elim, fun B' e' => ?_⟩
    rw [hf] at e'
    injection e' with e'
    subst e'
    refine ⟨Nat.le_refl _, fun _ => ⟨gc, ?_, by simp [hsz2]⟩⟩
    simp only [Nat.zero_add]
    rfl
  rw [hr] at hr'
  injection hr' with hr'
  subst hr'
  rw [hty] at hh
  by_cases hroom : len + n ≤ cap
  · -- in place
    have hfit : len * j.size + new.size ≤ cs.size := by
      rw [hjs, hns, hE, ← hcap, Nat.zero_add, ← Nat.add_mul]
      exact Nat.mul_le_mul_right _ hroom
    have hrun := run_app_roomZ (C := C) (ty := o.type) (k := k) (n := n) hK hK' hj hjz (by rw [hjs]; exact hz) (sc := cap) hh (by rw [hnewd]; exact hone) hroom (by rw [hnewd]; exact hfit) (by omega) (by rw [hjb]; exact fit48 (Nat.le_add_left _ _) hlim)
    rw [hnewd, vy'] at hrun
    rw [hjs] at hrun hfit
    let cs' : Array Value := (cs.toList.take (len * ei.sz) ++ new.toList ++ cs.toList.drop (len * ei.sz + new.toList.length)).toArray
    have hget : ∀ q, cs'[q]? = if r.m ≤ q ∧ q < r.m + n * ei.sz then new[q - r.m]? else cs[q]? := by
      intro q
      have := seg_get cs.toList new.toList (len * ei.sz) q (by simpa using hfit)
      simpa [cs', hns, htip] using this
    have hsize : cs'.size = cs.size := by simp [cs']; omega
    have hLE : r.m + n * ei.sz ≤ B.E := by rw [← hE, ← htip, ← hns]; exact hfit
    obtain ⟨μ', s', st, hnx, hnv', hf⟩ := s.sim.turn (w' := w.setRow B.g cs') (r' := ⟨e, r.m + n * ei.sz, appC r.cells r.m (rep ei n) (n * ei.sz)⟩) (B' := ⟨B.g, r.m + n * ei.sz, B.E⟩) (cs := cs') hr hB (.inl rfl) (by simp; exact (s.sim.lt b B hB).2)
      (by rw [hL]; exact Nat.le_add_right _ _) (fun h => by cases B; simp only at h ⊢; rw [h]) rfl (setRow_heap w B.g cs cs' e (0, 0) hh) (by rw [hsize, hE]) hLE (fun q hq => by
        simp only [appC]
        rw [hget q]
        by_cases hq1 : q < r.m
        · rw [if_pos hq1, if_neg (by omega)]
          exact hcells q hq1
        · simp only at hq
          rw [if_neg hq1, if_pos (by omega), if_pos (by omega)]
          have hlt : q - r.m < new.size := by omega
          refine ⟨new[q - r.m], by simp [hlt], ?_⟩
          have := hnv (q - r.m) (by omega)
          simpa [Array.getD, hlt] using this) (fun k' _ hk' => setRow_other w B.g k' cs' hk') (by simp) rfl rfl rfl
    unfold Oper.wp
    rw [← hex] at hrun
    rw [hexec _ hrun]
    simp only [Result.andThen_ok, Oper.upon]
    rw [hdst]
    refine hN μ' _ _ _ _ (env_put s st s' hd ?_) st rest
    refine ⟨by rw [hnx]; exact vx.1, by rw [Nat.zero_add, Nat.add_mul, htip]; exact Nat.le_refl _, fun hh => (hnv' hh).elim, fun B' e' => ?_⟩
    rw [hf] at e'
    injection e' with e'
    subst e'
    exact ⟨Nat.le_refl _, fun _ => ⟨cap, rfl, hcap⟩⟩
  · -- a new block
    have hold : ∃ old : Array Value, (Builtin.firstCells j.size len (.slice (some ⟨B.g, 0, none⟩) len cap)).run C.P w.drew = .ok old w.drew ∧ old.size = r.m ∧ ∀ q, q < r.m → VR μ w (r.cells q) (old.getD q undef) := by
      have hexs : ∀ q, ∃ u, q < r.m → cs[q]? = some u ∧ VR μ w (r.cells q) u := by
        intro q
        by_cases hq : q < r.m
        · obtain ⟨u, hu⟩ := hcells q hq; exact ⟨u, fun _ => hu⟩
        · exact ⟨undef, fun hh => absurd hh hq⟩
      obtain ⟨f, hf⟩ := Classical.axiomOfChoice hexs
      refine ⟨((List.range r.m).map f).toArray, ?_, by simp, fun q hq => by simpa [hq] using (hf q hq).2⟩
      simp only [Builtin.firstCells]
      rw [hjs, htip]
      refine run_loadCells w.drew _ _ f (fun q hq => ?_)
      rw [cell_at]
      have hcs := (hf q hq).1
      rw [World.cell?_drew]
      simp [World.cell?, hh, hcs]
    obtain ⟨old, ho1, ho2, ho3⟩ := hold
    have hrun := run_app_newZ (C := C) (w := w) (ty := o.type) (k := k) (n := n) hK hK' hj hjz (by rw [hjs]; exact hz) (s := .slice (some ⟨B.g, 0, none⟩) len cap) rfl ho1 (by omega) (by omega) (by rw [hjb]; exact fit48 (Nat.le_add_left _ _) hlim) (by rw [hjb]; exact growslice_fits (by omega) hlim)
    rw [hnewd, vy'] at hrun
    let gc := grownCap w (len + n) cap e
    let out : Array Value := old ++ new ++ Builtin.zeroCells ei.zv.cells (gc - (len + n))
    have hsz2 : out.size = gc * ei.sz := grown_size (by rw [ho2, hns, ← htip, Nat.add_mul]) hz
    have hge : len + n ≤ gc := grownCap_ge w (len + n) cap e
    have hget : ∀ q, q < r.m + n * ei.sz → out[q]? = if q < r.m then old[q]? else new[q - r.m]? := by
      intro q hq
      simp only [out, Array.append_assoc]
      rw [Array.getElem?_append]
      by_cases h2 : q < r.m
      · rw [if_pos (by omega), if_pos h2]
      · rw [if_neg (by omega), if_neg h2, Array.getElem?_append, if_pos (by omega), ho2]
    have hnewb : (w.drew.alloc (.cells out e)).heap[w.heap.size]? = some (.cells out e (0, 0)) := heap_alloc_new w.drew _
    have hoth : ∀ k', k' < w.heap.size → (w.drew.alloc (.cells out e)).heap[k']? = w.heap[k']? := fun k' hk' => heap_alloc_old w.drew _ k' hk'
    have hLE : r.m + n * ei.sz ≤ gc * ei.sz := by
      rw [← htip, ← Nat.add_mul]
      exact Nat.mul_le_mul_right _ hge
    have hn0 : 0 < n * ei.sz := by
      rcases Nat.eq_zero_or_pos n with h0 | h0
      · exfalso
        subst h0
        have : len * ei.sz ≤ cap * ei.sz := by omega
        have := Nat.le_of_mul_le_mul_right this hsz
        omega
      · exact Nat.mul_pos h0 hsz
    obtain ⟨μ', s', st, hnx, hnv', hf⟩ := s.sim.turn (w' := w.drew.alloc (.cells out e)) (r' := ⟨e, r.m + n * ei.sz, appC r.cells r.m (rep ei n) (n * ei.sz)⟩) (B' := ⟨w.heap.size, r.m + n * ei.sz, gc * ei.sz⟩) (cs := out) hr hB (.inr (Nat.le_refl _)) (by simp)
      (by rw [hL]; exact Nat.le_add_right _ _) (fun h => by simp only at h; omega) rfl hnewb hsz2 hLE (fun q hq => by
        simp only at hq
        simp only [appC]
        rw [hget q hq]
        by_cases hq1 : q < r.m
        · rw [if_pos hq1, if_pos hq1]
          have hlt : q < old.size := by omega
          refine ⟨old[q], by simp [hlt], ?_⟩
          have := ho3 q hq1
          simpa [Array.getD, hlt] using this
        · rw [if_neg hq1, if_neg hq1, if_pos (by omega)]
          have hlt : q - r.m < new.size := by omega
          refine ⟨new[q - r.m], by simp [hlt], ?_⟩
          have := hnv (q - r.m) (by omega)
          simpa [Array.getD, hlt] using this) (fun k' hk' _ => hoth k' hk') (by simp) rfl rfl rfl
    unfold Oper.wp
    rw [← hex] at hrun
    rw [hexec _ hrun]
    simp only [Result.andThen_ok, Oper.upon]
    rw [hdst]
    refine hN μ' _ _ _ _ (env_put s st s' hd ?_) st rest
    refine ⟨by rw [hnx]; exact vx.1, by rw [Nat.zero_add, Nat.add_mul, htip]; exact Nat.le_refl _, fun hh => (hnv' hh).elim, fun B' e' => ?_⟩
    rw [hf] at e'
    injection e' with e'
    subst e'
    exact ⟨Nat.le_refl _, fun _ => ⟨gc, rfl, by simp⟩⟩



theorem rep_oneA {ei : TI} {n : Nat} {z : α} (hs : ei.sz = Enc.sz α) (hz : ∀ j, j < Enc.sz α → ei.z j = ec z j) : ∀ j, j < n * ei.sz → oneA h (rep ei n j) := by
  intro j hj
  have hp : 0 < ei.sz := by rw [hs]; exact Enc.pos
  have hm : j % ei.sz < Enc.sz α := by rw [← hs]; exact Nat.mod_lt _ hp
  rw [rep_at hj, hz _ hm]
  have : j % ei.sz < (Enc.cl z).length := by rw [Enc.len]; exact hm
  unfold ec ofL
  rw [List.getD_eq_getElem?_getD, List.getElem?_eq_getElem this]
  exact oneA_AV1 (Enc.cell _ _ (List.getElem_mem this))

theorem TL.appOZ {d b : Nat} {t' e : TypeId} {ei : TI} {k : IntKind} {xs : List α} {n : Int} {ks : List KO} (nd : Nd h) (z : α) (hk : C.kd t = some (.slc e)) (hk' : C.kd t' = some (.int k)) (he : C.ty e = some ei) (hs : ei.sz = Enc.sz α) (hz : ∀ j, j < Enc.sz α → ei.z j = ec z j)
    (hx : ev env x = (true, OL b xs)) {j : Nat} (hj : h[j]? = some (b, RL e xs)) (hy : ev env y = (true, .int k n)) (hn : 0 ≤ n) (hby : 0 < ei.by') (hlim : (xs.length + n.toNat) * ei.by' ≤ 140737488355328) (hd : Nat.ble (d + 1) nt = true)
    (rest : Nd (h.set j (b, RL e (xs ++ List.replicate n.toNat z))) → TL C.P nt ks K ((d, true, OL b (xs ++ List.replicate n.toNat z)) :: env) (h.set j (b, RL e (xs ++ List.replicate n.toNat z)))) : TL C.P nt (⟨some d, none, .bi .append [t, t'] [x, y]⟩ :: ks) K env h := by
  refine TL.cons (gc := true) rfl ?_ (fun e => by simp at e)
  intro o μ a w ho hdst s _ N hN
  obtain ⟨ox, oy, hop, hcx, hcy⟩ := two_ops ho
  have vx := ev_ok hcx s.env (by rw [hx])
  rw [hx] at vx
  have vy := ev_ok hcy s.env (by rw [hy])
  rw [hy] at vy
  have vy : a.eval oy = .int k (n.toNat : Int) := by rw [Int.toNat_of_nonneg hn]; exact vy
  refine app_wpZ (ei := ei) (b := b) (len := xs.length) (n := n.toNat) (r := RL e xs) rfl s hop hdst (dlt hd) hk hk' he (by rw [hs]; exact vx) (nd.get hj) rfl (by simp [RL, hs]) vy (by rw [hs]; exact Enc.pos) hby hlim (rep_oneA hs hz) N hN ?_
  have hrep : rep ei n.toNat = rowL (Enc.sz α) ec (List.replicate n.toNat z) := rep_rowL hs Enc.pos hz
  have hap := appC_rowL (sz := Enc.sz α) (enc := ec) (xs := xs) (ys := List.replicate n.toNat z) (m := xs.length * Enc.sz α) (k := n.toNat * Enc.sz α) (pc := rep ei n.toNat) Enc.pos rfl (by simp) (fun q _ => by rw [hrep])
  refine TL.setrow (q' := RL e (xs ++ List.replicate n.toNat z)) nd hj rfl (by simp [RL, hs, Nat.add_mul]) (fun i _ => ?_) fun nd' => ?_
  · simp only [RL]
    rw [hs, hap]
  · have := rest nd'
    simp only [putE]
    have e1 : (AV.rs b 0 (xs.length + n.toNat) ((RL e xs).m + n.toNat * ei.sz) ei.sz) = OL b (xs ++ List.replicate n.toNat z) := by
      simp [OL, RL, hs, Nat.add_mul]
    rw [e1]
    exact this

theorem TL.appNZ {d : Nat} {t' e : TypeId} {ei : TI} {q : IntKind} {n : Int} {v : AV} {ks : List KO} (nd : Nd h) (z : α) (hk : C.kd t = some (.slc e)) (hk' : C.kd t' = some (.int q)) (he : C.ty e = some ei) (hs : ei.sz = Enc.sz α) (hz : ∀ j, j < Enc.sz α → ei.z j = ec z j)
    (hx : ev env x = (true, v)) (hv : v = .nils ∨ v = .z0) (hy : ev env y = (true, .int q n)) (hn0 : 0 ≤ n) (hby : 0 < ei.by') (hlim : n.toNat * ei.by' ≤ 140737488355328) (hd : Nat.ble (d + 1) nt = true)
    (rest : ∀ b, Nd ((b, RL e (List.replicate n.toNat z)) :: h) → TL C.P nt ks K ((d, true, OL b (List.replicate n.toNat z)) :: env) ((b, RL e (List.replicate n.toNat z)) :: h)) : TL C.P nt (⟨some d, none, .bi .append [t, t'] [x, y]⟩ :: ks) K env h := by
  refine TL.cons (gc := true) rfl ?_ (fun e => by simp at e)
  intro o μ a w ho hdst s _ N hN
  obtain ⟨ox, oy, hop, hcx, hcy⟩ := two_ops ho
  have vx := ev_ok hcx s.env (by rw [hx])
  rw [hx] at vx
  have vy := ev_ok hcy s.env (by rw [hy])
  rw [hy] at vy
  have vy : a.eval oy = .int q (n.toNat : Int) := by rw [Int.toNat_of_nonneg hn0]; exact vy
  obtain ⟨μ', s', st, hn, hnx, hf⟩ := s.sim.own ⟨e, 0, rowL (Enc.sz α) ec ([] : List α)⟩ rfl
  have hxx : ∃ p, a.eval ox = .slice p 0 0 := by
    rcases hv with rfl | rfl
    · exact ⟨none, vx⟩
    · exact vx
  have sa : SimA nt μ' env ((μ.nx, ⟨e, 0, rowL (Enc.sz α) ec ([] : List α)⟩) :: h) a w := ⟨s', s.env.mono st, s.size, s.defers⟩
  have vx' : VR μ' w (.rs μ.nx 0 0 0 ei.sz) (a.eval ox) := ⟨by omega, by simp, fun _ => ⟨rfl, rfl, hxx⟩, fun B e => by rw [hf] at e; cases e⟩
  have nd1 : Nd ((μ.nx, RL e (List.replicate n.toNat z)) :: h) := nd.cons _ hn
  refine app_wpZ (ei := ei) (b := μ.nx) (len := 0) (n := n.toNat) (r := ⟨e, 0, rowL (Enc.sz α) ec ([] : List α)⟩) rfl sa hop hdst (dlt hd) hk hk' he vx' (by simp [Hp.get]) rfl (by simp) vy (by rw [hs]; exact Enc.pos) hby (by simpa using hlim) (rep_oneA hs hz) N
    (fun μ2 env2 h2' a2 w2 s2 st2 k2 => hN μ2 env2 h2' a2 w2 s2 (st.trans st2) k2) ?_
  have hrep : rep ei n.toNat = rowL (Enc.sz α) ec (List.replicate n.toNat z) := rep_rowL hs Enc.pos hz
  have hap := appC_rowL (sz := Enc.sz α) (enc := ec) (xs := ([] : List α)) (ys := List.replicate n.toNat z) (m := 0) (k := n.toNat * Enc.sz α) (pc := rep ei n.toNat) Enc.pos (by simp) (by simp) (fun q _ => by rw [hrep])
  have := rest μ.nx nd1
  simp only [Hp.upd, if_true, Nat.zero_add, putE]
  rw [hs, hap, List.nil_append]
  simpa [OL, RL] using this
end
end Go.AX
