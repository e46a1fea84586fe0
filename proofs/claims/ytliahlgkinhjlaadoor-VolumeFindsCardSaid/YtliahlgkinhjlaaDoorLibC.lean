import Derived.Test.YtliahlgkinhjlaaDoorLibB
namespace Go.AX
open Go.AM Go.RowKit
section
variable {C : Cx} {P : Program} {nt : Nat} {env : Env} {h hS : Hp} {K : Env → Hp → Prop} {gc gx gy : Bool} {t : TypeId} {x y : X} {u : AV} {α β : Type} [Enc α] [Enc β]
theorem zeroV_ok {μ : Mu} {w : World} {e : TypeId} {ei : TI} {n : Nat} (he : C.ty e = some ei) : ∀ j, j < n * ei.sz → VR μ w (rep ei n j) ((Builtin.zeroCells ei.zv.cells n).getD j undef) := by
  intro j hj
  have hz := (C.ok e ei he).2.2
  have hpos : 0 < ei.sz := by
    rcases Nat.eq_zero_or_pos ei.sz with h0 | h0
    · rw [h0] at hj; simp at hj
    · exact h0
  have hlt2 : j % ei.sz < ei.sz := Nat.mod_lt _ hpos
  have : (Builtin.zeroCells ei.zv.cells n).getD j undef = ei.zv.cells.getD (j % ei.sz) undef := by simp [Builtin.zeroCells, Array.getD, hz, hj, hlt2]
  rw [this, rep_at hj]
  exact cAV_ok μ w _
theorem fit48 {a n by' : Nat} (h1 : n ≤ a) (h2 : a * by' ≤ 140737488355328) : n * by' ≤ 281474976710656 := by
  have := Nat.mul_le_mul_right by' h1
  omega
theorem run_app_newZ {t t' ty e : TypeId} {k : IntKind} {i : TypeInfo} {z : Value} (ht : C.P.underlying t = some (.slice e)) (ht' : C.P.underlying t' = some (.int k)) (hi : C.P.info? e = some i) (hz : i.zero = some z) (hzs : z.cells.size = i.size)
    {w : World} {s : Value} {sl sc n : Nat} {ad : Option Addr} {old : Array Value} (hs : s = .slice ad sl sc) (hold : (Builtin.firstCells i.size sl s).run C.P w.drew = .ok old w.drew)
    (hg : sc < sl + n) (h63 : ((sl + n : Nat) : Int) ≤ 9223372036854775807) (hb : n * i.bytes ≤ 281474976710656) (hfit : Builtin.nextslicecap (sl + n) sc * i.bytes ≤ 281474976710656) :
    (Builtin.append_ #[t, t'] ty #[s, .int k (n : Int)]).run C.P w = .ok (.slice (some ⟨w.heap.size, 0, none⟩) (sl + n) (grownCap w (sl + n) sc e))
      (w.drew.alloc (.cells (old ++ Builtin.zeroCells z.cells n ++ Builtin.zeroCells z.cells (grownCap w (sl + n) sc e - (sl + n))) e)) := by
  have hn : ¬ (sl + n ≤ sc) := by omega
  have h63' : ¬ (9223372036854775807 < ((sl : Int) + (n : Int))) := by omega
  have h48' : ¬ (281474976710656 < Builtin.nextslicecap (sl + n) sc * i.bytes) := by omega
  have hw : IntKind.i64.wrap (n : Int) = n := by rw [w64 (by omega) (by omega)]
  have hb' : ¬ ((281474976710656 : Int) < (n : Int) * (i.bytes : Int)) := by
    have : ((n * i.bytes : Nat) : Int) ≤ 281474976710656 := by omega
    rw [Int.natCast_mul] at this; omega
  have hneg : ¬ ((n : Int) < 0) := by omega
  subst hs
  by_cases h0 : n * i.size = 0
  · have e0 : Builtin.zeroCells z.cells n = #[] := Array.eq_empty_of_size_eq_zero (by rw [size_zeroCells, hzs]; exact h0)
    simp [Builtin.append_, run_und ht, run_und ht', sizeOf, typeInfo, zeroValue, asIntOf, hi, hz, hn, h63', h48', hw, hb', hneg, Question.forced, hold, newRow, grownCap, e0, asInt]
  · simp [Builtin.append_, run_und ht, run_und ht', sizeOf, typeInfo, zeroValue, asIntOf, hi, hz, hn, h63', h48', hw, hb', hneg, h0, Question.forced, hold, newRow, grownCap, asInt]
theorem run_app_roomZ {t t' ty e : TypeId} {k : IntKind} {i : TypeInfo} {z : Value} (ht : C.P.underlying t = some (.slice e)) (ht' : C.P.underlying t' = some (.int k)) (hi : C.P.info? e = some i) (hz : i.zero = some z) (hzs : z.cells.size = i.size)
    {w : World} {sl sc n g : Nat} {cur : Array Value} (hcur : w.heap[g]? = some (.cells cur e (0, 0))) (h1 : ∀ v ∈ (Builtin.zeroCells z.cells n).toList, v.oneCell' = true)
    (hroom : sl + n ≤ sc) (hfit : sl * i.size + (Builtin.zeroCells z.cells n).size ≤ cur.size) (h63 : (n : Int) ≤ 9223372036854775807) (hb : n * i.bytes ≤ 281474976710656) :
    (Builtin.append_ #[t, t'] ty #[.slice (some ⟨g, 0, none⟩) sl sc, .int k (n : Int)]).run C.P w = .ok (.slice (some ⟨g, 0, none⟩) (sl + n) sc)
      (w.setRow g (cur.toList.take (sl * i.size) ++ (Builtin.zeroCells z.cells n).toList ++ cur.toList.drop (sl * i.size + (Builtin.zeroCells z.cells n).toList.length)).toArray) := by
  have hw : IntKind.i64.wrap (n : Int) = n := by rw [w64 (by omega) (by omega)]
  have hb' : ¬ ((281474976710656 : Int) < (n : Int) * (i.bytes : Int)) := by
    have : ((n * i.bytes : Nat) : Int) ≤ 281474976710656 := by omega
    rw [Int.natCast_mul] at this; omega
  have hneg : ¬ ((n : Int) < 0) := by omega
  have hst := run_storeCells_at C.P g (sl * i.size) e (Builtin.zeroCells z.cells n).toList 0 cur w hcur (by simpa using hfit) h1
  simp only [Nat.add_zero] at hst
  by_cases h0 : n * i.size = 0
  · have e0 : Builtin.zeroCells z.cells n = #[] := Array.eq_empty_of_size_eq_zero (by rw [size_zeroCells, hzs]; exact h0)
    rw [e0] at hst
    simp [Builtin.append_, run_und ht, run_und ht', sizeOf, typeInfo, zeroValue, asIntOf, hi, hz, hw, hb', hneg, asInt, hroom, add_at, e0] at hst ⊢
    rw [hst]
    rfl
  · simp [Builtin.append_, run_und ht, run_und ht', sizeOf, typeInfo, zeroValue, asIntOf, hi, hz, hw, hb', hneg, h0, asInt, hroom, add_at]
    rw [hst]
    simp
theorem run_app_noneZ {t t' ty e : TypeId} {k : IntKind} {i : TypeInfo} {z : Value} {w : World} (ht : C.P.underlying t = some (.slice e)) (ht' : C.P.underlying t' = some (.int k)) (hi : C.P.info? e = some i) (_ : i.zero = some z) (ad : Option Addr) :
    (Builtin.append_ #[t, t'] ty #[.slice ad 0 0, .int k ((0 : Nat) : Int)]).run C.P w = .ok (.slice ad 0 0) w := by
  have hw : IntKind.i64.wrap (0 : Int) = 0 := by decide
  cases ad <;> simp [Builtin.append_, run_und ht, run_und ht', sizeOf, typeInfo, hi, asInt, asIntOf, hw, storeCells]
theorem app_wpZ {P' : Program} (hPC : P' = C.P) {ks : List KO} {o : Oper} {d : Option Nat} {μ : Mu} {a : Act} {w : World} {t t' e : TypeId} {ei : TI} {k : IntKind} {ox oy : Operand} {b len n : Nat} {r : Row}
    (s : SimA nt μ env h a w) (hop : o.op = .call { callee := .builtin .append, args := #[ox, oy], argTypes := #[t, t'] }) (hdst : o.dst = d)
    (hd : ∀ x, d = some x → x < nt) (ht : C.kd t = some (.slc e)) (ht' : C.kd t' = some (.int k)) (he : C.ty e = some ei) (vx : VR μ w (.rs b 0 len r.m ei.sz) (a.eval ox)) (hr : h.get b = some r) (hty : r.ty = e)
    (htip : len * ei.sz = r.m) (vy : a.eval oy = .int k (n : Int)) (hsz : 0 < ei.sz) (hby : 0 < ei.by') (hlim : (len + n) * ei.by' ≤ 140737488355328)
    (h1 : ∀ j, j < n * ei.sz → oneA h (rep ei n j)) (N : Act → World → Prop)
    (hN : ∀ μ' env' h' a' w', SimA nt μ' env' h' a' w' → Step μ w μ' w' → TL C.P nt ks K env' h' → N a' w')
    (rest : TL C.P nt ks K (putE d true (.rs b 0 (len + n) (r.m + n * ei.sz) ei.sz) env) (h.upd b ⟨e, r.m + n * ei.sz, appC r.cells r.m (rep ei n) (n * ei.sz)⟩)) : o.wp P' a w N (fun _ _ _ => False) := by
  subst hPC
  have hns : (Builtin.zeroCells ei.zv.cells n).size = n * ei.sz := by rw [size_zeroCells, (C.ok e ei he).2.2]
  have hnv := zeroV_ok (μ := μ) (w := w) (n := n) he
  generalize hnewd : Builtin.zeroCells ei.zv.cells n = new at hns hnv
  obtain ⟨_, _, _, hK⟩ := kd_ok ht
  obtain ⟨_, _, _, hK'⟩ := kd_ok ht'
  have vy' : Value.int k (n : Int) = a.eval oy := vy.symm
  obtain ⟨j, hj, hjs, hjb, hjz⟩ := C.info he
  have hz := (C.ok e ei he).2.2
  have hone : ∀ v ∈ new.toList, v.oneCell' = true := by
    intro v hv
    obtain ⟨q, hq, rfl⟩ := List.getElem_of_mem hv
    simp only [Array.length_toList] at hq
    have := oneA_ok s.sim (hnv q (by omega)) (h1 q (by omega))
    simpa [Array.getD, hq] using this
  have hbl : len + n ≤ 140737488355328 := Nat.le_trans (Nat.le_mul_of_pos_right _ hby) hlim
  have hexec : ∀ r, (Builtin.append_ #[t, t'] o.type #[a.eval ox, a.eval oy]).run C.P w = r → (execOp a.eval o).run C.P w = r.andThen fun v w' => .ok (.value v) w' := by
    intro r hr
    simp [execOp, hop, resolve, invoke, builtin, hr]
  rcases s.sim.rs (by unfold refOK; rw [hr]) vx with ⟨r', ad, _, _, hm0, rfl, _, hvir, hno, hex⟩ | ⟨r', B, cs, cap, hr', _, hB, hL, hex, hcap, hlen, hh, hE, hmE, hcells⟩
  · -- no block yet
    by_cases hn0 : n = 0
    · subst hn0
      have hrun := run_app_noneZ (C := C) (w := w) (ty := o.type) (k := k) hK hK' hj hjz ad
      obtain ⟨s', st⟩ := s.sim.revir hr (r' := ⟨e, r.m + 0 * ei.sz, appC r.cells r.m (rep ei 0) (0 * ei.sz)⟩) hvir (by simp [hm0])
      rw [vy'] at hrun
      unfold Oper.wp
      rw [← hex] at hrun
      rw [hexec _ hrun]
      simp only [Result.andThen_ok, Oper.upon]
      rw [hdst]
      refine hN μ _ _ _ _ (env_put s st s' hd ?_) st rest
      rw [hex]
      exact ⟨vx.1, by simp, fun _ => ⟨by simp [hm0], rfl, ad, rfl⟩, fun B e => by rw [hno] at e; cases e⟩
    have hrun := run_app_newZ (C := C) (w := w) (ty := o.type) (k := k) (n := n) hK hK' hj hjz (by rw [hjs]; exact hz) (s := .slice ad 0 0) (ad := ad) (old := #[]) rfl (by cases ad <;> simp [Builtin.firstCells, loadCells, loadCellsFrom]) (by omega) (by omega) (by rw [hjb]; exact fit48 (Nat.le_add_left _ _) hlim)
      (by rw [hjb]; exact growslice_fits (by omega) hlim)
    rw [hnewd, vy'] at hrun
    simp only [Nat.zero_add] at hrun
    let gc := grownCap w n 0 e
    let out : Array Value := #[] ++ new ++ Builtin.zeroCells ei.zv.cells (gc - n)
    have hsz2 : out.size = gc * ei.sz := grown_size (by simp [hns]) hz
    have hge : n ≤ gc := grownCap_ge w n 0 e
    have hget : ∀ q, q < n * ei.sz → out[q]? = new[q]? := by
      intro q hq
      simp only [out, Array.empty_append]
      rw [Array.getElem?_append, if_pos (by omega)]
    have hLE : n * ei.sz ≤ gc * ei.sz := Nat.mul_le_mul_right _ hge
    have hpos : 0 < n * ei.sz := Nat.mul_pos (by omega) hsz
    obtain ⟨μ', s', st, hnx, hnv, hf⟩ := s.sim.turnv (w' := w.drew.alloc (.cells out e)) (r' := ⟨e, r.m + n * ei.sz, appC r.cells r.m (rep ei n) (n * ei.sz)⟩) (cs := out) hr hvir (by simp only; omega) rfl rfl rfl rfl (by rw [hsz2, hm0]; simpa using hLE)
      (fun q hq => by
        have hq' : q < n * ei.sz := by simp only at hq; omega
        rw [hget q hq']
        have hlt : q < new.size := by omega
        refine ⟨new[q], by simp [hlt], ?_⟩
        have := hnv q hq'
        simp only [appC, hm0]
        rw [if_neg (by omega), if_pos (by omega), Nat.sub_zero]
        simpa [Array.getD, hlt] using this)
    unfold Oper.wp
    rw [← hex] at hrun
    rw [hexec _ hrun]
    simp only [Result.andThen_ok, Oper.upon]
    rw [hdst]
    refine hN μ' _ _ _ _ (env_put s st s' hd ?_) st rest
    refine ⟨by rw [hnx]; exact vx.1, by simp, fun hh => (hnv hh).elim, fun B' e' => ?_⟩
    rw [hf] at e'
    injection e' with e'
    subst e'
    refine ⟨Nat.le_refl _, fun _ => ⟨gc, ?_, by simp [hsz2]⟩⟩
    simp only [Nat.zero_add]
    rfl
  rw [hr] at hr'
  injection hr' with hr'
  subst hr'
  rw [hty] at hh
  by_cases hroom : len + n ≤ cap
  · -- in place
    have hfit : len * j.size + new.size ≤ cs.size := by
      rw [hjs, hns, hE, ← hcap, Nat.zero_add, ← Nat.add_mul]
      exact Nat.mul_le_mul_right _ hroom
    have hrun := run_app_roomZ (C := C) (ty := o.type) (k := k) (n := n) hK hK' hj hjz (by rw [hjs]; exact hz) (sc := cap) hh (by rw [hnewd]; exact hone) hroom (by rw [hnewd]; exact hfit) (by omega) (by rw [hjb]; exact fit48 (Nat.le_add_left _ _) hlim)
    rw [hnewd, vy'] at hrun
    rw [hjs] at hrun hfit
    let cs' : Array Value := (cs.toList.take (len * ei.sz) ++ new.toList ++ cs.toList.drop (len * ei.sz + new.toList.length)).toArray
    have hget : ∀ q, cs'[q]? = if r.m ≤ q ∧ q < r.m + n * ei.sz then new[q - r.m]? else cs[q]? := by
      intro q
      have := seg_get cs.toList new.toList (len * ei.sz) q (by simpa using hfit)
      simpa [cs', hns, htip] using this
    have hsize : cs'.size = cs.size := by simp [cs']; omega
    have hLE : r.m + n * ei.sz ≤ B.E := by rw [← hE, ← htip, ← hns]; exact hfit
    obtain ⟨μ', s', st, hnx, hnv', hf⟩ := s.sim.turn (w' := w.setRow B.g cs') (r' := ⟨e, r.m + n * ei.sz, appC r.cells r.m (rep ei n) (n * ei.sz)⟩) (B' := ⟨B.g, r.m + n * ei.sz, B.E⟩) (cs := cs') hr hB (.inl rfl) (by simp; exact (s.sim.lt b B hB).2)
      (by rw [hL]; exact Nat.le_add_right _ _) (fun h => by cases B; simp only at h ⊢; rw [h]) rfl (setRow_heap w B.g cs cs' e (0, 0) hh) (by rw [hsize, hE]) hLE (fun q hq => by
        simp only [appC]
        rw [hget q]
        by_cases hq1 : q < r.m
        · rw [if_pos hq1, if_neg (by omega)]
          exact hcells q hq1
        · simp only at hq
          rw [if_neg hq1, if_pos (by omega), if_pos (by omega)]
          have hlt : q - r.m < new.size := by omega
          refine ⟨new[q - r.m], by simp [hlt], ?_⟩
          have := hnv (q - r.m) (by omega)
          simpa [Array.getD, hlt] using this) (fun k' _ hk' => setRow_other w B.g k' cs' hk') (by simp) rfl rfl rfl
    unfold Oper.wp
    rw [← hex] at hrun
    rw [hexec _ hrun]
    simp only [Result.andThen_ok, Oper.upon]
    rw [hdst]
    refine hN μ' _ _ _ _ (env_put s st s' hd ?_) st rest
    refine ⟨by rw [hnx]; exact vx.1, by rw [Nat.zero_add, Nat.add_mul, htip]; exact Nat.le_refl _, fun hh => (hnv' hh).elim, fun B' e' => ?_⟩
    rw [hf] at e'
    injection e' with e'
    subst e'
    exact ⟨Nat.le_refl _, fun _ => ⟨cap, rfl, hcap⟩⟩
  · -- a new block
    have hold : ∃ old : Array Value, (Builtin.firstCells j.size len (.slice (some ⟨B.g, 0, none⟩) len cap)).run C.P w.drew = .ok old w.drew ∧ old.size = r.m ∧ ∀ q, q < r.m → VR μ w (r.cells q) (old.getD q undef) := by
      have hexs : ∀ q, ∃ u, q < r.m → cs[q]? = some u ∧ VR μ w (r.cells q) u := by
        intro q
        by_cases hq : q < r.m
        · obtain ⟨u, hu⟩ := hcells q hq; exact ⟨u, fun _ => hu⟩
        · exact ⟨undef, fun hh => absurd hh hq⟩
      obtain ⟨f, hf⟩ := Classical.axiomOfChoice hexs
      refine ⟨((List.range r.m).map f).toArray, ?_, by simp, fun q hq => by simpa [hq] using (hf q hq).2⟩
      simp only [Builtin.firstCells]
      rw [hjs, htip]
      refine run_loadCells w.drew _ _ f (fun q hq => ?_)
      rw [cell_at]
      have hcs := (hf q hq).1
      rw [World.cell?_drew]
      simp [World.cell?, hh, hcs]
    obtain ⟨old, ho1, ho2, ho3⟩ := hold
    have hrun := run_app_newZ (C := C) (w := w) (ty := o.type) (k := k) (n := n) hK hK' hj hjz (by rw [hjs]; exact hz) (s := .slice (some ⟨B.g, 0, none⟩) len cap) rfl ho1 (by omega) (by omega) (by rw [hjb]; exact fit48 (Nat.le_add_left _ _) hlim) (by rw [hjb]; exact growslice_fits (by omega) hlim)
    rw [hnewd, vy'] at hrun
    let gc := grownCap w (len + n) cap e
    let out : Array Value := old ++ new ++ Builtin.zeroCells ei.zv.cells (gc - (len + n))
    have hsz2 : out.size = gc * ei.sz := grown_size (by rw [ho2, hns, ← htip, Nat.add_mul]) hz
    have hge : len + n ≤ gc := grownCap_ge w (len + n) cap e
    have hget : ∀ q, q < r.m + n * ei.sz → out[q]? = if q < r.m then old[q]? else new[q - r.m]? := by
      intro q hq
      simp only [out, Array.append_assoc]
      rw [Array.getElem?_append]
      by_cases h2 : q < r.m
      · rw [if_pos (by omega), if_pos h2]
      · rw [if_neg (by omega), if_neg h2, Array.getElem?_append, if_pos (by omega), ho2]
    have hnewb : (w.drew.alloc (.cells out e)).heap[w.heap.size]? = some (.cells out e (0, 0)) := heap_alloc_new w.drew _
    have hoth : ∀ k', k' < w.heap.size → (w.drew.alloc (.cells out e)).heap[k']? = w.heap[k']? := fun k' hk' => heap_alloc_old w.drew _ k' hk'
    have hLE : r.m + n * ei.sz ≤ gc * ei.sz := by
      rw [← htip, ← Nat.add_mul]
      exact Nat.mul_le_mul_right _ hge
    have hn0 : 0 < n * ei.sz := by
      rcases Nat.eq_zero_or_pos n with h0 | h0
      · exfalso
        subst h0
        have : len * ei.sz ≤ cap * ei.sz := by omega
        have := Nat.le_of_mul_le_mul_right this hsz
        omega
      · exact Nat.mul_pos h0 hsz
    obtain ⟨μ', s', st, hnx, hnv', hf⟩ := s.sim.turn (w' := w.drew.alloc (.cells out e)) (r' := ⟨e, r.m + n * ei.sz, appC r.cells r.m (rep ei n) (n * ei.sz)⟩) (B' := ⟨w.heap.size, r.m + n * ei.sz, gc * ei.sz⟩) (cs := out) hr hB (.inr (Nat.le_refl _)) (by simp)
      (by rw [hL]; exact Nat.le_add_right _ _) (fun h => by simp only at h; omega) rfl hnewb hsz2 hLE (fun q hq => by
        simp only at hq
        simp only [appC]
        rw [hget q hq]
        by_cases hq1 : q < r.m
        · rw [if_pos hq1, if_pos hq1]
          have hlt : q < old.size := by omega
          refine ⟨old[q], by simp [hlt], ?_⟩
          have := ho3 q hq1
          simpa [Array.getD, hlt] using this
        · rw [if_neg hq1, if_neg hq1, if_pos (by omega)]
          have hlt : q - r.m < new.size := by omega
          refine ⟨new[q - r.m], by simp [hlt], ?_⟩
          have := hnv (q - r.m) (by omega)
          simpa [Array.getD, hlt] using this) (fun k' hk' _ => hoth k' hk') (by simp) rfl rfl rfl
    unfold Oper.wp
    rw [← hex] at hrun
    rw [hexec _ hrun]
    simp only [Result.andThen_ok, Oper.upon]
    rw [hdst]
    refine hN μ' _ _ _ _ (env_put s st s' hd ?_) st rest
    refine ⟨by rw [hnx]; exact vx.1, by rw [Nat.zero_add, Nat.add_mul, htip]; exact Nat.le_refl _, fun hh => (hnv' hh).elim, fun B' e' => ?_⟩
    rw [hf] at e'
    injection e' with e'
    subst e'
    exact ⟨Nat.le_refl _, fun _ => ⟨gc, rfl, by simp⟩⟩
theorem rep_oneA {ei : TI} {n : Nat} {z : α} (hs : ei.sz = Enc.sz α) (hz : ∀ j, j < Enc.sz α → ei.z j = ec z j) : ∀ j, j < n * ei.sz → oneA h (rep ei n j) := by
  intro j hj
  have hp : 0 < ei.sz := by rw [hs]; exact Enc.pos
  have hm : j % ei.sz < Enc.sz α := by rw [← hs]; exact Nat.mod_lt _ hp
  rw [rep_at hj, hz _ hm]
  have : j % ei.sz < (Enc.cl z).length := by rw [Enc.len]; exact hm
  unfold ec ofL
  rw [List.getD_eq_getElem?_getD, List.getElem?_eq_getElem this]
  exact oneA_AV1 (Enc.cell _ _ (List.getElem_mem this))
theorem TL.appOZ {d b : Nat} {t' e : TypeId} {ei : TI} {k : IntKind} {xs : List α} {n : Int} {ks : List KO} (nd : Nd h) (z : α) (hk : C.kd t = some (.slc e)) (hk' : C.kd t' = some (.int k)) (he : C.ty e = some ei) (hs : ei.sz = Enc.sz α) (hz : ∀ j, j < Enc.sz α → ei.z j = ec z j)
    (hx : ev env x = (true, OL b xs)) {j : Nat} (hj : h[j]? = some (b, RL e xs)) (hy : ev env y = (true, .int k n)) (hn : 0 ≤ n) (hby : 0 < ei.by') (hlim : (xs.length + n.toNat) * ei.by' ≤ 140737488355328) (hd : Nat.ble (d + 1) nt = true)
    (rest : Nd (h.set j (b, RL e (xs ++ List.replicate n.toNat z))) → TL C.P nt ks K ((d, true, OL b (xs ++ List.replicate n.toNat z)) :: env) (h.set j (b, RL e (xs ++ List.replicate n.toNat z)))) : TL C.P nt (⟨some d, none, .bi .append [t, t'] [x, y]⟩ :: ks) K env h := by
  refine TL.cons (gc := true) rfl ?_ (fun e => by simp at e)
  intro o μ a w ho hdst s _ N hN
  obtain ⟨ox, oy, hop, hcx, hcy⟩ := two_ops ho
  have vx := ev_ok hcx s.env (by rw [hx])
  rw [hx] at vx
  have vy := ev_ok hcy s.env (by rw [hy])
  rw [hy] at vy
  have vy : a.eval oy = .int k (n.toNat : Int) := by rw [Int.toNat_of_nonneg hn]; exact vy
  refine app_wpZ (ei := ei) (b := b) (len := xs.length) (n := n.toNat) (r := RL e xs) rfl s hop hdst (dlt hd) hk hk' he (by rw [hs]; exact vx) (nd.get hj) rfl (by simp [RL, hs]) vy (by rw [hs]; exact Enc.pos) hby hlim (rep_oneA hs hz) N hN ?_
  have hrep : rep ei n.toNat = rowL (Enc.sz α) ec (List.replicate n.toNat z) := rep_rowL hs Enc.pos hz
  have hap := appC_rowL (sz := Enc.sz α) (enc := ec) (xs := xs) (ys := List.replicate n.toNat z) (m := xs.length * Enc.sz α) (k := n.toNat * Enc.sz α) (pc := rep ei n.toNat) Enc.pos rfl (by simp) (fun q _ => by rw [hrep])
  refine TL.setrow (q' := RL e (xs ++ List.replicate n.toNat z)) nd hj rfl (by simp [RL, hs, Nat.add_mul]) (fun i _ => ?_) fun nd' => ?_
  · simp only [RL]
    rw [hs, hap]
  · have := rest nd'
    simp only [putE]
    have e1 : (AV.rs b 0 (xs.length + n.toNat) ((RL e xs).m + n.toNat * ei.sz) ei.sz) = OL b (xs ++ List.replicate n.toNat z) := by
      simp [OL, RL, hs, Nat.add_mul]
    rw [e1]
    exact this
end
end Go.AX

namespace Go.AX
open Go.AM Go.RowKit
section
variable {P : Program} {nt : Nat} {env : Env} {h : Hp} {K : Env → Hp → Prop} {α : Type} [Enc α]
def FixR (h : Hp) (b : Nat) : List AV → List AV → Prop
  | [], [] => True
  | v :: r, v' :: r' => FixTo h b v v' ∧ FixR h b r r'
  | _, _ => False
theorem FixR.at {b : Nat} : ∀ {l l' : List AV}, FixR h b l l' → l'.length = l.length ∧ ∀ i : Nat, FixTo h b (ofL l i) (ofL l' i)
  | [], [], _ => ⟨rfl, fun i => fix_id _⟩
  | v :: r, v' :: r', hh => by
    obtain ⟨h1, h2⟩ := FixR.at hh.2
    refine ⟨by simp [h1], fun i => ?_⟩
    cases i with
    | zero => exact hh.1
    | succ i => exact h2 i
theorem Sim.layR {μ : Mu} {w : World} (s : Sim μ h w) (nd : Nd h) {j b : Nat} {r : Row} (hj : h[j]? = some (b, r)) {j2 b2 : Nat} {ty : TypeId} {l l' : List AV} (hj2 : h[j2]? = some (b2, RV ty l)) (hb : b2 ≠ b) (hf : FixR h b l l') :
    Sim (μ.less b) ((h.set j2 (b2, RV ty l')).eraseIdx j) w := by
  have S1 := Sim.layd s nd hj
  obtain ⟨hu, nd'⟩ := nd.upd (r' := RV ty l') hj2
  have hr := nd.get hj2
  have hlen := hf.at.1
  have hjne : j ≠ j2 := by rintro rfl; rw [hj] at hj2; injection hj2 with e; injection e with e1 _; exact hb e1.symm
  have hj' : (h.set j2 (b2, RV ty l'))[j]? = some (b, r) := by rw [List.getElem?_set_ne (fun e => hjne e.symm)]; exact hj
  refine ⟨fun x q e => ?_, S1.inj, S1.lt, S1.vlt, S1.noban, S1.banlt, fun k a e => ⟨?_, (s.hadr k a e).2⟩⟩
  rotate_right
  · cases hq : Hp.get ((h.set j2 (b2, RV ty l')).eraseIdx j) k with
    | none => rfl
    | some q =>
      obtain ⟨h1, h2⟩ := get_erase nd' hj' hq
      have h3 := (s.hadr k a e).1
      rw [← hu, Hp.get_upd] at h2
      by_cases hk : k = b2
      · subst hk; rw [hr] at h3; cases h3
      · rw [if_neg hk, h3] at h2; cases h2
  obtain ⟨h1, h2⟩ := get_erase nd' hj' e
  rw [← hu, Hp.get_upd] at h2
  by_cases hx : x = b2
  · subst hx
    rw [if_pos rfl, hr] at h2
    simp only [Option.map_some, Option.some.injEq] at h2
    subst h2
    rcases s.row x _ hr with ⟨hv, hn, h0⟩ | ⟨B, cs, hnv, q1, q2, q3, q4, q5, q6⟩
    · exact .inl ⟨by simpa [Mu.less, h1] using hv, by simpa [Mu.less, h1] using hn, by simp only [RV] at h0 ⊢; omega⟩
    · refine .inr ⟨B, cs, by simpa [Mu.less, h1] using hnv, by simpa [Mu.less, h1] using q1, by simp only [RV] at q2 ⊢; omega, q3, q4, by simp only [RV] at q5 ⊢; omega, fun i hi => ?_⟩
      obtain ⟨u, hu', hv⟩ := q6 i (by simp only [RV] at hi ⊢; omega)
      exact ⟨u, hu', hf.at.2 i μ w u s (s.vis (nd.get hj)) hv⟩
  · rw [if_neg hx] at h2
    exact (s.less (b := b) (s.vis (nd.get hj))).row x q (by rw [Hp.get_del, if_neg h1]; exact h2)
theorem TL.layR {ks : List KO} (l : List (Nat × AV)) (nd : Nd h) {j b : Nat} {r : Row} (hj : h[j]? = some (b, r)) (j2 : Nat) {b2 : Nat} {ty : TypeId} {l2 l2' : List AV} (hj2 : h[j2]? = some (b2, RV ty l2)) (hne : Nat.beq j j2 = false) (hf : FixR h b l2 l2') (hl : SealL env h b l)
    (k : Nd ((h.set j2 (b2, RV ty l2')).eraseIdx j) → TL P nt ks K (cvs l env) ((h.set j2 (b2, RV ty l2')).eraseIdx j)) : TL P nt ks K env h := by
  obtain ⟨_, nd'⟩ := nd.upd (r' := RV ty l2') hj2
  have hb : b2 ≠ b := by
    rintro rfl
    obtain rfl := nd.inj hj hj2
    simp at hne
  intro os ho hz μ a w s
  refine TL.cons.wpK_mono ?_ _ _ _ (k (nd'.erase j) os ho hz (μ.less b) a w ⟨Sim.layR s.sim nd hj hj2 hb hf, seal_env s.sim (s.sim.vis (nd.get hj)) s.env hl, s.size, s.defers⟩)
  rintro a' w' ⟨μ2, env2, h2, q, s2, st2⟩
  exact ⟨μ2, env2, h2, q, s2, (Step.less (s.sim.vis (nd.get hj))).trans st2⟩
theorem TK.layR {Q : Post} {c : KC} (l : List (Nat × AV)) (nd : Nd h) {j b : Nat} {r : Row} (hj : h[j]? = some (b, r)) (j2 : Nat) {b2 : Nat} {ty : TypeId} {l2 l2' : List AV} (hj2 : h[j2]? = some (b2, RV ty l2)) (hne : Nat.beq j j2 = false) (hf : FixR h b l2 l2') (hl : SealL env h b l)
    (k : Nd ((h.set j2 (b2, RV ty l2')).eraseIdx j) → TK P nt c Q (cvs l env) ((h.set j2 (b2, RV ty l2')).eraseIdx j)) : TK P nt c Q env h := by
  obtain ⟨_, nd'⟩ := nd.upd (r' := RV ty l2') hj2
  have hb : b2 ≠ b := by
    rintro rfl
    obtain rfl := nd.inj hj hj2
    simp at hne
  intro c' hc μ a w s
  refine wp_mono (k (nd'.erase j) c' hc (μ.less b) a w ⟨Sim.layR s.sim nd hj hj2 hb hf, seal_env s.sim (s.sim.vis (nd.get hj)) s.env hl, s.size, s.defers⟩) ?_
  rintro e a' w' ⟨μ2, env2, h2, q, s2, st2⟩
  exact ⟨μ2, env2, h2, q, s2, (Step.less (s.sim.vis (nd.get hj))).wtrans st2⟩
end
end Go.AX

namespace Go.AX
open Go.AM
set_option linter.unusedSectionVars false
def OQ {α : Type} [Enc α] (b : Nat) (pre xs : List α) : AV := .rs b (pre.length * Enc.sz α) xs.length ((pre ++ xs).length * Enc.sz α) (Enc.sz α)
section
variable {C : Cx} {P : Program} {nt : Nat} {env : Env} {h : Hp} {K : Env → Hp → Prop} {Q : Post} {gc gx gy : Bool} {t : TypeId} {x y : X} {u : AV} {α β : Type} [Enc α] [Enc β]
theorem TCX.wk {P : Program} {f : FuncId} {args args' : List AV} {F : Hp} {Q : AV → Hp → Prop} (hw : WkL args args') (hf : TCX P f args' F Q) [hnl : NoL args] : TCX P f args F Q := by
  obtain ⟨hf, _, hnh⟩ := hf
  refine ⟨?_, hnl, hnh⟩
  refine ⟨hf.enters, fun μ w cargs h00 s hsz hargs => ?_⟩
  have hl := hw.len
  refine hf.calls μ w cargs h00 s (by omega) fun i hi => ?_
  exact WkL.at hw i μ w _ (hargs i (by omega))
end
end Go.AX

namespace Go.AX
open Go.AM Go.RowKit
set_option linter.unusedSectionVars false
section
variable {P : Program} {nt : Nat} {env : Env} {h : Hp} {Q : Post} {b : KC}
def unr (P : Program) (nt : Nat) (b : KC) (Q : Post) : Nat → Env → Hp → Prop
  | 0, _, _ => False
  | n + 1, env, h => TK P nt b (thenQ (unr P nt b Q n) Q) env h
theorem TK.unroll (n : Nat) (h0 : unr P nt b Q n env h) : TK P nt (.loop b) Q env h := by
  refine TK.loop (fun (s : Nat) env h => unr P nt b Q s env h) id n h0 ?_
  intro s env h hI
  cases s with
  | zero => exact hI.elim
  | succ s =>
    refine TK.mono hI ?_
    intro e env' h' hq
    cases e <;> first | exact ⟨s, hq, Nat.lt_succ_self _⟩ | exact hq
theorem unr_s {n : Nat} (k : TK P nt b (thenQ (unr P nt b Q n) Q) env h) : unr P nt b Q (n + 1) env h := k
end
section
variable {C : Cx} {nt : Nat} {env : Env} {h : Hp} {K : Env → Hp → Prop} {gc gx gy : Bool} {t : TypeId} {x y : X}
def LitR (env : Env) (h : Hp) : Nat → List (Nat × X) → List AV → Prop
  | _, [], [] => True
  | i, (k, x) :: r, .ref b o st :: az => (k = i ∧ ev env x = (true, .ref b o st) ∧ refOK h b st) ∧ LitR env h (i + 1) r az
  | _, _, _ => False
theorem litR_of : ∀ {ps : List (Nat × X)} {az : List AV} {i : Nat}, LitR env h i ps az → ∃ l S, litA h env 1 i ps = some (l, S) ∧ S ∧ l = az.map fun a (_ : Nat) => a
  | [], [], _, _ => ⟨[], True, rfl, trivial, rfl⟩
  | (k, x) :: r, .ref b o st :: az, i, ⟨⟨hk, hx, hr⟩, hl⟩ => by
    obtain ⟨l, S, h1, h2, h3⟩ := litR_of hl
    refine ⟨(fun _ => .ref b o st) :: l, (k = i ∧ (ev env x).1 = true ∧ refOK h b st ∧ 1 = 1) ∧ S, ?_, ⟨⟨hk, by rw [hx], hr, rfl⟩, h2⟩, by rw [h3]; rfl⟩
    simp only [litA, hx, cellsA, h1]
theorem TL.litR {d n : Nat} {ps : List (Nat × X)} {e : TypeId} {ei : TI} {ks : List KO} (az : List AV) (hk : C.kd t = some (.slc e)) (he : C.ty e = some ei) (hs : ei.sz = 1) (hl : LitR env h 0 ps az) (hn : az.length = n)
    (hlim : Nat.ble n 16777216 = true) (hd : Nat.ble (d + 1) nt = true) (rest : TL C.P nt ks K ((d, true, .sl (ofL az) n n) :: env) h) : TL C.P nt (⟨some d, none, .bsl t n ps⟩ :: ks) K env h := by
  obtain ⟨l, S, h1, h2, h3⟩ := litR_of hl
  refine TL.bslv (l := l) (S := S) (gc := true) rfl rfl (dlt hd) hk he (by rw [hs, Nat.mul_one]; exact Nat.le_of_ble_eq_true hlim) (by rw [hs]; exact h1) (fun _ => h2) (by rw [h3, List.length_map, hn]) ?_
  have e1 : catC ei.sz l = ofL az := by
    funext j
    rw [hs, h3]
    simp only [catC, ofL, List.getD_eq_getElem?_getD, Nat.div_one, List.getElem?_map]
    cases az[j]? <;> rfl
  rw [e1, hs, Nat.mul_one]
  exact rest
theorem p_lenR' {e n m : Nat} {c : Nat → AV} (hk : C.kd t = some (.slc e)) (hx : ev env x = (gx, .sl c m n)) (hg : gc = true → gx = true := by first | exact fun _ => rfl | simp_all) :
    PVok C h env (.bi .len [t] [x]) gc (.int .i64 n) := by
  refine pvE (S := (gx = true ∧ lenT C t (.sl c m n)) ∧ True) ?_ fun e => ⟨⟨hg e, by unfold lenT; rw [hk]; trivial⟩, trivial⟩
  simp only [pv, hx]; rfl
theorem p_iaR {e : TypeId} {ei : TI} {n m : Nat} {c : Nat → AV} {k : IntKind} {i : Int} (hk : C.kd t = some (.slc e)) (he : C.ty e = some ei) (hs : ei.sz = 1) (hx : ev env x = (gx, .sl c m n)) (hy : ev env y = (gy, .int k i))
    (hi : 0 ≤ i ∧ i < n) (hm : 0 < m) (hg : gc = true → gx = true ∧ gy = true := by first | exact fun _ => ⟨rfl, rfl⟩ | simp_all) : PVok C h env (.ia t x y) gc (.vref c m i.toNat) := by
  refine pvE (S := (gx = true ∧ gy = true) ∧ (0 ≤ i ∧ i < n) ∧ 0 < m) ?_ fun e => ⟨hg e, hi, hm⟩
  simp only [pv, hx, hy, iaA, hk, he, iaB, hs, Nat.mul_one]
theorem TL.eqNilO {α : Type} [Enc α] {d b : Nat} {e : TypeId} {xs : List α} {ks : List KO} (nd : Nd h) (hk : C.kd t = some (.slc e)) (hx : ev env x = (true, OL b xs)) (hy : ev env y = (true, .nils)) {j : Nat} {ty : TypeId} (hj : h[j]? = some (b, RL ty xs)) (hd : Nat.ble (d + 1) nt = true)
    (rest : ∀ b : Bool, (b = true → xs = []) → TL C.P nt ks K ((d, true, .bool b) :: env) h) : TL C.P nt (⟨some d, none, .bin .eql t x y⟩ :: ks) K env h := by
  refine TL.cons (gc := true) rfl ?_ (fun e => by simp at e)
  intro o μ a w ho hdst s _ N hN
  obtain ⟨ox, oy, ty', hop, hcx, hcy⟩ := bin_op ho
  have vx := ev_ok hcx s.env (by rw [hx])
  rw [hx] at vx
  have vy := ev_ok hcy s.env (by rw [hy])
  rw [hy] at vy
  have vy : a.eval oy = .slice none 0 0 := vy
  have hb0 : Below w.heap.size w w := Below.refl _ _
  have key : ∀ b : Bool, (b = true → xs = []) → (Sem.run C.P (do eqGuard .eql t ox oy (a.eval ox) (a.eval oy); binOp .eql t (a.eval ox) (a.eval oy)) w = .ok (.bool b) w) → o.wp C.P a w N (fun _ _ _ => False) := by
    intro b hb hrun
    unfold Oper.wp
    have : (execOp a.eval o).run C.P w = .ok (.value (.bool b)) w := by
      simp only [execOp, hop]
      rw [Sem.run_bind, hrun]
      rfl
    rw [this]
    simp only [Oper.upon]
    rw [hdst]
    exact hN μ _ _ _ _ (env_put (v := .bool b) s (Step.refl μ w) s.sim (dlt hd) rfl) (Step.refl μ w) (rest b hb)
  obtain ⟨i, hi, hkk, hK⟩ := kd_ok hk
  have vx : VR μ w (OL b xs) (a.eval ox) := vx
  generalize hcx' : a.eval ox = cx at key vx
  rw [vy] at key
  obtain ⟨_, _, hvir, hB⟩ := vx
  rcases s.sim.row b _ (nd.get hj) with ⟨hv, hf, hm⟩ | ⟨B, cs, hnv, hf, hL, _⟩
  · obtain ⟨_, h2, x0, rfl⟩ := hvir hv
    cases x0 with
    | none => exact key true (fun _ => List.length_eq_zero_iff.1 h2) (run_eql (by simp) (by simp) (by unfold eqGuard; simp) (equal_of fun d => by simp [Op.equalIn, run_und hK]) (.inl rfl))
    | some q => exact key false (fun e => by cases e) (run_eql (by simp) (by simp) (by unfold eqGuard; simp) (equal_of fun d => by simp [Op.equalIn, run_und hK]) (.inl rfl))
  · obtain ⟨_, h5⟩ := hB B hf
    obtain ⟨cap, rfl, _⟩ := h5 hL.symm
    exact key false (fun e => by cases e) (run_eql (by simp) (by simp) (by unfold eqGuard; simp) (equal_of fun d => by simp [Op.equalIn, run_und hK]) (.inl rfl))
end
end Go.AX

namespace Go.AX
open Go.AM Go.RowKit Go.ChangeShapes
def OpX (P : Program) (t : TypeId) (α : Type) [Enc α] (ok : α → Prop) : Prop := Opens P t (Enc.sz α) (fun (x : α) => ec x) ok
section
variable {P : Program} {t e : TypeId} {α : Type} [Enc α]
theorem wf_i64 {n : Int} (h : (Lit.int .i64 n).wf = true) : -9223372036854775808 ≤ n ∧ n ≤ 9223372036854775807 := by
  simp [Lit.wf, IntKind.min, IntKind.max, IntKind.bits, IntKind.signed] at h; omega
theorem OpX.int (ht : P.underlying t = some (.int .i64)) : OpX P t Int (fun n => -9223372036854775808 ≤ n ∧ n ≤ 9223372036854775807) := by
  intro H en w base held fuel cs x h hw
  obtain ⟨v, h1, h2, h3⟩ := Opens.int ht en w base held fuel cs x h hw
  exact ⟨v, h1, wf_i64 h2, fun d hd => by obtain rfl : d = 0 := by simpa [Enc.sz] using hd
                                          exact h3 0 (by omega)⟩
theorem OpX.u8 (ht : P.underlying t = some (.int .u8)) : OpX P t UInt8 (fun _ => True) := by
  intro H en w base held fuel cs x h hw
  obtain ⟨v, h1, h2, h3⟩ := Opens.int ht en w base held fuel cs x h hw
  refine ⟨UInt8.ofNat v.toNat, h1, trivial, fun d hd => ?_⟩
  obtain rfl : d = 0 := by simpa [Enc.sz] using hd
  have := h3 0 (by omega)
  have hv : ((UInt8.ofNat v.toNat).toNat : Int) = v := by
    simp [Lit.wf, IntKind.min, IntKind.max, IntKind.bits, IntKind.signed] at h2
    simp only [UInt8.toNat_ofNat']
    omega
  show VR flat0 w (.int .u8 ((UInt8.ofNat v.toNat).toNat : Int)) _
  rw [hv]; exact this
theorem OpX.u32 (ht : P.underlying t = some (.int .u32)) : OpX P t UInt32 (fun _ => True) := by
  intro H en w base held fuel cs x h hw
  obtain ⟨v, h1, h2, h3⟩ := Opens.int ht en w base held fuel cs x h hw
  refine ⟨UInt32.ofNat v.toNat, h1, trivial, fun d hd => ?_⟩
  obtain rfl : d = 0 := by simpa [Enc.sz] using hd
  have := h3 0 (by omega)
  have hv : ((UInt32.ofNat v.toNat).toNat : Int) = v := by
    simp [Lit.wf, IntKind.min, IntKind.max, IntKind.bits, IntKind.signed] at h2
    simp only [UInt32.toNat_ofNat']
    omega
  show VR flat0 w (.int .u32 ((UInt32.ofNat v.toNat).toNat : Int)) _
  rw [hv]; exact this
theorem OpX.u64 (ht : P.underlying t = some (.int .u64)) : OpX P t UInt64 (fun _ => True) := by
  intro H en w base held fuel cs x h hw
  obtain ⟨v, h1, h2, h3⟩ := Opens.int ht en w base held fuel cs x h hw
  refine ⟨UInt64.ofNat v.toNat, h1, trivial, fun d hd => ?_⟩
  obtain rfl : d = 0 := by simpa [Enc.sz] using hd
  have := h3 0 (by omega)
  have hv : ((UInt64.ofNat v.toNat).toNat : Int) = v := by
    simp [Lit.wf, IntKind.min, IntKind.max, IntKind.bits, IntKind.signed] at h2
    simp only [UInt64.toNat_ofNat']
    omega
  show VR flat0 w (.int .u64 ((UInt64.ofNat v.toNat).toNat : Int)) _
  rw [hv]; exact this
theorem OpX.bool (ht : P.underlying t = some .bool) : OpX P t Bool (fun _ => True) := by
  intro H en w base held fuel cs x h hw
  obtain ⟨v, h1, h2, h3⟩ := Opens.bool ht en w base held fuel cs x h hw
  exact ⟨v, h1, h2, fun d hd => by obtain rfl : d = 0 := by simpa [Enc.sz] using hd
                                   exact h3 0 (by omega)⟩
theorem OpX.str (ht : P.underlying t = some .string) : OpX P t Str (fun s => s.l.length ≤ maxLen ∧ s.l.length ≤ reachBytes) := by
  intro H en w base held fuel cs x h hw
  obtain ⟨v, h1, h2, h3⟩ := Opens.str ht en w base held fuel cs x h hw
  have hv : (Str.mk v.data.toList).ba = v := by unfold Str.ba; simp
  refine ⟨⟨v.data.toList⟩, h1, ?_, fun d hd => ?_⟩
  · exact ⟨by simpa using h2.1, by simpa using h2.2⟩
  · obtain rfl : d = 0 := by simpa [Enc.sz] using hd
    show VR flat0 w (.str (Str.mk v.data.toList).ba) _
    rw [hv]
    exact h3 0 (by omega)
theorem OpX.slice {ok : α → Prop} (ht : P.underlying t = some (.slice e)) (hc : P.cellsOf e = Enc.sz α) (hby : 1 ≤ P.bytesOf e) (ho : OpX P e α ok) : OpX P t (List α) (fun xs => xs.length ≤ reachBytes ∧ ∀ y ∈ xs, ok y) := by
  intro H en w base held fuel cs x h hw
  obtain ⟨v, h1, h2, h3⟩ := Opens.slice ht hc Enc.pos hby ho en w base held fuel cs x h hw
  exact ⟨v, h1, h2, fun d hd => by obtain rfl : d = 0 := by simpa [Enc.sz] using hd
                                   exact h3 0 (by omega)⟩
theorem OpX.one {ok : α → Prop} (ho : OpX P t α ok) (hs : Enc.agg α = false) {H : Type} {en : TypeId × Value → H} {w : World} {base : Nat} {held : Bool} {v : Value} {d : DataW H} {ps : List MemPlace}
    (hv : v.cells = #[v]) (h : DataW.Trod en P w base (fun _ => true) held t v d ps) (hw : ∀ n ∈ d.weights P t, n ≤ reachBytes) : ∃ a : α, ok a ∧ VR flat0 w (Enc.v a) v := by
  have h1 := Enc.one hs
  unfold OpX at ho
  rw [h1] at ho
  obtain ⟨a, h2, h3⟩ := Opens.one ho hv h hw
  refine ⟨a, h2, ?_⟩
  rw [Enc.veq, hs]
  exact h3
end
end Go.AX

namespace Go.AM
open Go.RowKit Go.ChangeShapes
section
variable {P : Program} {t e : TypeId} {k : IntKind}
end
end Go.AM
namespace Go.AX
open Go.AM Go.RowKit Go.ChangeShapes
section
variable {P : Program} {t e : TypeId} {α : Type} [Enc α]
theorem OpX.oneA {ok : α → Prop} (ho : OpX P t α ok) (hs : Enc.agg α = true) {H : Type} {en : TypeId × Value → H} {w : World} {base : Nat} {held : Bool} {v : Value} {d : DataW H} {ps : List MemPlace} {vs : Array Value}
    (hv : v = .agg vs) (h : DataW.Trod en P w base (fun _ => true) held t v d ps) (hw : ∀ n ∈ d.weights P t, n ≤ reachBytes) : ∃ a : α, ok a ∧ VR flat0 w (Enc.v a) v := by
  subst hv
  obtain ⟨fuel, hf⟩ := h
  obtain ⟨a, h1, h2, h3⟩ := ho en w base held fuel _ _ hf hw
  refine ⟨a, h2, ?_⟩
  rw [Enc.veq, if_pos hs]
  have hc : (Value.agg vs).cells = vs := rfl
  rw [hc] at h1 h3
  have h1 : vs.size = Enc.sz α := by simpa using h1
  refine ⟨vs, rfl, h1, fun i hi => ?_⟩
  have := h3 i hi
  rw [List.getD_eq_getElem?_getD, Array.getElem?_toList] at this
  rw [Array.getD_eq_getD_getElem?]
  exact this
end
end Go.AX

namespace Go.AX
open Go.AM Go.RowKit
section
variable {C : Cx} {nt : Nat} {env : Env} {h : Hp} {gc gx gy : Bool} {t : TypeId} {x y : X}
def eqLf (C : Cx) (m m' : Nat) (xs ys : Nat → AV) (t : TypeId) (o : Nat) : Bool × Prop := ((eqS C t (xs o) (ys o)).1, o < m ∧ o < m' ∧ (eqS C t (xs o) (ys o)).2)
def eqF1 (C : Cx) (m m' : Nat) (xs ys : Nat → AV) (t : TypeId) (o : Nat) : Bool × Prop :=
  match C.ty t with
  | some i => match i.kd with
    | .struct fs => ((eqFs C i.sz i.sz (cutM xs o i.sz) (cutM ys o i.sz) fs).1, o + i.sz ≤ m ∧ o + i.sz ≤ m' ∧ (eqFs C i.sz i.sz (cutM xs o i.sz) (cutM ys o i.sz) fs).2)
    | _ => eqLf C m m' xs ys t o
  | none => eqLf C m m' xs ys t o
def eqGs (C : Cx) (m m' : Nat) (xs ys : Nat → AV) : List (TypeId × Nat) → Bool × Prop
  | [] => (true, True)
  | (t, o) :: r => ((eqF1 C m m' xs ys t o).1 && (eqGs C m m' xs ys r).1, (eqF1 C m m' xs ys t o).2 ∧ (eqGs C m m' xs ys r).2)
theorem cut_vr {μ : Mu} {w : World} {m o n : Nat} {xs : Nat → AV} {az : Array Value} (ha : az.size = m ∧ ∀ i, i < m → VR μ w (xs i) (az.getD i undef)) (h : o + n ≤ m) :
    (az.extract o (o + n)).size = n ∧ ∀ i, i < n → VR μ w (cutM xs o n i) ((az.extract o (o + n)).getD i undef) := by
  have hs : (az.extract o (o + n)).size = n := by simp [ha.1]; omega
  refine ⟨hs, fun i hi => ?_⟩
  rw [cutM_at hi]
  have e : (az.extract o (o + n)).getD i undef = az.getD (o + i) undef := by
    simp only [Array.getD_eq_getD_getElem?, Array.getElem?_extract]
    rw [if_pos (by omega)]
  rw [e]
  exact ha.2 _ (by omega)
theorem eqF1_ok {μ : Mu} {w : World} {m m' : Nat} {xs ys : Nat → AV} {az bs : Array Value} (ha : az.size = m ∧ ∀ i, i < m → VR μ w (xs i) (az.getD i undef)) (hb : bs.size = m' ∧ ∀ i, i < m' → VR μ w (ys i) (bs.getD i undef)) (d : Nat) {t : TypeId} {o : Nat}
    (hs : (eqF1 C m m' xs ys t o).2) : ∃ a b, (part t az o).run C.P w = .ok a w ∧ (part t bs o).run C.P w = .ok b w ∧ (Op.equalIn (d + 2) t a b).run C.P w = .ok (eqF1 C m m' xs ys t o).1 w := by
  have leaf : (eqLf C m m' xs ys t o).2 → ∃ a b, (part t az o).run C.P w = .ok a w ∧ (part t bs o).run C.P w = .ok b w ∧ (Op.equalIn (d + 2) t a b).run C.P w = .ok (eqLf C m m' xs ys t o).1 w := by
    rintro ⟨h1, h2, h3⟩
    obtain ⟨e1, e2⟩ := eqS_ok (ha.2 _ h1) (hb.2 _ h2) h3 (d + 1)
    refine ⟨az.getD o undef, bs.getD o undef, ?_, ?_, e1⟩
    · have : o < az.size := by omega
      simp [part, e2, Array.getD, this]
    · have : o < bs.size := by omega
      simp [part, e2, Array.getD, this]
  unfold eqF1 at hs ⊢
  cases hi : C.ty t with
  | none => rw [hi] at hs; exact leaf hs
  | some i =>
    rw [hi] at hs
    simp only at hs ⊢
    cases hk : i.kd with
    | struct fs =>
      rw [hk] at hs
      simp only at hs ⊢
      obtain ⟨h1, h2, h3⟩ := hs
      have hK := (C.ok t i hi).1
      rw [hk] at hK
      obtain ⟨fields, hU, rfl, h5, h6, h7⟩ := hK
      have hfo : C.P.fieldsOf t = fields := by simp [Program.fieldsOf, hU]
      have hag : (isAgg t).run C.P w = .ok true w := by simp [isAgg, run_und hU]
      have ca := cut_vr (o := o) (n := i.sz) ha h1
      have cb := cut_vr (o := o) (n := i.sz) hb h2
      refine ⟨.agg (az.extract o (o + i.sz)), .agg (bs.extract o (o + i.sz)), ?_, ?_, ?_⟩
      · simp [part, hag, Cx.size hi]
      · simp [part, hag, Cx.size hi]
      · rw [run_equalIn_struct (P := C.P) w (d + 1) t _ _ (by rw [hfo]; exact hU) h5, hfo]
        exact eqFs_ok ca cb d fields.toList h7 h3
    | _ => rw [hk] at hs; exact leaf hs
theorem eqGs_ok {μ : Mu} {w : World} {m m' : Nat} {xs ys : Nat → AV} {az bs : Array Value} (ha : az.size = m ∧ ∀ i, i < m → VR μ w (xs i) (az.getD i undef)) (hb : bs.size = m' ∧ ∀ i, i < m' → VR μ w (ys i) (bs.getD i undef)) (d : Nat) :
    ∀ (l : List Field), l.all (fun f => f.name != "_") = true → (eqGs C m m' xs ys (l.map fun f => (f.type, f.offset))).2 →
      (Op.eqFields (d + 2) az bs l).run C.P w = .ok (eqGs C m m' xs ys (l.map fun f => (f.type, f.offset))).1 w
  | [], _, _ => by simp [Op.eqFields, eqGs]
  | f :: l, hn, hs => by
    simp only [List.all_cons, Bool.and_eq_true] at hn
    simp only [List.map_cons, eqGs] at hs ⊢
    obtain ⟨a, b, p1, p2, e1⟩ := eqF1_ok ha hb d hs.1
    have ih := eqGs_ok ha hb d l hn.2 hs.2
    have hne : f.name ≠ "_" := by simpa using hn.1
    simp only [Op.eqFields, hne, ne_eq, not_false_iff, if_true, Sem.run_bind, p1, p2, e1, Result.andThen_ok]
    cases hq : (eqF1 C m m' xs ys f.type f.offset).1 <;> simp [ih]
theorem vok_eqG {op : BinOp} (hop : op = .eql ∨ op = .neq) {fs : List (TypeId × Nat)} {m m' : Nat} {c d : Nat → AV} {q : Bool} (hk : C.kd t = some (.struct fs)) (hx : ev env x = (gx, .agg m c)) (hy : ev env y = (gy, .agg m' d)) (hq : (eqGs C m m' c d fs).1 = q ∧ (eqGs C m m' c d fs).2)
    (hg : gc = true → gx = true ∧ gy = true := by first | exact fun _ => ⟨rfl, rfl⟩ | simp_all) : gc = true → VOK C.P nt h env (.bin op t x y) (.bool (ng (decide (op = .neq)) q)) := fun hgc => by
  intro o μ a w ho sa N hN
  obtain ⟨ox, oy, ty, hopr, hcx, hcy⟩ := bin_op ho
  have vx := ev_ok hcx sa.env (by rw [hx]; exact (hg hgc).1)
  rw [hx] at vx
  have vy := ev_ok hcy sa.env (by rw [hy]; exact (hg hgc).2)
  rw [hy] at vy
  obtain ⟨az, e1, ha⟩ := vx
  obtain ⟨bs, e2, hb⟩ := vy
  obtain ⟨i, hi, hkk, ⟨fields, hK, rfl, h3, h4, h5⟩⟩ := kd_ok hk
  have hfo : C.P.fieldsOf t = fields := by simp [Program.fieldsOf, hK]
  have he : (Op.equal t (.agg az) (.agg bs)).run C.P w = .ok q w := by
    have := run_equalIn_struct (P := C.P) w 9999 t az bs (by rw [hfo]; exact hK) h3
    simp only [Op.equal, Op.maxDepth]
    rw [this, hfo, ← hq.1]
    exact eqGs_ok ha hb 9997 fields.toList h5 hq.2
  have hg : Sem.run C.P (eqGuard op t ox oy (.agg az) (.agg bs)) w = .ok () w := by
    unfold eqGuard; rcases hop with rfl | rfl <;> simp [h4]
  have hrun := run_eql (P := C.P) (op := op) (t := t) (x := ox) (y := oy) (a := .agg az) (b := .agg bs) (w := w) (e := q) (by simp) (by simp) hg he hop
  unfold Oper.wp
  have : (execOp a.eval o).run C.P w = .ok (.value (.bool (ng (decide (op = .neq)) q))) w := by
    simp only [execOp, hopr]
    rw [Sem.run_bind, e1, e2, hrun]
    rfl
  rw [this]
  exact hN _ w rfl (Below.refl _ _)
end
end Go.AX

namespace Go.AX
open Go.AM Go.RowKit
section
variable {C : Cx} {nt : Nat} {env : Env} {h : Hp} {K : Env → Hp → Prop} {x y : X} {t : TypeId} {u : AV} {α : Type} [Enc α]
theorem src_okN {P : Program} {μ : Mu} {w : World} (s : Sim μ h w) {sz n : Nat} {u : AV} {x : Value} {pc : Nat → AV} {S : Prop} (hu : VR μ w u x) (hs : srcA h sz u = some (n, pc, S)) (hS : S) :
    (∀ w1 : World, (Builtin.lenOf x).run P w1 = .ok n w1) ∧ ∀ m, m ≤ n → ∃ new : Array Value, new.size = m * sz ∧ (∀ w1 : World, w1.heap = w.heap → (Builtin.firstCells sz m x).run P w1 = .ok new w1) ∧
      ∀ j, j < m * sz → VR μ w (pc j) (new.getD j undef) := by
  refine ⟨(src_ok (P := P) s hu hs hS).1, fun m hmn => ?_⟩
  have hms : m * sz ≤ n * sz := Nat.mul_le_mul_right _ hmn
  have rows : ∀ (g o : Nat) (cs : Nat → AV), (∀ j, j < m * sz → ∃ u, w.cell? ⟨g, o + j, none⟩ = some u ∧ VR μ w (cs j) u) →
      ∃ new : Array Value, new.size = m * sz ∧ (∀ w1 : World, w1.heap = w.heap → (loadCells ⟨g, o, none⟩ (m * sz)).run P w1 = .ok new w1) ∧ ∀ j, j < m * sz → VR μ w (cs j) (new.getD j undef) := by
    intro g o cs hc
    have hex : ∀ j, ∃ u, j < m * sz → w.cell? ⟨g, o + j, none⟩ = some u ∧ VR μ w (cs j) u := by
      intro j
      by_cases hj : j < m * sz
      · obtain ⟨u, hu⟩ := hc j hj; exact ⟨u, fun _ => hu⟩
      · exact ⟨undef, fun hh => absurd hh hj⟩
    obtain ⟨f, hf⟩ := Classical.axiomOfChoice hex
    refine ⟨((List.range (m * sz)).map f).toArray, by simp, fun w1 h1 => run_loadCells w1 _ _ f (fun j hj => ?_), fun j hj => by simpa [hj] using (hf j hj).2⟩
    rw [cell_at]
    have := (hf j hj).1
    simpa only [World.cell?, h1] using this
  have zero : n = 0 → (∃ ad sc, x = .slice ad 0 sc) → ∃ new : Array Value, new.size = m * sz ∧ (∀ w1 : World, w1.heap = w.heap → (Builtin.firstCells sz m x).run P w1 = .ok new w1) ∧
      ∀ j, j < m * sz → VR μ w (pc j) (new.getD j undef) := by
    rintro h0 ⟨ad, sc, rfl⟩
    have hm0 : m = 0 := by omega
    subst hm0
    exact ⟨#[], by simp, fun w1 _ => by cases ad <;> simp [Builtin.firstCells, loadCells, loadCellsFrom], fun j hj => absurd hj (by omega)⟩
  unfold srcA at hs
  split at hs
  case h_1 cells m' n' =>
    simp only [Option.some.injEq, Prod.mk.injEq] at hs
    obtain ⟨rfl, rfl, rfl⟩ := hs
    rcases hu with ⟨rfl, rfl, rfl⟩ | ⟨ad, cap, rfl, hn, hse, hc⟩
    · exact zero rfl ⟨_, _, rfl⟩
    by_cases h0 : m * sz = 0
    · exact ⟨#[], by simp [h0], fun w1 _ => by simp [Builtin.firstCells, h0, loadCells, loadCellsFrom], fun j hj => absurd hj (by omega)⟩
    · have hm : 0 < m' := by omega
      obtain ⟨hsp, _⟩ := hse hm
      obtain ⟨ab, ao, asp⟩ := ad
      simp only at hsp
      subst hsp
      obtain ⟨new, h1, h2, h3⟩ := rows ab ao cells (fun j hj => hc j (by omega))
      exact ⟨new, h1, fun w1 hw => by simpa [Builtin.firstCells] using h2 w1 hw, h3⟩
  case h_2 =>
    simp only [Option.some.injEq, Prod.mk.injEq] at hs
    obtain ⟨rfl, rfl, rfl⟩ := hs
    obtain rfl : x = .slice none 0 0 := hu
    exact zero rfl ⟨_, _, rfl⟩
  case h_3 b off len st sz' =>
    cases hg : h.get b with
    | none => rw [hg] at hs; simp at hs
    | some r =>
      rw [hg] at hs
      simp only [Option.some.injEq, Prod.mk.injEq] at hs
      obtain ⟨rfl, rfl, rfl⟩ := hs
      obtain ⟨hst, rfl⟩ := hS
      rcases s.rs (by unfold refOK; rw [hg]; exact hst) hu with ⟨_, x', _, _, _, rfl, _, _, _, rfl⟩ | ⟨r', B, cs, cap, hg', _, hB, hL, rfl, hcap, hlen, hh, hE, hmE, hcells⟩
      · exact zero rfl ⟨_, _, rfl⟩
      rw [hg] at hg'
      injection hg' with hg'
      subst hg'
      obtain ⟨new, h1, h2, h3⟩ := rows B.g off (cutM r.cells off (len * sz')) (fun j hj => by
        obtain ⟨u, hu, hv⟩ := hcells (off + j) (by omega)
        exact ⟨u, by simp [World.cell?, hh, hu], by rw [cutM_at (by omega)]; exact hv⟩)
      exact ⟨new, h1, fun w1 hw => by simpa [Builtin.firstCells] using h2 w1 hw, h3⟩
  case h_4 s' =>
    simp only [Option.some.injEq, Prod.mk.injEq] at hs
    obtain ⟨rfl, rfl, rfl⟩ := hs
    obtain rfl : x = .string s' := hu
    subst hS
    refine ⟨(s'.extract 0 m).data.map fun b => .int .u8 b.toNat, by simp; omega, fun w1 _ => by simp [Builtin.firstCells], fun j hj => ?_⟩
    have hj' : j < s'.size := by omega
    have hb : btA s' (j : Int) = (s'[j]'hj').toNat := by simp [btA, hj']
    show _ = _
    rw [hb]
    have hjm : j < min m s'.size := by omega
    simp only [Array.getD, Array.size_map]
    simp only [ByteArray.size_data, ByteArray.size_extract, Nat.sub_zero]
    simp [hjm]
    rfl
  case h_5 =>
    simp only [Option.some.injEq, Prod.mk.injEq] at hs
    obtain ⟨rfl, rfl, rfl⟩ := hs
    obtain ⟨x', rfl⟩ := hu
    exact zero rfl ⟨_, _, rfl⟩
  case h_6 => simp at hs
def cpy {γ : Type} (xs ys : List γ) : List γ := ys.take xs.length ++ xs.drop ys.length
theorem cpy_len {γ : Type} {xs ys : List γ} : xs.length = (cpy xs ys).length := by simp [cpy]; omega
theorem TL.copyO {d b : Nat} {t' e : TypeId} {ei : TI} {xs ys : List α} {ks : List KO} (nd : Nd h) (hk : C.kd t = some (.slc e)) (he : C.ty e = some ei) (hs : ei.sz = Enc.sz α) (hx : ev env x = (true, OL b xs)) {j : Nat} (hj : h[j]? = some (b, RL e xs))
    (hy : ev env y = (true, u)) (hsrc : Src h u ys) (hd : Nat.ble (d + 1) nt = true)
    (rest : Nd (h.set j (b, RL e (cpy xs ys))) → TL C.P nt ks K ((d, true, .int .i64 (min (ys.length : Int) xs.length)) :: env) (h.set j (b, RL e (cpy xs ys)))) : TL C.P nt (⟨some d, none, .bi .copy [t, t'] [x, y]⟩ :: ks) K env h := by
  obtain ⟨pc, S, h1, h2, h3⟩ := hsrc
  have hr := nd.get hj
  refine TL.cons (gc := true) rfl ?_ (fun e => by simp at e)
  intro o μ a w ho hdst s _ N hN
  obtain ⟨ox, oy, hop, hcx, hcy⟩ := two_ops ho
  have vx := ev_ok hcx s.env (by rw [hx])
  rw [hx] at vx
  have vy := ev_ok hcy s.env (by rw [hy])
  rw [hy] at vy
  obtain ⟨hl, hnew⟩ := src_okN (P := C.P) s.sim vy h1 h2
  obtain ⟨new, hns, hnew, hnv⟩ := hnew (min ys.length xs.length) (Nat.min_le_left _ _)
  obtain ⟨_, _, _, hK⟩ := kd_ok hk
  obtain ⟨q, hq, hqs, _, _⟩ := C.info he
  have hsz0 := Enc.pos (α := α)
  have hexec : ∀ r, (Builtin.copy_ #[t, t'] o.type #[a.eval ox, a.eval oy]).run C.P w = r → (execOp a.eval o).run C.P w = r.andThen fun v w' => .ok (.value v) w' := by
    intro r hr
    simp [execOp, hop, resolve, invoke, builtin, hr]
  have hmin : ((min ys.length xs.length : Nat) : Int) = min (ys.length : Int) xs.length := by omega
  have same : xs.length = 0 → xs = [] := fun h0 => List.length_eq_zero_iff.1 h0
  have none0 : xs.length = 0 → (∃ y cap, a.eval ox = .slice y 0 cap) → o.wp C.P a w N (fun _ _ _ => False) := by
    rintro h0 ⟨z, cap, hz⟩
    have hm0 : min ys.length xs.length = 0 := by omega
    rw [hm0] at hnew hns
    have hempty : new.toList = [] := by
      have : new.size = 0 := by simpa using hns
      rw [← Array.length_toList] at this
      exact List.length_eq_zero_iff.1 this
    have hrun : (Builtin.copy_ #[t, t'] o.type #[a.eval ox, a.eval oy]).run C.P w = .ok (goInt 0) w := by
      rw [hz]
      cases z <;> simp [Builtin.copy_, run_und hK, sizeOf, typeInfo, hq, hl, hqs, hs, hnew w rfl, hempty, storeCells]
    unfold Oper.wp
    rw [hexec _ hrun]
    simp only [Result.andThen_ok, Oper.upon]
    rw [hdst]
    have hx0 := same h0
    subst hx0
    have hc0 : cpy ([] : List α) ys = [] := by simp [cpy]
    have e0 : h.set j (b, RL e (cpy ([] : List α) ys)) = h := by rw [hc0]; obtain ⟨hlt, e1⟩ := List.getElem?_eq_some_iff.1 hj; rw [← e1]; exact List.set_getElem_self hlt
    have := rest (by rw [e0]; exact nd)
    rw [e0, show min (ys.length : Int) (([] : List α).length : Int) = 0 by simp; omega] at this
    exact hN μ _ _ _ _ (env_put (v := .int .i64 0) (u := goInt 0) (d := some d) s (Step.refl _ _) s.sim (dlt hd) rfl) (Step.refl _ _) this
  have hx' : VR μ w (.rs b 0 xs.length (xs.length * Enc.sz α) (Enc.sz α)) (a.eval ox) := vx
  rcases s.sim.rs (by unfold refOK; rw [hr]; rfl) hx' with ⟨_, z, _, _, _, hl0, _, _, _, hex⟩ | ⟨r', B, cs, cap, hr', _, hB, hL, hex, hcap, hlen, hh, hE, hmE, hcells⟩
  · exact none0 hl0 ⟨z, 0, hex⟩
  rw [hr] at hr'
  injection hr' with hr'
  subst hr'
  by_cases hl0 : xs.length = 0
  · exact none0 hl0 ⟨_, cap, by rw [hex, hl0]⟩
  have hle : min ys.length xs.length * Enc.sz α ≤ xs.length * Enc.sz α := Nat.mul_le_mul_right _ (Nat.min_le_right _ _)
  have hley : min ys.length xs.length * Enc.sz α ≤ ys.length * Enc.sz α := Nat.mul_le_mul_right _ (Nat.min_le_left _ _)
  have hone : ∀ v ∈ new.toList, v.oneCell' = true := by
    intro v hv
    obtain ⟨q, hq, rfl⟩ := List.getElem_of_mem hv
    simp only [Array.length_toList] at hq
    have hq' : q < min ys.length xs.length * Enc.sz α := by omega
    have h1' : oneA h (pc q) := by
      rw [h3 q (by omega), rowL_split hsz0]
      have hq2 : q / Enc.sz α < ys.length := Nat.div_lt_of_lt_mul (by rw [Nat.mul_comm]; omega)
      rw [List.getElem?_eq_getElem hq2]
      have : q % Enc.sz α < (Enc.cl ys[q / Enc.sz α]).length := by rw [Enc.len]; exact Nat.mod_lt _ hsz0
      show oneA _ (ec _ _)
      unfold ec ofL
      rw [List.getD_eq_getElem?_getD, List.getElem?_eq_getElem this]
      exact oneA_AV1 (Enc.cell _ _ (List.getElem_mem this))
    have := oneA_ok s.sim (hnv q hq') h1'
    simpa [Array.getD, hq] using this
  have hmr : (RL e xs).m = xs.length * Enc.sz α := rfl
  have hfit : 0 + new.toList.length ≤ cs.size := by rw [Array.length_toList, hns, hE]; omega
  have hst := run_storeCells_at C.P B.g 0 e new.toList 0 cs w hh (by simpa using hfit) hone
  let cs' : Array Value := (cs.toList.take 0 ++ new.toList ++ cs.toList.drop (0 + new.toList.length)).toArray
  have hrun : (Builtin.copy_ #[t, t'] o.type #[a.eval ox, a.eval oy]).run C.P w = .ok (goInt (min ys.length xs.length : Nat)) (w.setRow B.g cs') := by
    simp only [Nat.add_zero] at hst
    rw [hex]
    simp [Builtin.copy_, run_und hK, sizeOf, typeInfo, hq, hl, hqs, hs, hnew w rfl]
    rw [hst]
    rfl
  have hget : ∀ q, cs'[q]? = if 0 ≤ q ∧ q < 0 + min ys.length xs.length * Enc.sz α then new[q - 0]? else cs[q]? := by
    intro q
    have := seg_get cs.toList new.toList 0 q (by simpa using hfit)
    simpa [cs', hns] using this
  have hsize : cs'.size = cs.size := by simp [cs', hns]; omega
  obtain ⟨hu, nd'⟩ := nd.upd (r' := RL e (cpy xs ys)) hj
  have hlc : (cpy xs ys).length = xs.length := cpy_len.symm
  have hcl : ∀ q, q < xs.length * Enc.sz α → (RL e (cpy xs ys)).cells q = if q < min ys.length xs.length * Enc.sz α then pc q else (RL e xs).cells q := by
    intro q hq
    show rowL (Enc.sz α) ec (cpy xs ys) q = _
    have hq2 : q / Enc.sz α < xs.length := Nat.div_lt_of_lt_mul (by rw [Nat.mul_comm]; omega)
    by_cases hc : q < min ys.length xs.length * Enc.sz α
    · rw [if_pos hc, h3 q (by omega), rowL_split hsz0, rowL_split hsz0]
      have hq3 : q / Enc.sz α < min ys.length xs.length := Nat.div_lt_of_lt_mul (by rw [Nat.mul_comm]; omega)
      have : (cpy xs ys)[q / Enc.sz α]? = ys[q / Enc.sz α]? := by
        unfold cpy
        rw [List.getElem?_append_left (by simp; omega), List.getElem?_take, if_pos (by omega)]
      rw [this]
    · rw [if_neg hc]
      show _ = rowL (Enc.sz α) ec xs q
      rw [rowL_split hsz0, rowL_split hsz0]
      have hq3 : min ys.length xs.length ≤ q / Enc.sz α := (Nat.le_div_iff_mul_le hsz0).2 (by omega)
      have : (cpy xs ys)[q / Enc.sz α]? = xs[q / Enc.sz α]? := by
        unfold cpy
        rw [List.getElem?_append_right (by simp; omega), List.getElem?_drop]
        congr 1
        simp
        omega
      rw [this]
  obtain ⟨μ', s', st, _, _, hf⟩ := s.sim.turn (w' := w.setRow B.g cs') (r' := RL e (cpy xs ys)) (B' := B) (cs := cs') hr hB (.inl rfl) (by simp; exact (s.sim.lt b B hB).2) (Nat.le_refl _) (fun _ => rfl)
    (by rw [hL]; simp [RL, hlc]) (setRow_heap w B.g cs cs' e (0, 0) hh) (by rw [hsize, hE]) (by simp only [RL, hlc]; omega) (fun q hq => by
      have hq' : q < xs.length * Enc.sz α := by simpa [RL, hlc] using hq
      rw [hget q, hcl q hq']
      by_cases hr2 : q < min ys.length xs.length * Enc.sz α
      · rw [if_pos ⟨Nat.zero_le _, by omega⟩, if_pos hr2]
        have hlt : q < new.size := by omega
        refine ⟨new[q], by simp [hlt], ?_⟩
        have := hnv q hr2
        simpa [Array.getD, hlt] using this
      · rw [if_neg (by omega), if_neg hr2]
        exact hcells q (by omega)) (fun k' _ hk' => setRow_other w B.g k' cs' hk') (by simp) rfl rfl rfl
  have := rest nd'
  rw [← hu] at this
  unfold Oper.wp
  rw [hexec _ hrun]
  simp only [Result.andThen_ok, Oper.upon]
  rw [hdst]
  rw [hmin.symm] at this
  exact hN μ' _ _ _ _ (env_put (v := .int .i64 _) (u := goInt _) (d := some d) s st s' (dlt hd) rfl) st this
end
end Go.AX

namespace Go.AX
open Go.AM Go.RowKit
def RetD (C : Cx) (rs : List RS) (Q : AV → Hp → Prop) : Post
  | .normal, env, h => ∃ vs h2, ResL C h env rs vs ∧ (∀ b r, h2.get b = some r → h.get b = some r) ∧ Q (oneV vs) h2
  | .ret, env, h => ∃ vs h2, ResL C h env rs vs ∧ (∀ b r, h2.get b = some r → h.get b = some r) ∧ Q (oneV vs) h2
  | _, _, _ => False
section
variable {C : Cx} {nt : Nat} {env : Env} {h : Hp}
end
end Go.AX

namespace Go.AX
open Go.AM Go.RowKit
theorem TL.mm {C : Cx} {nt : Nat} {env : Env} {h : Hp} {K : Env → Hp → Prop} {d : Nat} {ks : List KO} (hd : Nat.ble (d + 1) nt = true) (rest : TL C.P nt ks K ((d, true, .junk) :: env) h) : TL C.P nt (⟨some d, none, .mm⟩ :: ks) K env h := by
  refine TL.cons (gc := true) rfl ?_ (fun e => by simp at e)
  intro o μ a w ho hdst s hgc N hN
  have hop : ∃ t, o.op = .makeMap t none := by
    unfold cookOp at ho
    split at ho <;> (try (simp at ho; done)) <;> (try (split at ho <;> simp at ho <;> done))
    rename_i t e
    exact ⟨t, e⟩
  obtain ⟨t, hop⟩ := hop
  have hrun : (execOp a.eval o).run C.P w = .ok (.value (.map (some w.heap.size))) { w with heap := w.heap.push (.map #[] 0) } := by
    simp [execOp, hop, Instr.makeMap, newObj]
    rfl
  have hb : Below w.heap.size w { w with heap := w.heap.push (.map #[] 0) } := below_push
  have st := Step.of_below s.sim.muok hb
  unfold Oper.wp
  rw [hrun]
  simp only [Oper.upon]
  rw [hdst]
  exact hN μ _ _ _ _ (env_put (v := .junk) s st (s.sim.below hb) (dlt hd) trivial) st rest
end Go.AX

namespace Go.AX
open Go.AM Go.RowKit
section
variable {C : Cx} {nt : Nat} {env : Env} {h : Hp} {K : Env → Hp → Prop} {t : TypeId} {x y : AM.X} {α : Type} [Enc α]
end
end Go.AX

namespace Go.AX
open Go.AM Go.RowKit
def NoAt (b : Nat) (p : List Nat) : AV → Prop
  | .vref cells m _ => ∀ i, i < m → NoAt b p (cells i)
  | .sl cells m _ => ∀ i, i < m → NoAt b p (cells i)
  | .agg m cs => ∀ i, i < m → NoAt b p (cs i)
  | .tup m cs => ∀ i, i < m → NoAt b p (cs i)
  | .fn _ m cs => ∀ i, i < m → NoAt b p (cs i)
  | .own b' p' n sz _ cs => ¬ (b' = b ∧ p' = p) ∧ ∀ i, i < n * sz → NoAt b p (cs i)
  | _ => True
def NoRoot (b : Nat) : AV → Prop
  | .vref cells m _ => ∀ i, i < m → NoRoot b (cells i)
  | .sl cells m _ => ∀ i, i < m → NoRoot b (cells i)
  | .agg m cs => ∀ i, i < m → NoRoot b (cs i)
  | .tup m cs => ∀ i, i < m → NoRoot b (cs i)
  | .fn _ m cs => ∀ i, i < m → NoRoot b (cs i)
  | .own b' _ n sz _ cs => b' ≠ b ∧ ∀ i, i < n * sz → NoRoot b (cs i)
  | _ => True
theorem NO.at {b : Nat} {p : List Nat} : ∀ {a : AV}, NO a → NoAt b p a := by
  intro a
  induction a with
  | own => exact fun h => h.elim
  | vref cells m off ih => exact fun h i hi => ih i (h i hi)
  | sl cells m n ih => exact fun h i hi => ih i (h i hi)
  | agg m cs ih => exact fun h i hi => ih i (h i hi)
  | tup m cs ih => exact fun h i hi => ih i (h i hi)
  | fn f m cs ih => exact fun h i hi => ih i (h i hi)
  | _ => exact fun _ => trivial
theorem NO.root {b : Nat} : ∀ {a : AV}, NO a → NoRoot b a := by
  intro a
  induction a with
  | own => exact fun h => h.elim
  | vref cells m off ih => exact fun h i hi => ih i (h i hi)
  | sl cells m n ih => exact fun h i hi => ih i (h i hi)
  | agg m cs ih => exact fun h i hi => ih i (h i hi)
  | tup m cs ih => exact fun h i hi => ih i (h i hi)
  | fn f m cs ih => exact fun h i hi => ih i (h i hi)
  | _ => exact fun _ => trivial
theorem NoRoot.at {b : Nat} {p : List Nat} : ∀ {a : AV}, NoRoot b a → NoAt b p a := by
  intro a
  induction a with
  | own b' p' n sz ty cs ih => exact fun h => ⟨fun e => h.1 e.1, fun i hi => ih i (h.2 i hi)⟩
  | vref cells m off ih => exact fun h i hi => ih i (h i hi)
  | sl cells m n ih => exact fun h i hi => ih i (h i hi)
  | agg m cs ih => exact fun h i hi => ih i (h i hi)
  | tup m cs ih => exact fun h i hi => ih i (h i hi)
  | fn f m cs ih => exact fun h i hi => ih i (h i hi)
  | _ => exact fun _ => trivial
def Mu.re (μ : Mu) (ad : Nat → Option (Nat × List Nat)) : Mu := { f := μ.f, nx := μ.nx, ban := μ.ban, vir := μ.vir, adr := ad }
theorem Sealed.re {μ : Mu} {w : World} {g : Nat} {ad : Nat → Option (Nat × List Nat)} (h : Sealed μ w g) : Sealed (Mu.re μ ad) w g := h
theorem Mu.re_w (μ : Mu) (w : World) (ad : Nat → Option (Nat × List Nat)) : WStep μ w (Mu.re μ ad) w :=
  ⟨Nat.le_refl _, fun _ _ B h => .inr ⟨B, h, Nat.le_refl _, fun _ => rfl⟩, fun _ _ h => h, fun _ => Iff.rfl, fun _ _ _ => rfl, fun _ h => h, Nat.le_refl _, rfl, rfl, rfl⟩
theorem VR.re {μ : Mu} {w : World} {ad : Nat → Option (Nat × List Nat)} {G : AV → Prop} (hG : ∀ b p n sz ty cs, G (.own b p n sz ty cs) → (∀ k, μ.adr k = some (b, p) → ad k = some (b, p)) ∧ ∀ i, i < n * sz → G (cs i))
    (h1 : ∀ c m o, G (.vref c m o) → ∀ i, i < m → G (c i)) (h2 : ∀ c m n, G (.sl c m n) → ∀ i, i < m → G (c i)) (h3 : ∀ m c, G (.agg m c) → ∀ i, i < m → G (c i)) (h4 : ∀ m c, G (.tup m c) → ∀ i, i < m → G (c i))
    (h5 : ∀ f m c, G (.fn f m c) → ∀ i, i < m → G (c i)) : ∀ (a : AV) (v : Value), G a → VR μ w a v → VR (Mu.re μ ad) w a v := by
  intro a
  induction a with
  | own b p n sz ty cs ih =>
    rintro v hg (h0 | ⟨k, B, arr, cap, hk, hb, hv, hf, e, hL, hc, ha, hs, hE, hi⟩)
    · exact .inl h0
    obtain ⟨g1, g2⟩ := hG _ _ _ _ _ _ hg
    refine .inr ⟨k, B, arr, cap, g1 k hk, hb, hv, hf, e, hL, hc, ha, hs, hE, fun i hi' => ?_⟩
    obtain ⟨u, hu, hr⟩ := hi i hi'
    exact ⟨u, hu, ih i u (g2 i hi') hr⟩
  | vref cells m off ih =>
    rintro v hg ⟨g, o, e, hs, hc⟩
    refine ⟨g, o, e, hs, fun i hi => ?_⟩
    obtain ⟨u, hu, hv⟩ := hc i hi
    exact ⟨u, hu, ih i u (h1 _ _ _ hg i hi) hv⟩
  | sl cells m n ih =>
    rintro v hg (h0 | ⟨a, cap, e, hn, hs, hc⟩)
    · exact .inl h0
    refine .inr ⟨a, cap, e, hn, hs, fun i hi => ?_⟩
    obtain ⟨u, hu, hv⟩ := hc i hi
    exact ⟨u, hu, ih i u (h2 _ _ _ hg i hi) hv⟩
  | agg m cs ih =>
    rintro v hg ⟨vs, e, hm, hc⟩
    exact ⟨vs, e, hm, fun i hi => ih i _ (h3 _ _ hg i hi) (hc i hi)⟩
  | tup m cs ih =>
    rintro v hg ⟨vs, e, hm, hc⟩
    exact ⟨vs, e, hm, fun i hi => ih i _ (h4 _ _ hg i hi) (hc i hi)⟩
  | fn f m cs ih =>
    rintro v hg ⟨vs, e, hm, hc⟩
    exact ⟨vs, e, hm, fun i hi => ih i _ (h5 _ _ _ hg i hi) (hc i hi)⟩
  | _ => exact fun v _ hv => hv
theorem VR.noAt {μ : Mu} {w : World} {b : Nat} {p : List Nat} {k0 : Nat} (h0 : μ.adr k0 = some (b, p)) (a : AV) (v : Value) (hn : NoAt b p a) (hv : VR μ w a v) :
    VR (Mu.re μ fun x => if x = k0 then none else μ.adr x) w a v :=
  VR.re (G := NoAt b p) (fun b' p' n sz ty cs hg => ⟨fun k hk => by
    rw [if_neg]
    · exact hk
    · rintro rfl
      rw [h0] at hk
      injection hk with hk
      injection hk with e1 e2
      exact hg.1 ⟨e1.symm, e2.symm⟩, hg.2⟩) (fun _ _ _ h => h) (fun _ _ _ h => h) (fun _ _ h => h) (fun _ _ h => h) (fun _ _ _ h => h) a v hn hv
def adI (μ : Mu) (k rb : Nat) (p : List Nat) (x : Nat) : Option (Nat × List Nat) :=
  if x = k then some (rb, p) else match μ.adr x with
    | some (b, q) => if b = k then some (rb, p ++ q) else some (b, q)
    | none => none
theorem VR.noRoot {μ : Mu} {w : World} {k rb : Nat} {p : List Nat} (h0 : μ.adr k = none) (a : AV) (v : Value) (hn : NoRoot k a) (hv : VR μ w a v) : VR (Mu.re μ (adI μ k rb p)) w a v :=
  VR.re (G := NoRoot k) (fun b' p' n sz ty cs hg => ⟨fun x hx => by
    unfold adI
    rw [if_neg (fun e => by subst e; rw [h0] at hx; cases hx), hx]
    simp only
    rw [if_neg hg.1], hg.2⟩) (fun _ _ _ h => h) (fun _ _ _ h => h) (fun _ _ h => h) (fun _ _ h => h) (fun _ _ _ h => h) a v hn hv
def readr (k rb : Nat) (p : List Nat) : AV → AV
  | .own b q n sz ty cs => .own (if b = k then rb else b) (if b = k then p ++ q else q) n sz ty (fun i => readr k rb p (cs i))
  | a => a
def ReOK (k : Nat) : AV → Prop
  | .own _ _ n sz _ cs => ∀ i, i < n * sz → ReOK k (cs i)
  | a => NoRoot k a
theorem VR.reI {μ : Mu} {w : World} {k rb : Nat} {p : List Nat} (h0 : μ.adr k = none) : ∀ (a : AV) (v : Value), ReOK k a → VR μ w a v → VR (Mu.re μ (adI μ k rb p)) w (readr k rb p a) v := by
  intro a
  induction a with
  | own b q n sz ty cs ih =>
    rintro v hg (h | ⟨x, B, arr, cap, hk, hb, hv, hf, e, hL, hc, ha, hs, hE, hi⟩)
    · exact .inl h
    refine .inr ⟨x, B, arr, cap, ?_, hb, hv, hf, e, hL, hc, ha, hs, hE, fun i hi' => ?_⟩
    · show adI μ k rb p x = _
      unfold adI
      rw [if_neg (fun e => by subst e; rw [h0] at hk; cases hk), hk]
      simp only
      split <;> rfl
    · obtain ⟨u, hu, hr⟩ := hi i hi'
      exact ⟨u, hu, ih i u (hg i hi') hr⟩
  | vref c m o => exact fun v hg hv => VR.noRoot h0 _ v hg hv
  | sl c m n => exact fun v hg hv => VR.noRoot h0 _ v hg hv
  | agg m c => exact fun v hg hv => VR.noRoot h0 _ v hg hv
  | tup m c => exact fun v hg hv => VR.noRoot h0 _ v hg hv
  | fn f m c => exact fun v hg hv => VR.noRoot h0 _ v hg hv
  | _ => exact fun v hg hv => VR.noRoot h0 _ v trivial hv
def rowC (r : Row) (i0 : Nat) (a : AV) : Row := ⟨r.ty, r.m, fun i => if i = i0 then a else r.cells i⟩
section
variable {μ : Mu} {h : Hp} {w : World}
theorem Sim.ownF (s : Sim μ h w) (r : Row) (h0 : r.m = 0) :
    ∃ μ', Sim μ' ((μ.nx, r) :: h) w ∧ Step μ w μ' w ∧ h.get μ.nx = none ∧ μ'.nx = μ.nx + 1 ∧ μ'.f μ.nx = none ∧ ∀ x, μ'.f x = μ.f x := by
  have hnvir : ¬ μ.vir μ.nx := fun hh => Nat.lt_irrefl _ (s.vlt _ hh)
  have hfn : μ.f μ.nx = none := by
    cases hq : μ.f μ.nx with
    | none => rfl
    | some B => have := (s.lt _ B hq).1; omega
  let μ' : Mu := { f := μ.f, nx := μ.nx + 1, ban := μ.ban, vir := fun x => x = μ.nx ∨ μ.vir x, adr := μ.adr }
  have st : Step μ w μ' w := by
    refine ⟨⟨by simp [μ'], fun b hb B e => .inr ⟨B, e, Nat.le_refl _, fun _ => rfl⟩, fun b hb hh => hh.resolve_left (by omega), fun _ => Iff.rfl, fun g hg _ => rfl, fun g hg => hg, Nat.le_refl _, rfl, rfl, rfl⟩, fun k a e B f => ⟨e, f, rfl⟩⟩
  refine ⟨μ', ⟨fun b q e => ?_, s.inj, fun b B e => ?_, fun b hb => ?_, s.noban, s.banlt, fun k a e => ⟨by
    have := s.hadr k a e
    simp only [Hp.get]
    rw [if_neg (by omega)]
    exact this.1, Nat.lt_succ_of_lt (s.hadr k a e).2⟩⟩, st, ?_, rfl, hfn, fun _ => rfl⟩
  · simp only [Hp.get] at e
    by_cases hb : μ.nx = b
    · rw [if_pos hb] at e
      injection e with e
      subst e hb
      exact .inl ⟨.inl rfl, hfn, h0⟩
    · rw [if_neg hb] at e
      rcases s.row b q e with ⟨hv, hn, h0⟩ | ⟨B, ds, hnv, h1, h2, h3, h4, h5, h6⟩
      · exact .inl ⟨.inr hv, hn, h0⟩
      refine .inr ⟨B, ds, fun hh => hnv (hh.resolve_left fun e => hb e.symm), h1, h2, h3, h4, h5, fun i hi => ?_⟩
      obtain ⟨u, hu, hv⟩ := h6 i hi
      exact ⟨u, hu, VR.mono st _ _ hv⟩
  · have := s.lt b B e; exact ⟨Nat.lt_succ_of_lt this.1, this.2⟩
  · rcases hb with rfl | hb
    · exact Nat.lt_succ_self _
    · exact Nat.lt_succ_of_lt (s.vlt b hb)
  · cases hq : h.get μ.nx with
    | none => rfl
    | some q =>
      rcases s.row _ q hq with ⟨hv, _⟩ | ⟨B, ds, _, h1, _⟩
      · exact (hnvir hv).elim
      have := (s.lt _ B h1).1
      omega
theorem Sim.cellC (s : Sim μ h w) {b i0 : Nat} {r : Row} {a : AV} (hb : h.get b = some r)
    (hv : ∀ B arr u, μ.f b = some B → w.heap[B.g]? = some (.cells arr r.ty (0, 0)) → arr[i0]? = some u → i0 < r.m → VR μ w (r.cells i0) u → VR μ w a u) : Sim μ (h.upd b (rowC r i0 a)) w := by
  refine ⟨fun x q e => ?_, s.inj, s.lt, s.vlt, s.noban, s.banlt, fun k a e => ⟨s.hadr_upd e hb, (s.hadr k a e).2⟩⟩
  rw [Hp.get_upd] at e
  by_cases hx : x = b
  · subst hx
    rw [if_pos rfl, hb] at e
    simp only [Option.map_some, Option.some.injEq] at e
    subst e
    rcases s.row x r hb with h1 | ⟨B, arr, hnv, h1, h2, h3, h4, h5, h6⟩
    · exact .inl h1
    · refine .inr ⟨B, arr, hnv, h1, h2, h3, h4, h5, fun i hi => ?_⟩
      obtain ⟨u, hu, hh⟩ := h6 i hi
      refine ⟨u, hu, ?_⟩
      simp only [rowC]
      by_cases hij : i = i0
      · subst hij
        rw [if_pos rfl]
        exact hv B arr u h1 h3 hu hi hh
      · rw [if_neg hij]; exact hh
  · rw [if_neg hx] at e
    exact s.row x q e
theorem Sim.pull (s : Sim μ h w) {b i0 : Nat} {r : Row} (hb : h.get b = some r) (hi0 : i0 < r.m) {rb : Nat} {p : List Nat} {n sz : Nat} {ty : TypeId} {cs : Nat → AV} (hc : r.cells i0 = .own rb p n sz ty cs)
    (hcs : ∀ i, i < n * sz → NoAt rb p (cs i)) (hr : ∀ i, i < r.m → i ≠ i0 → NoAt rb p (r.cells i)) (hh : ∀ b' r', h.get b' = some r' → b' ≠ b → ∀ i, i < r'.m → NoAt rb p (r'.cells i)) :
    ∃ μ' k, h.get k = none ∧ Sim μ' ((k, ⟨ty, n * sz, cs⟩) :: h.upd b (rowC r i0 (.rs k 0 n (n * sz) sz))) w ∧ WStep μ w μ' w ∧ ∀ a v, NoAt rb p a → VR μ w a v → VR μ' w a v := by
  have hbn : b < μ.nx := by
    rcases s.row b r hb with ⟨hv, _⟩ | ⟨B, ds, _, h1, _⟩
    · exact s.vlt b hv
    · exact (s.lt _ B h1).1
  have hown : ∃ B arr u, μ.f b = some B ∧ w.heap[B.g]? = some (.cells arr r.ty (0, 0)) ∧ arr[i0]? = some u ∧ VR μ w (.own rb p n sz ty cs) u := by
    rcases s.row b r hb with ⟨_, _, h0⟩ | ⟨B, arr, _, h1, _, h3, _, _, h6⟩
    · omega
    · obtain ⟨u, hu, hv⟩ := h6 i0 hi0
      exact ⟨B, arr, u, h1, h3, hu, by rw [← hc]; exact hv⟩
  obtain ⟨B0, arr0, u0, hB0, hA0, hu0, hv0⟩ := hown
  rcases hv0 with ⟨rfl, hx0⟩ | ⟨k, B, arr, cap, hk, hlt, hvk, hfk, he, hL, hcap, ha, hs, hE, hi⟩
  · -- nothing is hidden: a row of nothing
    obtain ⟨μ', s', st, hn, hnx, hf, hfa⟩ := Sim.ownF s ⟨ty, 0 * sz, cs⟩ (by simp)
    refine ⟨μ', μ.nx, hn, ?_, st.toWStep, fun a v _ hv => VR.mono st a v hv⟩
    have hne : μ.nx ≠ b := by omega
    have hb' : Hp.get ((μ.nx, ⟨ty, 0 * sz, cs⟩) :: h) b = some r := by simp only [Hp.get]; rw [if_neg hne]; exact hb
    have := Sim.cellC s' (i0 := i0) (a := .rs μ.nx 0 0 (0 * sz) sz) hb' (fun B arr u h1 h3 hu _ _ => by
      rw [hfa, hB0] at h1
      injection h1 with h1
      subst h1
      rw [hA0] at h3
      injection h3 with h3
      injection h3 with h3
      subst h3
      rw [hu0] at hu
      injection hu with hu
      subst hu
      exact ⟨by omega, by simp, fun _ => ⟨by simp, rfl, hx0⟩, fun B e => by rw [hf] at e; cases e⟩)
    simp only [Hp.upd] at this
    rw [if_neg hne] at this
    exact this
  · have hkb : k ≠ b := fun e => by subst e; rw [(s.hadr k _ hk).1] at hb; cases hb
    let ad : Nat → Option (Nat × List Nat) := fun x => if x = k then none else μ.adr x
    have keep : ∀ a v, NoAt rb p a → VR μ w a v → VR (Mu.re μ ad) w a v := fun a v hn hv => VR.noAt hk a v hn hv
    have hgk := (s.hadr k _ hk).1
    refine ⟨Mu.re μ ad, k, hgk, ⟨fun x q e => ?_, s.inj, s.lt, s.vlt, s.noban, s.banlt, fun x a e => ?_⟩, Mu.re_w μ w ad, keep⟩
    · simp only [Hp.get] at e
      by_cases hx : k = x
      · rw [if_pos hx] at e
        injection e with e
        subst e hx
        refine .inr ⟨B, arr, hvk, hfk, hL, ha, hs, hE, fun i hi' => ?_⟩
        obtain ⟨u, hu, hv⟩ := hi i hi'
        exact ⟨u, hu, keep _ _ (hcs i hi') hv⟩
      · rw [if_neg hx, Hp.get_upd] at e
        by_cases hxb : x = b
        · subst hxb
          rw [if_pos rfl, hb] at e
          simp only [Option.map_some, Option.some.injEq] at e
          subst e
          rcases s.row x r hb with h1 | ⟨B1, arr1, hnv, h1, h2, h3, h4, h5, h6⟩
          · exact .inl h1
          · refine .inr ⟨B1, arr1, hnv, h1, h2, h3, h4, h5, fun i hi' => ?_⟩
            obtain ⟨u, hu, hv⟩ := h6 i hi'
            refine ⟨u, hu, ?_⟩
            simp only [rowC]
            by_cases hij : i = i0
            · subst hij
              rw [if_pos rfl]
              rw [hB0] at h1
              injection h1 with h1
              subst h1
              rw [hA0] at h3
              injection h3 with h3
              injection h3 with h3
              subst h3
              rw [hu0] at hu
              injection hu with hu
              subst hu
              refine ⟨hlt, by simp, fun hh => (hvk hh).elim, fun B' e => ?_⟩
              have e : μ.f k = some B' := e
              rw [hfk] at e
              injection e with e
              subst e
              exact ⟨by omega, fun _ => ⟨cap, he, by omega⟩⟩
            · rw [if_neg hij]
              exact keep _ _ (hr i hi' hij) hv
        · rw [if_neg hxb] at e
          rcases s.row x q e with h1 | ⟨B1, arr1, hnv, h1, h2, h3, h4, h5, h6⟩
          · exact .inl h1
          · refine .inr ⟨B1, arr1, hnv, h1, h2, h3, h4, h5, fun i hi' => ?_⟩
            obtain ⟨u, hu, hv⟩ := h6 i hi'
            exact ⟨u, hu, keep _ _ (hh x q e hxb i hi') hv⟩
    · have e : (if x = k then none else μ.adr x) = some a := e
      by_cases hx : x = k
      · rw [if_pos hx] at e; cases e
      · rw [if_neg hx] at e
        refine ⟨?_, (s.hadr x a e).2⟩
        simp only [Hp.get]
        rw [if_neg (fun h => hx h.symm)]
        exact s.hadr_upd e hb
theorem Sim.push (s : Sim μ h w) {b i0 k : Nat} {r rk : Row} (hb : h.get b = some r) (hk : h.get k = some rk) (hne : k ≠ b) {n sz : Nat} (hc : r.cells i0 = .rs k 0 n rk.m sz) (hm : rk.m = n * sz) (rb : Nat) (p : List Nat)
    (hcs : ∀ i, i < rk.m → ReOK k (rk.cells i)) (hr : ∀ i, i < r.m → i ≠ i0 → NoRoot k (r.cells i)) (hh : ∀ b' r', h.get b' = some r' → b' ≠ b → b' ≠ k → ∀ i, i < r'.m → NoRoot k (r'.cells i)) :
    Sim (Mu.re μ (adI μ k rb p)) ((h.del k).upd b (rowC r i0 (.own rb p n sz rk.ty fun i => readr k rb p (rk.cells i)))) w ∧ ∀ a v, NoRoot k a → VR μ w a v → VR (Mu.re μ (adI μ k rb p)) w a v := by
  have h0 : μ.adr k = none := s.vis hk
  have keep : ∀ a v, NoRoot k a → VR μ w a v → VR (Mu.re μ (adI μ k rb p)) w a v := fun a v hn hv => VR.noRoot h0 a v hn hv
  have hdb : (h.del k).get b = some r := by rw [Hp.get_del, if_neg (fun e => hne e.symm)]; exact hb
  refine ⟨⟨fun x q e => ?_, s.inj, s.lt, s.vlt, s.noban, s.banlt, fun x a e => ?_⟩, keep⟩
  · rw [Hp.get_upd] at e
    by_cases hx : x = b
    · subst hx
      rw [if_pos rfl, hdb] at e
      simp only [Option.map_some, Option.some.injEq] at e
      subst e
      rcases s.row x r hb with h1 | ⟨B, arr, hnv, h1, h2, h3, h4, h5, h6⟩
      · exact .inl h1
      · refine .inr ⟨B, arr, hnv, h1, h2, h3, h4, h5, fun i hi => ?_⟩
        obtain ⟨u, hu, hv⟩ := h6 i hi
        refine ⟨u, hu, ?_⟩
        simp only [rowC]
        by_cases hij : i = i0
        · subst hij
          rw [if_pos rfl]
          rw [hc] at hv
          obtain ⟨v1, _, v3, v4⟩ := hv
          rcases s.row k rk hk with ⟨k1, _, k3⟩ | ⟨Bk, ak, kv, kf, kL, kh, ks, kE, kc⟩
          · obtain ⟨_, q2, q3⟩ := v3 k1
            exact .inl ⟨q2, q3⟩
          · obtain ⟨cap, q1, q2⟩ := (v4 Bk kf).2 kL.symm
            refine .inr ⟨k, Bk, ak, cap, by show adI μ k rb p k = _; unfold adI; rw [if_pos rfl], v1, kv, kf, q1, by rw [kL, hm], by omega, kh, ks, by omega, fun i hi' => ?_⟩
            obtain ⟨u', hu', hv'⟩ := kc i (by omega)
            exact ⟨u', hu', VR.reI h0 _ _ (hcs i (by omega)) hv'⟩
        · rw [if_neg hij]
          exact keep _ _ (hr i hi hij) hv
    · rw [if_neg hx, Hp.get_del] at e
      by_cases hxk : x = k
      · rw [if_pos hxk] at e; cases e
      · rw [if_neg hxk] at e
        rcases s.row x q e with h1 | ⟨B, arr, hnv, h1, h2, h3, h4, h5, h6⟩
        · exact .inl h1
        · refine .inr ⟨B, arr, hnv, h1, h2, h3, h4, h5, fun i hi => ?_⟩
          obtain ⟨u, hu, hv⟩ := h6 i hi
          exact ⟨u, hu, keep _ _ (hh x q e hx hxk i hi) hv⟩
  · have e : adI μ k rb p x = some a := e
    have hkx : k < μ.nx := by
      rcases s.row k rk hk with ⟨hv, _⟩ | ⟨B, ds, _, h1, _⟩
      · exact s.vlt k hv
      · exact (s.lt _ B h1).1
    by_cases hx : x = k
    · subst hx
      refine ⟨?_, hkx⟩
      rw [Hp.get_upd, if_neg hne, Hp.get_del, if_pos rfl]
    · unfold adI at e
      rw [if_neg hx] at e
      cases hq : μ.adr x with
      | none => rw [hq] at e; cases e
      | some a' =>
        have h1 := s.hadr x a' hq
        refine ⟨?_, h1.2⟩
        rw [Hp.get_upd, if_neg (fun h => by subst h; rw [h1.1] at hb; cases hb), Hp.get_del, if_neg hx]
        exact h1.1
end
theorem Sim.eqv {μ : Mu} {h h' : Hp} {w : World} (s : Sim μ h w) (hs : ∀ x r, h'.get x = some r → ∃ r0, h.get x = some r0 ∧ r0.ty = r.ty ∧ r0.m = r.m ∧ ∀ i, i < r.m → r.cells i = r0.cells i) : Sim μ h' w := by
  refine ⟨fun x r e => ?_, s.inj, s.lt, s.vlt, s.noban, s.banlt, fun k a e => ⟨?_, (s.hadr k a e).2⟩⟩
  · obtain ⟨r0, e0, h1, h2, h3⟩ := hs x r e
    rcases s.row x r0 e0 with ⟨q1, q2, q3⟩ | ⟨B, arr, hnv, q1, q2, q3, q4, q5, q6⟩
    · exact .inl ⟨q1, q2, by omega⟩
    · refine .inr ⟨B, arr, hnv, q1, by omega, by rw [← h1]; exact q3, q4, by omega, fun i hi => ?_⟩
      obtain ⟨u, hu, hv⟩ := q6 i (by omega)
      exact ⟨u, hu, by rw [h3 i hi]; exact hv⟩
  · cases hq : h'.get k with
    | none => rfl
    | some r =>
      obtain ⟨r0, e0, _⟩ := hs k r hq
      rw [(s.hadr k a e).1] at e0
      cases e0
def NoAtE (b : Nat) (p : List Nat) (env : Env) : Prop := ∀ t v, lk env t = some (true, v) → NoAt b p v
def NoRootE (b : Nat) (env : Env) : Prop := ∀ t v, lk env t = some (true, v) → NoRoot b v
def NoAtH (rb : Nat) (p : List Nat) (b : Nat) (h : Hp) : Prop := ∀ b' r', h.get b' = some r' → b' ≠ b → ∀ i, i < r'.m → NoAt rb p (r'.cells i)
def NoRootH (k b : Nat) (h : Hp) : Prop := ∀ b' r', h.get b' = some r' → b' ≠ b → b' ≠ k → ∀ i, i < r'.m → NoRoot k (r'.cells i)
def SameRow (r r' : Row) : Prop := r'.ty = r.ty ∧ r'.m = r.m ∧ ∀ i, i < r.m → r'.cells i = r.cells i
section
variable {P : Program} {nt : Nat} {Q : Post} {env : Env} {h : Hp}
theorem TK.pull {c : KC} (nd : Nd h) {j b i0 : Nat} {r : Row} (hj : h[j]? = some (b, r)) (hi0 : i0 < r.m) {rb : Nat} {p : List Nat} {n sz : Nat} {ty : TypeId} {cs : Nat → AV} (hc : r.cells i0 = .own rb p n sz ty cs)
    (hcs : ∀ i, i < n * sz → NoAt rb p (cs i)) (hr : ∀ i, i < r.m → i ≠ i0 → NoAt rb p (r.cells i)) (hh : NoAtH rb p b h) (he : NoAtE rb p env)
    (r1 : Nat → Row) (hr1 : ∀ k, SameRow (rowC r i0 (.rs k 0 n (n * sz) sz)) (r1 k)) (rk : Row) (hrk : SameRow ⟨ty, n * sz, cs⟩ rk)
    (K : ∀ k, Nd ((k, rk) :: h.set j (b, r1 k)) → TK P nt c Q env ((k, rk) :: h.set j (b, r1 k))) : TK P nt c Q env h := by
  intro c' hcc μ a w s
  obtain ⟨μ', k, hgk, s', st, keep⟩ := Sim.pull s.sim (nd.get hj) hi0 hc hcs hr hh
  obtain ⟨hu, nd'⟩ := nd.upd (r' := r1 k) hj
  obtain ⟨hu2, nd2⟩ := nd.upd (r' := rowC r i0 (.rs k 0 n (n * sz) sz)) hj
  have hbk : k ≠ b := fun e => by subst e; rw [nd.get hj] at hgk; cases hgk
  have hgs : Hp.get (h.set j (b, r1 k)) k = none := by
    rw [← hu, Hp.get_upd, if_neg hbk]; exact hgk
  have nd3 : Nd ((k, rk) :: h.set j (b, r1 k)) := nd'.cons rk hgs
  have s2 : Sim μ' ((k, rk) :: h.set j (b, r1 k)) w := Sim.eqv s' fun x q e => by
    simp only [Hp.get] at e ⊢
    by_cases hx : k = x
    · rw [if_pos hx] at e ⊢
      injection e with e
      subst e
      exact ⟨_, rfl, hrk.1.symm, hrk.2.1.symm, fun i hi => hrk.2.2 i (by rw [hrk.2.1] at hi; exact hi)⟩
    · rw [if_neg hx] at e ⊢
      rw [← hu, Hp.get_upd] at e
      rw [Hp.get_upd]
      by_cases hxb : x = b
      · rw [if_pos hxb, nd.get hj] at e ⊢
        simp only [Option.map_some, Option.some.injEq] at e ⊢
        subst e
        exact ⟨_, rfl, (hr1 k).1.symm, (hr1 k).2.1.symm, fun i hi => (hr1 k).2.2 i (by rw [(hr1 k).2.1] at hi; exact hi)⟩
      · rw [if_neg hxb] at e ⊢
        exact ⟨q, e, rfl, rfl, fun _ _ => rfl⟩
  have hE : EnvR μ' w env a := fun t g v e => ⟨fun hg => by subst hg; exact keep _ _ (he t v e) ((s.env t true v e).1 rfl), (s.env t g v e).2⟩
  refine wp_mono (K k nd3 c' hcc μ' a w ⟨s2, hE, s.size, s.defers⟩) ?_
  rintro e a' w' ⟨μ2, env2, h2, q, s3, st3⟩
  exact ⟨μ2, env2, h2, q, s3, st.trans st3⟩
theorem TK.push {c : KC} (nd : Nd h) {j j2 b i0 k : Nat} {r rk : Row} (hj : h[j]? = some (b, r)) (hj2 : h[j2]? = some (k, rk)) (hne : Nat.beq j j2 = false) {n sz : Nat} (hc : r.cells i0 = .rs k 0 n rk.m sz) (hm : rk.m = n * sz) (rb : Nat) (p : List Nat)
    (hcs : ∀ i, i < rk.m → ReOK k (rk.cells i)) (hr : ∀ i, i < r.m → i ≠ i0 → NoRoot k (r.cells i)) (hh : NoRootH k b h) (he : NoRootE k env)
    (r1 : Row) (hr1 : SameRow (rowC r i0 (.own rb p n sz rk.ty fun i => readr k rb p (rk.cells i))) r1)
    (K : Nd ((h.set j (b, r1)).eraseIdx j2) → TK P nt c Q env ((h.set j (b, r1)).eraseIdx j2)) : TK P nt c Q env h := by
  intro c' hcc μ a w s
  have hjj : j ≠ j2 := Nat.ne_of_beq_eq_false hne
  have hbk : k ≠ b := by
    intro e
    subst e
    exact hjj (nd.inj hj hj2)
  obtain ⟨s', keep⟩ := Sim.push s.sim (nd.get hj) (nd.get hj2) hbk hc hm rb p hcs hr hh
  obtain ⟨hu, nd'⟩ := nd.upd (r' := r1) hj
  have hj2' : (h.set j (b, r1))[j2]? = some (k, rk) := by rw [List.getElem?_set_ne hjj]; exact hj2
  have s2 : Sim (Mu.re μ (adI μ k rb p)) ((h.set j (b, r1)).eraseIdx j2) w := Sim.eqv s' fun x q e => by
    obtain ⟨h1, h2⟩ := get_erase nd' hj2' e
    rw [← hu, Hp.get_upd] at h2
    rw [Hp.get_upd]
    by_cases hxb : x = b
    · rw [if_pos hxb, nd.get hj] at h2
      rw [if_pos hxb, Hp.get_del, if_neg (fun e => hbk e.symm), nd.get hj]
      simp only [Option.map_some, Option.some.injEq] at h2 ⊢
      subst h2
      exact ⟨_, rfl, hr1.1.symm, hr1.2.1.symm, fun i hi => hr1.2.2 i (by rw [hr1.2.1] at hi; exact hi)⟩
    · rw [if_neg hxb] at h2
      rw [if_neg hxb, Hp.get_del, if_neg h1]
      exact ⟨q, h2, rfl, rfl, fun _ _ => rfl⟩
  have hE : EnvR (Mu.re μ (adI μ k rb p)) w env a := fun t g v e => ⟨fun hg => by subst hg; exact keep _ _ (he t v e) ((s.env t true v e).1 rfl), (s.env t g v e).2⟩
  refine wp_mono (K (nd'.erase j2) c' hcc _ a w ⟨s2, hE, s.size, s.defers⟩) ?_
  rintro e a' w' ⟨μ2, env2, h2, q, s3, st3⟩
  exact ⟨μ2, env2, h2, q, s3, (Mu.re_w μ w _).trans st3⟩
end
end Go.AX

namespace Go.AX
open Go.AM Go.RowKit
instance {α : Type} [Enc α] (x : α) : NoL (Enc.cl x) := ⟨fun i hi => by
  simp only [ofL, List.getD_eq_getElem?_getD, List.getElem?_eq_getElem hi, Option.getD_some]
  exact (Enc.val x _ (List.getElem_mem hi)).no⟩
instance {α : Type} [Enc α] (xs : List α) : NoA (L xs) := ⟨(v_val (α := List α) xs).no⟩
instance {α : Type} [Enc α] (b : Nat) (xs : List α) (i : Int) (o : Nat) : NoA (OP b xs i o) := ⟨trivial⟩
instance {α : Type} [Enc α] (xs : List α) (i : Int) (o : Nat) : NoA (EP xs i o) := ⟨fun j _ => (rowL_val Enc.pos (fun x d _ => ec_val x d) j).no⟩
instance : NoE [] := ⟨fun t v e => by cases e⟩
instance (t : Nat) (g : Bool) (v : AV) (e : Env) [hv : NoA v] [he : NoE e] : NoE ((t, g, v) :: e) := ⟨fun s u h => by
  simp only [lk] at h
  by_cases hx : t = s
  · rw [if_pos hx] at h; injection h with h; injection h with _ h; subst h; exact hv.no
  · rw [if_neg hx] at h; exact he.no s u h⟩
theorem NoE.c {t : Nat} {g : Bool} {v : AV} {e : Env} [hv : NoA v] (he : NoE e) : NoE ((t, g, v) :: e) := inferInstance
instance (d : Option Nat) (g : Bool) (v : AV) (e : Env) [hv : NoA v] [he : NoE e] : NoE (putE d g v e) := by
  cases d with
  | none => exact he
  | some d => exact inferInstanceAs (NoE ((d, g, v) :: e))
theorem NoE.p {d : Option Nat} {g : Bool} {v : AV} {e : Env} [hv : NoA v] (he : NoE e) : NoE (putE d g v e) := inferInstance
instance (n : Nat) (l : List AV) [hl : NoL l] : NoE (argsE n l) := ⟨fun t v e => by
  obtain ⟨_, h1, h2, rfl⟩ := argsE_at l n t true v e
  exact hl.no _ (by omega)⟩
class NoHi (h : Hp) : Prop where
  no : ∀ (i b : Nat) (r : Row), h[i]? = some (b, r) → ∀ q, q < r.m → NO (r.cells q)
class NoHx (j : Nat) (h : Hp) : Prop where
  no : ∀ (i b : Nat) (r : Row), h[i]? = some (b, r) → i ≠ j → ∀ q, q < r.m → NO (r.cells q)
instance : NoHi [] := ⟨fun i b r e => by simp at e⟩
instance (b : Nat) (r : Row) (h : Hp) [hr : NoR r] [hh : NoHi h] : NoHi ((b, r) :: h) := ⟨fun i b' r' e q hq => by
  cases i with
  | zero => simp only [List.getElem?_cons_zero, Option.some.injEq, Prod.mk.injEq] at e; obtain ⟨rfl, rfl⟩ := e; exact hr.no q hq
  | succ i => exact hh.no i b' r' (by simpa using e) q hq⟩
instance (b : Nat) (r : Row) (h : Hp) [hh : NoHi h] : NoHx 0 ((b, r) :: h) := ⟨fun i b' r' e hi q hq => by
  cases i with
  | zero => exact (hi rfl).elim
  | succ i => exact hh.no i b' r' (by simpa using e) q hq⟩
instance (j b : Nat) (r : Row) (h : Hp) [hr : NoR r] [hh : NoHx j h] : NoHx (j + 1) ((b, r) :: h) := ⟨fun i b' r' e hi q hq => by
  cases i with
  | zero => simp only [List.getElem?_cons_zero, Option.some.injEq, Prod.mk.injEq] at e; obtain ⟨rfl, rfl⟩ := e; exact hr.no q hq
  | succ i => exact hh.no i b' r' (by simpa using e) (by omega) q hq⟩
theorem get_at {h : Hp} {b : Nat} {r : Row} (e : h.get b = some r) : ∃ i : Nat, h[i]? = some (b, r) := by
  induction h with
  | nil => cases e
  | cons p h ih =>
    obtain ⟨x, q⟩ := p
    simp only [Hp.get] at e
    by_cases hx : x = b
    · rw [if_pos hx] at e; injection e with e; subst e hx; exact ⟨0, rfl⟩
    · rw [if_neg hx] at e
      obtain ⟨i, hi⟩ := ih e
      exact ⟨i + 1, by simpa using hi⟩
theorem NoHx.get {h : Hp} (_ : Nd h) {j b : Nat} {r : Row} (hj : h[j]? = some (b, r)) [hx : NoHx j h] {b' : Nat} {r' : Row} (e : h.get b' = some r') (hne : b' ≠ b) : ∀ q, q < r'.m → NO (r'.cells q) := by
  obtain ⟨i, hi⟩ := get_at e
  refine hx.no i b' r' hi fun hh => ?_
  subst hh
  rw [hj] at hi
  injection hi with hi
  injection hi with h1 _
  exact hne h1.symm
section
variable {β : Type} [Enc β]
def hidL (b : Nat) (p : List Nat) (ty : TypeId) (x : List β) : AV := .own b p x.length (Enc.sz β) ty (rowL (Enc.sz β) ec x)
def RD (ty tyi : TypeId) (b : Nat) (xs : List (List β)) : Row := ⟨ty, xs.length * Enc.sz (List β), fun i => hidL b [i] tyi (xs.getD i [])⟩
theorem RD_m {ty tyi : TypeId} {b : Nat} {xs : List (List β)} : (RD ty tyi b xs).m = xs.length := Nat.mul_one _
theorem rowL_no (xs : List β) (i : Nat) : NO (rowL (Enc.sz β) ec xs i) := (rowL_val Enc.pos (fun x d _ => ec_val x d) i).no
theorem dI_at {b b' : Nat} {p p' : List Nat} {ty : TypeId} {x : List β} (h : ¬ (b' = b ∧ p' = p)) : NoAt b p (hidL b' p' ty x) := ⟨h, fun i _ => NO.at (rowL_no x i)⟩
theorem dI_root {b b' : Nat} {p' : List Nat} {ty : TypeId} {x : List β} (h : b' ≠ b) : NoRoot b (hidL b' p' ty x) := ⟨h, fun i _ => NO.root (rowL_no x i)⟩
theorem readr_val {k rb : Nat} {p : List Nat} {a : AV} (h : NO a) : readr k rb p a = a := by
  cases a with
  | own => exact (show False from h).elim
  | _ => rfl
theorem reOK_no {k : Nat} {a : AV} (h : NO a) : ReOK k a := by
  cases a with
  | own => exact (show False from h).elim
  | _ => exact NO.root h
variable {P : Program} {nt : Nat} {Q : Post} {env : Env} {h : Hp}
theorem TK.pullD {c : KC} (nd : Nd h) (i : Nat) {j b : Nat} {ty tyi : TypeId} {xs : List (List β)} {x : List β} (hj : h[j]? = some (b, RD ty tyi b xs)) (hi : xs[i]? = some x) [hn : NoHx j h] [he : NoE env]
    (K : ∀ k, Nd ((k, RL tyi x) :: h.set j (b, rowC (RD ty tyi b xs) i (OL k x))) → TK P nt c Q env ((k, RL tyi x) :: h.set j (b, rowC (RD ty tyi b xs) i (OL k x)))) : TK P nt c Q env h := by
  have hlt : i < xs.length := (List.getElem?_eq_some_iff.1 hi).1
  have hx : xs.getD i [] = x := by rw [List.getD_eq_getElem?_getD, hi]; rfl
  refine TK.pull nd hj (i0 := i) (by rw [RD_m]; exact hlt) (rb := b) (p := [i]) (n := x.length) (sz := Enc.sz β) (ty := tyi) (cs := rowL (Enc.sz β) ec x) (by show hidL b [i] tyi (xs.getD i []) = _; rw [hx]; rfl)
    (fun q _ => NO.at (rowL_no x q)) (fun q _ hq => dI_at fun hh => hq (by injection hh.2)) (fun b' r' e hne q hq => NO.at (NoHx.get nd hj e hne q hq)) (fun t v e => NO.at (he.no t v e))
    (fun k => rowC (RD ty tyi b xs) i (OL k x)) (fun k => ⟨rfl, rfl, fun _ _ => rfl⟩) (RL tyi x) ⟨rfl, rfl, fun _ _ => rfl⟩ K
theorem TK.pushD {c : KC} (nd : Nd h) (i : Nat) {j j2 b k : Nat} {ty tyi : TypeId} {xs : List (List β)} {x y : List β} (hj : h[j]? = some (b, rowC (RD ty tyi b xs) i (OL k x))) (hj2 : h[j2]? = some (k, RL tyi y)) (hne : Nat.beq j j2 = false) (hl : y.length = x.length) (hi : i < xs.length)
    [hn : NoHx j h] [he : NoE env] (K : Nd ((h.set j (b, RD ty tyi b (xs.set i y))).eraseIdx j2) → TK P nt c Q env ((h.set j (b, RD ty tyi b (xs.set i y))).eraseIdx j2)) : TK P nt c Q env h := by
  have hbk : b ≠ k := fun e => by
    subst e
    have := nd.inj hj hj2
    rw [this, show Nat.beq j2 j2 = true from Nat.beq_refl j2] at hne; cases hne
  refine TK.push nd hj hj2 hne (i0 := i) (n := y.length) (sz := Enc.sz β) (by simp only [rowC, if_true]; show OL k x = .rs k 0 y.length (y.length * Enc.sz β) (Enc.sz β); unfold OL; rw [hl]) rfl b [i]
    (fun q _ => reOK_no (rowL_no y q)) (fun q _ hq => by
      simp only [rowC]
      rw [if_neg hq]
      exact dI_root hbk) (fun b' r' e h1 _ q hq => NO.root (NoHx.get nd hj e h1 q hq)) (fun t v e => NO.root (he.no t v e)) (RD ty tyi b (xs.set i y)) ⟨rfl, by simp [RD, rowC], fun q hq => ?_⟩ K
  simp only [rowC, RD]
  by_cases hqi : q = i
  · subst hqi
    rw [if_pos rfl]
    have : (xs.set q y).getD q [] = y := by simp [List.getD_eq_getElem?_getD, hi]
    rw [this]
    show hidL b [q] tyi y = _
    unfold hidL
    congr 1
    funext z
    exact (readr_val (rowL_no y z)).symm
  · rw [if_neg hqi, if_neg hqi]
    have : (xs.set i y).getD q [] = xs.getD q [] := by simp [List.getD_eq_getElem?_getD, List.getElem?_set_ne (fun e => hqi e.symm)]
    rw [this]
theorem TK.pushA {c : KC} (nd : Nd h) {j j2 b k : Nat} {ty tyi : TypeId} {xs : List (List β)} {x : List β} (hj : h[j]? = some (b, rowC (RD ty tyi b (xs ++ [x])) xs.length (OL k x))) (hj2 : h[j2]? = some (k, RL tyi x)) (hne : Nat.beq j j2 = false)
    [hn : NoHx j h] [he : NoE env] (K : Nd ((h.set j (b, RD ty tyi b (xs ++ [x]))).eraseIdx j2) → TK P nt c Q env ((h.set j (b, RD ty tyi b (xs ++ [x]))).eraseIdx j2)) : TK P nt c Q env h := by
  have e : (xs ++ [x]).set xs.length x = xs ++ [x] := by simp
  refine TK.pushD nd xs.length hj hj2 hne rfl (by simp) ?_
  rw [e]
  exact K
variable {C : Cx} {K : Env → Hp → Prop} {gc gx gy : Bool} {t : TypeId} {x y : AM.X} {α : Type} [Enc α]
theorem p_iaD {e : TypeId} {ei : TI} {xs : List α} {k : IntKind} {i : Int} {b : Nat} {r : Row} (hk : C.kd t = some (.slc e)) (he : C.ty e = some ei) (hs : ei.sz = Enc.sz α) (hx : ev env x = (gx, OL b xs)) (hy : ev env y = (gy, .int k i))
    (nd : Nd h) {j : Nat} (hj : h[j]? = some (b, r)) (hm : xs.length * Enc.sz α = r.m)
    {a : α} (hi : gc = true → getI xs i = some a) (hg : gc = true → gx = true ∧ gy = true := by first | exact fun _ => ⟨rfl, rfl⟩ | simp_all) : PVok C h env (.ia t x y) gc (OP b xs i 0) := by
  refine pvE (S := (gx = true ∧ gy = true) ∧ (0 ≤ i ∧ i < xs.length) ∧ refOK h b (xs.length * Enc.sz α)) ?_ fun e => ?_
  · simp only [pv, hx, hy, iaA, hk, he]
    show (AV.ref _ (0 + i.toNat * ei.sz) _, _) = _
    rw [hs, Nat.zero_add]; rfl
  · obtain ⟨h1, h2, _⟩ := getI_in (hi e)
    exact ⟨hg e, ⟨h1, h2⟩, refOK_of nd hj hm⟩
theorem p_ldC {xs : List (List β)} {i : Int} {b : Nat} {a : AV} {r : Row} {ti : TI} (ht : C.ty t = some ti) (hk : ti.known = true) (hx : ev env x = (gx, OP b xs i 0)) (nd : Nd h) {j : Nat} (hj : h[j]? = some (b, rowC r i.toNat a)) (hm : xs.length * Enc.sz (List β) = r.m)
    {z : List β} (hi : gc = true → getI xs i = some z) (ha : ti.isAgg = false) (hs : ti.sz = 1) (hg : gc = true → gx = true := by first | exact fun _ => rfl | simp_all) : PVok C h env (.ld t x) gc a := fun e => by
  have hr := nd.get hj
  have hz : Enc.sz (List β) = 1 := rfl
  have : pv C h env (.ld t x) = (partA ti (rowC r i.toNat a).cells (i.toNat * Enc.sz (List β) + 0), gx = true ∧ ti.known = true ∧ xs.length * Enc.sz (List β) = (rowC r i.toNat a).m ∧ i.toNat * Enc.sz (List β) + 0 + ti.sz ≤ (rowC r i.toNat a).m ∧ (ti.isAgg = false → ti.sz = 1)) := by
    simp only [pv, hx, loadA, ht, OP, hr]
  rw [this]
  obtain ⟨h1, h2, _⟩ := getI_in (hi e)
  refine ⟨?_, hg e, hk, hm, ?_, fun _ => hs⟩
  · simp only [partA, ha, rowC]
    rw [hz, Nat.mul_one, Nat.add_zero, if_pos rfl]
    rfl
  · show _ ≤ r.m
    rw [← hm, hz, hs]
    omega
theorem Sim.toD {μ : Mu} {w : World} (s : Sim μ h w) (nd : Nd h) {j b : Nat} {ty tyi : TypeId} (hj : h[j]? = some (b, RL ty ([] : List (List β)))) : Sim μ (h.set j (b, RD ty tyi b ([] : List (List β)))) w := by
  obtain ⟨hu, _⟩ := nd.upd (r' := RD ty tyi b ([] : List (List β))) hj
  refine Sim.eqv s fun x r e => ?_
  rw [← hu, Hp.get_upd] at e
  by_cases hx : x = b
  · subst hx
    rw [if_pos rfl, nd.get hj] at e
    simp only [Option.map_some, Option.some.injEq] at e
    subst e
    exact ⟨_, nd.get hj, rfl, by simp [RL, RD], fun i hi => by simp [RD] at hi⟩
  · rw [if_neg hx] at e
    exact ⟨r, e, rfl, rfl, fun _ _ => rfl⟩
theorem TK.toD {c : KC} (tyi : TypeId) (nd : Nd h) {j b : Nat} {ty : TypeId} (hj : h[j]? = some (b, RL ty ([] : List (List β)))) (k : Nd (h.set j (b, RD ty tyi b ([] : List (List β)))) → TK P nt c Q env (h.set j (b, RD ty tyi b ([] : List (List β))))) : TK P nt c Q env h :=
  fun c' hc μ a w s => k (nd.upd hj).2 c' hc μ a w ⟨Sim.toD s.sim nd hj, s.env, s.size, s.defers⟩
theorem TL.toD {ks : List KO} (tyi : TypeId) (nd : Nd h) {j b : Nat} {ty : TypeId} (hj : h[j]? = some (b, RL ty ([] : List (List β)))) (k : Nd (h.set j (b, RD ty tyi b ([] : List (List β)))) → TL P nt ks K env (h.set j (b, RD ty tyi b ([] : List (List β))))) : TL P nt ks K env h :=
  fun os hl hz μ a w s => k (nd.upd hj).2 os hl hz μ a w ⟨Sim.toD s.sim nd hj, s.env, s.size, s.defers⟩
end
theorem get_erase_of {h : Hp} (nd : Nd h) {j b : Nat} {r : Row} (hj : h[j]? = some (b, r)) {x : Nat} {q : Row} (hx : x ≠ b) (e : h.get x = some q) : Hp.get (h.eraseIdx j) x = some q := by
  induction h generalizing j with
  | nil => simp at hj
  | cons p h ih =>
    obtain ⟨y, r'⟩ := p
    have nd2 : Nd h := by
      simp only [Nd, List.map_cons, List.nodup_cons] at nd
      exact nd.2
    simp only [Hp.get] at e
    cases j with
    | zero =>
      simp only [List.getElem?_cons_zero, Option.some.injEq, Prod.mk.injEq] at hj
      obtain ⟨rfl, rfl⟩ := hj
      rw [if_neg (fun e => hx e.symm)] at e
      simpa using e
    | succ j =>
      have hj : h[j]? = some (b, r) := by simpa using hj
      simp only [List.eraseIdx_cons_succ, Hp.get]
      by_cases hy : y = x
      · rw [if_pos hy] at e ⊢; exact e
      · rw [if_neg hy] at e ⊢; exact ih nd2 hj e
def inR (μ : Mu) (b x : Nat) : Bool := x == b || match μ.adr x with
  | some (c, _) => c == b
  | none => false
def Mu.lessD (μ : Mu) (b : Nat) : Mu := { f := fun x => if inR μ b x = true then none else μ.f x, nx := μ.nx, ban := μ.ban, vir := fun x => inR μ b x = false ∧ μ.vir x, adr := fun x => if inR μ b x = true then none else μ.adr x }
theorem lessD_f {μ : Mu} {b x : Nat} {B : Blk} (h : (Mu.lessD μ b).f x = some B) : inR μ b x = false ∧ μ.f x = some B := by
  simp only [Mu.lessD] at h
  cases hx : inR μ b x
  · rw [hx, if_neg (by decide)] at h; exact ⟨rfl, h⟩
  · rw [hx, if_pos rfl] at h; cases h
theorem lessD_w (μ : Mu) (w : World) (b : Nat) : WStep μ w (Mu.lessD μ b) w :=
  ⟨Nat.le_refl _, fun _ _ B h => .inr ⟨B, (lessD_f h).2, Nat.le_refl _, fun _ => rfl⟩, fun _ _ h => h.2, fun _ => Iff.rfl, fun _ _ _ => rfl, fun _ h => ⟨h.1, h.2.1, fun _ _ e => h.2.2 _ _ (lessD_f e).2⟩, Nat.le_refl _, rfl, rfl, rfl⟩
theorem VR.lessD {μ : Mu} {w : World} {b : Nat} (a : AV) (v : Value) (hn : NO a) (hv : VR μ w a v) : VR (Mu.lessD μ b) w a v :=
  VR.weak (μ := μ) (μ' := Mu.lessD μ b) (Nat.le_refl _) (fun _ _ e => (lessD_f e).2) (fun _ h => h.2) (fun _ h => ⟨h.1, h.2.1, fun _ _ e => h.2.2 _ _ (lessD_f e).2⟩) a v hn hv
section
variable {β : Type} [Enc β] {μ : Mu} {h : Hp} {w : World}
theorem sealedD (s : Sim μ h w) {b x : Nat} {B : Blk} (hx : inR μ b x = true) (hf : μ.f x = some B) : Sealed (Mu.lessD μ b) w B.g :=
  ⟨(s.lt x B hf).2, s.noban x B hf, fun y B' e hg => by
    obtain ⟨h1, h2⟩ := lessD_f e
    have := s.inj y x B' B h2 hf hg
    subst this
    rw [h1] at hx; cases hx⟩
theorem VR.dI (s : Sim μ h w) {b : Nat} {p : List Nat} {ty : TypeId} {x : List β} {v : Value} (hv : VR μ w (AX.hidL b p ty x) v) : VR (Mu.lessD μ b) w (L x) v := by
  rcases hv with ⟨h0, y, rfl⟩ | ⟨k, B, arr, cap, hk, hlt, hvk, hf, rfl, hL, hc, ha, hs, hE, hi⟩
  · have hx : x = [] := List.length_eq_zero_iff.1 h0
    subst hx
    cases y with
    | none => exact .inl ⟨rfl, by simp, rfl⟩
    | some y => exact .inr ⟨y, 0, rfl, Nat.le_refl _, fun hm => by simp at hm, fun i hi => by simp at hi⟩
  · have hin : inR μ b k = true := by unfold inR; rw [hk]; simp
    refine .inr ⟨_, cap, rfl, ?_, fun _ => ⟨rfl, sealedD s hin hf⟩, fun i hi' => ?_⟩
    · have : x.length * Enc.sz β ≤ cap * Enc.sz β := by omega
      exact Nat.le_of_mul_le_mul_right this Enc.pos
    · obtain ⟨u, hu, hh⟩ := hi i hi'
      exact ⟨u, by simp [World.cell?, ha, hu], VR.lessD _ _ (rowL_no x i) hh⟩
theorem VR.OLD (s : Sim μ h w) (nd : Nd h) {j b : Nat} {ty tyi : TypeId} {xs : List (List β)} (hj : h[j]? = some (b, RD ty tyi b xs)) {v : Value} (hv : VR μ w (OL b xs) v) : VR (Mu.lessD μ b) w (L xs) v := by
  have hz : Enc.sz (List β) = 1 := rfl
  obtain ⟨_, _, v3, v4⟩ := hv
  rcases s.row b _ (nd.get hj) with ⟨hvir, _, h0⟩ | ⟨B, cs, hnv, hf, hL, hh, hE', hm, hi⟩
  · obtain ⟨_, h1, y, rfl⟩ := v3 hvir
    have hx : xs = [] := List.length_eq_zero_iff.1 h1
    subst hx
    cases y with
    | none => exact .inl ⟨rfl, by simp, rfl⟩
    | some y => exact .inr ⟨y, 0, rfl, Nat.le_refl _, fun hm => by simp at hm, fun i hi => by simp at hi⟩
  · obtain ⟨cap, rfl, hcap⟩ := (v4 B hf).2 hL.symm
    have hin : inR μ b b = true := by unfold inR; simp
    refine .inr ⟨_, cap, rfl, ?_, fun _ => ⟨rfl, sealedD s hin hf⟩, fun i hi' => ?_⟩
    · rw [RD_m] at hL hm
      rw [hz] at hcap
      omega
    · have hi2 : i < xs.length := by rw [hz, Nat.mul_one] at hi'; exact hi'
      obtain ⟨u, hu, hr⟩ := hi i (by rw [RD_m]; exact hi2)
      refine ⟨u, by simp [World.cell?, hh, hu], ?_⟩
      have : rowL (Enc.sz (List β)) ec xs i = L (xs.getD i []) := by
        have h1 := rowL_one (enc := ec) hi2 []
        exact h1
      rw [this]
      exact VR.dI s hr
theorem Sim.layD (s : Sim μ h w) (nd : Nd h) {j b : Nat} {ty tyi : TypeId} {xs : List (List β)} (hj : h[j]? = some (b, RD ty tyi b xs)) [hn : NoHx j h] : Sim (Mu.lessD μ b) (h.eraseIdx j) w := by
  have hvis := s.vis (nd.get hj)
  refine ⟨fun x r e => ?_, fun x x' B B' e e' hg => s.inj x x' B B' (lessD_f e).2 (lessD_f e').2 hg, fun x B e => s.lt x B (lessD_f e).2, fun x hx => s.vlt x hx.2, fun x B e => s.noban x B (lessD_f e).2, s.banlt, fun k a e => ?_⟩
  · obtain ⟨h1, h2⟩ := get_erase nd hj e
    have hin : inR μ b x = false := by
      unfold inR
      rw [s.vis h2]
      simp [h1]
    rcases s.row x r h2 with ⟨q1, q2, q3⟩ | ⟨B, cs, q0, q1, q2, q3, q4, q5, q6⟩
    · exact .inl ⟨⟨hin, q1⟩, by simp only [Mu.lessD]; rw [hin, if_neg (by decide)]; exact q2, q3⟩
    · refine .inr ⟨B, cs, fun hh => q0 hh.2, by simp only [Mu.lessD]; rw [hin, if_neg (by decide)]; exact q1, q2, q3, q4, q5, fun i hi => ?_⟩
      obtain ⟨u, hu, hv⟩ := q6 i hi
      exact ⟨u, hu, VR.lessD _ _ (NoHx.get nd hj h2 h1 i hi) hv⟩
  · have e : (if inR μ b k = true then none else μ.adr k) = some a := e
    split at e
    · cases e
    · have h1 := s.hadr k a e
      refine ⟨?_, h1.2⟩
      cases hq : Hp.get (h.eraseIdx j) k with
      | none => rfl
      | some q =>
        obtain ⟨_, h3⟩ := get_erase nd hj hq
        rw [h1.1] at h3; cases h3
end
section
variable {β : Type} [Enc β] {P : Program} {nt : Nat} {Q : Post} {env : Env} {h : Hp}
def cvsD (v : AV) : List Nat → Env → Env
  | [], e => e
  | t :: r, e => cvE t v (cvsD v r e)
def SlotsD (b : Nat) (xs : List (List β)) (env : Env) : List Nat → Prop
  | [] => True
  | t :: r => (lk (cvsD (L xs) r env) t = some (true, OL b xs) ∧ lk env t = some (true, OL b xs)) ∧ SlotsD b xs env r
theorem slots_env {μ : Mu} {w : World} {a : Act} {b j : Nat} {ty tyi : TypeId} {xs : List (List β)} (s : Sim μ h w) (nd : Nd h) (hj : h[j]? = some (b, RD ty tyi b xs)) (he : EnvR μ w env a) [hn : NoE env] : ∀ {l : List Nat}, SlotsD b xs env l → EnvR (Mu.lessD μ b) w (cvsD (L xs) l env) a
  | [], _ => fun t g v e => ⟨fun hg => by subst hg; exact VR.lessD _ _ (hn.no t v e) ((he t true v e).1 rfl), (he t g v e).2⟩
  | t :: r, hh => by
    have ih := slots_env s nd hj he hh.2
    intro t' g v e
    rcases cvE_lk hh.1.1 e with ⟨rfl, rfl, rfl⟩ | ⟨_, h5⟩
    · exact ⟨fun _ => VR.OLD s nd hj ((he t' true _ hh.1.2).1 rfl), fun hg => by cases hg⟩
    · exact ih t' g v h5
theorem TK.layD {c : KC} (ts : List Nat) (nd : Nd h) {j b : Nat} {ty tyi : TypeId} {xs : List (List β)} (hj : h[j]? = some (b, RD ty tyi b xs)) (hl : SlotsD b xs env ts) [NoHx j h] [he : NoE env]
    (k : Nd (h.eraseIdx j) → TK P nt c Q (cvsD (L xs) ts env) (h.eraseIdx j)) : TK P nt c Q env h := by
  intro c' hc μ a w s
  refine wp_mono (k (nd.erase j) c' hc (Mu.lessD μ b) a w ⟨Sim.layD s.sim nd hj, slots_env s.sim nd hj s.env hl, s.size, s.defers⟩) ?_
  rintro e a' w' ⟨μ2, env2, h2, q, s2, st2⟩
  exact ⟨μ2, env2, h2, q, s2, (lessD_w μ w b).trans st2⟩
theorem TK.layRD {c : KC} (ts : List Nat) (nd : Nd h) {j b : Nat} {ty tyi : TypeId} {xs : List (List β)} (hj : h[j]? = some (b, RD ty tyi b xs)) (hl : SlotsD b xs env ts) (j2 o : Nat) {b2 : Nat} {ty2 : TypeId} {l : List AV} (hj2 : h[j2]? = some (b2, RV ty2 l)) (ho : l[o]? = some (OL b xs)) (hne : Nat.beq j j2 = false) [NoHx j h] [he : NoE env]
    (k : Nd ((h.set j2 (b2, RV ty2 (l.set o (L xs)))).eraseIdx j) → TK P nt c Q (cvsD (L xs) ts env) ((h.set j2 (b2, RV ty2 (l.set o (L xs)))).eraseIdx j)) : TK P nt c Q env h := by
  intro c' hc μ a w s
  have hjj : j ≠ j2 := Nat.ne_of_beq_eq_false hne
  have hlo : o < l.length := (List.getElem?_eq_some_iff.1 ho).1
  obtain ⟨hu, nd'⟩ := nd.upd (r' := RV ty2 (l.set o (L xs))) hj2
  have hj' : (h.set j2 (b2, RV ty2 (l.set o (L xs))))[j]? = some (b, RD ty tyi b xs) := by rw [List.getElem?_set_ne (fun e => hjj e.symm)]; exact hj
  have S := Sim.layD s.sim nd hj
  have s2 : Sim (Mu.lessD μ b) ((h.set j2 (b2, RV ty2 (l.set o (L xs)))).eraseIdx j) w := by
    refine ⟨fun x q e => ?_, S.inj, S.lt, S.vlt, S.noban, S.banlt, fun k a e => ⟨?_, (S.hadr k a e).2⟩⟩
    · obtain ⟨h1, h2⟩ := get_erase nd' hj' e
      rw [← hu, Hp.get_upd] at h2
      by_cases hx : x = b2
      · subst hx
        rw [if_pos rfl, nd.get hj2] at h2
        simp only [Option.map_some, Option.some.injEq] at h2
        subst h2
        have hin : inR μ b x = false := by
          unfold inR
          rw [s.sim.vis (nd.get hj2)]
          simp [h1]
        rcases s.sim.row x _ (nd.get hj2) with ⟨q1, q2, q3⟩ | ⟨B, cs, q0, q1, q2, q3, q4, q5, q6⟩
        · exact .inl ⟨⟨hin, q1⟩, by simp only [Mu.lessD]; rw [hin, if_neg (by decide)]; exact q2, by simpa [RV] using q3⟩
        · refine .inr ⟨B, cs, fun hh => q0 hh.2, by simp only [Mu.lessD]; rw [hin, if_neg (by decide)]; exact q1, by simpa [RV] using q2, q3, q4, by simpa [RV] using q5, fun i hi => ?_⟩
          have hi2 : i < l.length := by simpa [RV] using hi
          obtain ⟨u, hu', hv⟩ := q6 i hi2
          refine ⟨u, hu', ?_⟩
          simp only [RV, ofL, List.getD_eq_getElem?_getD] at hv ⊢
          by_cases hio : i = o
          · subst hio
            rw [List.getElem?_set_self hlo]
            rw [ho] at hv
            exact VR.OLD s.sim nd hj hv
          · rw [List.getElem?_set_ne (fun e => hio e.symm)]
            have hno := NoHx.get nd hj (nd.get hj2) (fun e => hjj (nd.inj hj (e ▸ hj2))) i hi2
            simp only [RV, ofL, List.getD_eq_getElem?_getD] at hno
            exact VR.lessD _ _ hno hv
      · rw [if_neg hx] at h2
        have e2 : Hp.get (h.eraseIdx j) x = some q := by
          exact get_erase_of nd hj h1 h2
        exact S.row x q e2
    · have e : (if inR μ b k = true then none else μ.adr k) = some a := e
      split at e
      · cases e
      · have h3 := (s.sim.hadr k a e).1
        cases hq : Hp.get ((h.set j2 (b2, RV ty2 (l.set o (L xs)))).eraseIdx j) k with
        | none => rfl
        | some q =>
          obtain ⟨_, h2⟩ := get_erase nd' hj' hq
          rw [← hu, Hp.get_upd] at h2
          by_cases hk : k = b2
          · subst hk; rw [nd.get hj2] at h3; cases h3
          · rw [if_neg hk, h3] at h2; cases h2
  refine wp_mono (k (nd'.erase j) c' hc (Mu.lessD μ b) a w ⟨s2, slots_env s.sim nd hj s.env hl, s.size, s.defers⟩) ?_
  rintro e a' w' ⟨μ2, env2, h2, q, s3, st2⟩
  exact ⟨μ2, env2, h2, q, s3, (lessD_w μ w b).trans st2⟩
end
section
variable {C : Cx} {nt : Nat} {env : Env} {h : Hp} {K : Env → Hp → Prop} {t : TypeId} {x y : AM.X} {β : Type} [Enc β]
theorem TL.appD {d b f : Nat} {t' e tyi : TypeId} {ei : TI} {xs : List (List β)} {ys : List β} {ks : List KO} (nd : Nd h) (hk : C.kd t = some (.slc e)) (hk' : bytesOK C t') (he : C.ty e = some ei) (hs : ei.sz = 1) (hx : ev env x = (true, OL b xs))
    {j : Nat} (hj : h[j]? = some (b, RD e tyi b xs)) {j2 : Nat} {tyf : TypeId} (hj2 : h[j2]? = some (f, RL tyf ys)) (hy : ev env y = (true, .sl (ofL [OL f ys]) 1 1)) (hby : 0 < ei.by') (hlim : (xs.length + ([ys] : List (List β)).length) * ei.by' ≤ 140737488355328) (hd : Nat.ble (d + 1) nt = true)
    (rest : Nd (h.set j (b, rowC (RD e tyi b (xs ++ [ys])) xs.length (OL f ys))) → TL C.P nt ks K ((d, true, OL b (xs ++ [ys])) :: env) (h.set j (b, rowC (RD e tyi b (xs ++ [ys])) xs.length (OL f ys)))) :
    TL C.P nt (⟨some d, none, .bi .append [t, t'] [x, y]⟩ :: ks) K env h := by
  have hz : Enc.sz (List β) = 1 := rfl
  have hx' : ev env x = (true, .rs b 0 xs.length (RD e tyi b xs).m ei.sz) := by rw [hx, hs]; rfl
  have hr2 : refOK h f (ys.length * Enc.sz β) := refOK_of nd hj2 rfl
  refine TL.app (n := 1) (pc := ofL [OL f ys]) (S := 1 * ei.sz ≤ 1) (r := RD e tyi b xs) rfl rfl (dlt hd) hk hk' he hx' (nd.get hj) rfl (by rw [hs]; rfl) (by rw [hy]) (by rw [hy]; simp only [srcA]) (by rw [hs]; omega) (by omega) hby hlim (fun k hk => ?_) ?_
  · rw [hs] at hk
    obtain rfl : k = 0 := by omega
    exact hr2
  · refine TL.setrow (q := ⟨e, (RD e tyi b xs).m + 1 * ei.sz, appC (RD e tyi b xs).cells (RD e tyi b xs).m (ofL [OL f ys]) (1 * ei.sz)⟩) (q' := rowC (RD e tyi b (xs ++ [ys])) xs.length (OL f ys)) nd hj rfl (by simp [rowC, RD, hs, hz]) (fun i hi => ?_) fun nd1 => ?_
    · simp only [RD_m, hs] at hi
      simp only [rowC, appC, RD_m, hs]
      by_cases h1 : i = xs.length
      · subst h1
        rw [if_pos rfl, if_neg (by omega), if_pos (by omega), Nat.sub_self]
        rfl
      · rw [if_neg h1, if_pos (by omega)]
        simp only [RD]
        have : (xs ++ [ys]).getD i [] = xs.getD i [] := by
          rw [List.getD_eq_getElem?_getD, List.getD_eq_getElem?_getD, List.getElem?_append_left (by omega)]
        rw [this]
    · have := rest nd1
      simp only [putE, RD_m, hs]
      simpa [OL, hz] using this
end
end Go.AX

namespace Go.AX
open Go.AM Go.RowKit
theorem refuse_end {P : Program} (b : Frame) (a : Act) (w : World) : ∃ o w2, step P (lone (b.at a [.code (.refuse "")]) [] w) = .ended o w2 :=
  ⟨.unsupported (.elab "") ((b.at a [.code (.refuse "")]).pos P), w, step_lone_ended (by simp [stepG, stepG.exec, Frame.at])⟩
theorem wp_skip_inv {P : Program} {Q : Act → World → Prop} {a : Act} {w : World} (h : Code.skip.wp P (fun e a w => e = .normal ∧ Q a w) a w) : Q a w := by
  obtain ⟨e, a', w', ⟨rfl, q⟩, n, hn⟩ := h { fn := 0, tmps := #[], todo := [], defers := [], mode := .run, kind := .normal } [.code (.refuse "")] []
  cases n with
  | zero => simp [runN, lone, Frame.at] at hn
  | succ n =>
    simp only [runN, step_skip] at hn
    cases n with
    | zero =>
      simp [runN, lone, Frame.at] at hn
      obtain ⟨rfl, h1, h2⟩ := hn
      cases a; cases a'
      simp only at h1 h2
      subst h1 h2
      exact q
    | succ n =>
      simp only [runN] at hn
      obtain ⟨o, w2, h1⟩ := refuse_end (P := P) { fn := 0, tmps := #[], todo := [], defers := [], mode := .run, kind := .normal } a w
      rw [h1] at hn
      cases hn
def onlyN (Q : Post) : Post
  | .normal, env, h => Q .normal env h
  | _, _, _ => False
section
variable {P : Program} {nt : Nat} {Q : Post} {env : Env} {h : Hp}
theorem TK.last {x : KC} (k : ∀ K : Env → Hp → Prop, (∀ env h, TK P nt .skip (onlyN Q) env h → K env h) → TK P nt x (thenQ K Q) env h) : TK P nt x Q env h := by
  have h0 := k _ fun _ _ h => h
  intro c hc μ a w hs
  refine wp_mono (h0 c hc μ a w hs) ?_
  rintro e a1 w1 ⟨μ1, env1, h1, q, hs1, st1⟩
  cases e with
  | normal =>
    obtain ⟨μ2, env2, h2, q2, hs2, st2⟩ := wp_skip_inv (Q := fun a' w' => ∃ μ' env' h', Q .normal env' h' ∧ SimA nt μ' env' h' a' w' ∧ WStep μ1 w1 μ' w') (wp_mono (q .skip rfl μ1 a1 w1 hs1) (by
      rintro e a2 w2 ⟨μ2, env2, h2, q2, r⟩
      cases e with
      | normal => exact ⟨rfl, μ2, env2, h2, q2, r⟩
      | _ => exact q2.elim))
    exact ⟨μ2, env2, h2, q2, hs2, st1.trans st2⟩
  | _ => exact ⟨μ1, env1, h1, q, hs1, st1⟩
end
end Go.AX

namespace Go.AX
open Go.AM Go.RowKit
theorem VR.no_re {μ : Mu} {w : World} {ad : Nat → Option (Nat × List Nat)} (a : AV) (v : Value) (hn : NO a) (hv : VR μ w a v) : VR (Mu.re μ ad) w a v :=
  VR.re (G := NO) (fun _ _ _ _ _ _ h => h.elim) (fun _ _ _ h => h) (fun _ _ _ h => h) (fun _ _ h => h) (fun _ _ h => h) (fun _ _ _ h => h) a v hn hv
theorem VR.dI_re {β : Type} [Enc β] {μ : Mu} {w : World} {ad : Nat → Option (Nat × List Nat)} {b b' : Nat} {p p' : List Nat} {ty : TypeId} {x : List β} {v : Value} (h : ∀ k, μ.adr k = some (b, p) → ad k = some (b', p'))
    (hv : VR μ w (AX.hidL b p ty x) v) : VR (Mu.re μ ad) w (AX.hidL b' p' ty x) v := by
  rcases hv with h0 | ⟨k, B, arr, cap, hk, hlt, hvk, hf, e, hL, hc, ha, hs, hE, hi⟩
  · exact .inl h0
  · refine .inr ⟨k, B, arr, cap, h k hk, hlt, hvk, hf, e, hL, hc, ha, hs, hE, fun i hi' => ?_⟩
    obtain ⟨u, hu, hr⟩ := hi i hi'
    exact ⟨u, hu, VR.no_re _ _ (rowL_no x i) hr⟩
class NoHx2 (j j2 : Nat) (h : Hp) : Prop where
  no : ∀ (i b : Nat) (r : Row), h[i]? = some (b, r) → i ≠ j → i ≠ j2 → ∀ q, q < r.m → NO (r.cells q)
instance (j b : Nat) (r : Row) (h : Hp) [hh : NoHx j h] : NoHx2 0 (j + 1) ((b, r) :: h) := ⟨fun i b' r' e h1 h2 q hq => by
  cases i with
  | zero => exact (h1 rfl).elim
  | succ i => exact hh.no i b' r' (by simpa using e) (by omega) q hq⟩
instance (j b : Nat) (r : Row) (h : Hp) [hh : NoHx j h] : NoHx2 (j + 1) 0 ((b, r) :: h) := ⟨fun i b' r' e h1 h2 q hq => by
  cases i with
  | zero => exact (h2 rfl).elim
  | succ i => exact hh.no i b' r' (by simpa using e) (by omega) q hq⟩
instance (j j2 b : Nat) (r : Row) (h : Hp) [hr : NoR r] [hh : NoHx2 j j2 h] : NoHx2 (j + 1) (j2 + 1) ((b, r) :: h) := ⟨fun i b' r' e h1 h2 q hq => by
  cases i with
  | zero => simp only [List.getElem?_cons_zero, Option.some.injEq, Prod.mk.injEq] at e; obtain ⟨rfl, rfl⟩ := e; exact hr.no q hq
  | succ i => exact hh.no i b' r' (by simpa using e) (by omega) (by omega) q hq⟩
section
variable {β : Type} [Enc β]
def RJ (ty tyi : TypeId) (b : Nat) (xs : List (List β)) (f : Nat) (ys : List (List β)) : Row :=
  ⟨ty, (xs ++ ys).length * Enc.sz (List β), fun i => if i < xs.length then hidL b [i] tyi (xs.getD i []) else hidL f [i - xs.length] tyi (ys.getD (i - xs.length) [])⟩
def adJ (μ : Mu) (f b n : Nat) (x : Nat) : Option (Nat × List Nat) :=
  match μ.adr x with
  | some (c, i :: q) => if c = f then some (b, (n + i) :: q) else some (c, i :: q)
  | o => o
theorem RJ_m {ty tyi : TypeId} {b f : Nat} {xs ys : List (List β)} : (RJ ty tyi b xs f ys).m = (xs ++ ys).length := Nat.mul_one _
theorem adJ_some {μ : Mu} {f b n x : Nat} {a : Nat × List Nat} (h : adJ μ f b n x = some a) : ∃ a', μ.adr x = some a' := by
  unfold adJ at h
  cases hq : μ.adr x with
  | none => rw [hq] at h; cases h
  | some a' => exact ⟨a', rfl⟩
variable {P : Program} {nt : Nat} {Q : Post} {env : Env} {h : Hp}
theorem Sim.join {μ : Mu} {w : World} (s : Sim μ h w) (nd : Nd h) {j j2 b f : Nat} {ty tyi : TypeId} {xs ys : List (List β)} (hj : h[j]? = some (b, RJ ty tyi b xs f ys)) (hj2 : h[j2]? = some (f, RD ty tyi f ys)) (hne : j ≠ j2) [hn : NoHx2 j j2 h] :
    Sim (Mu.re μ (adJ μ f b xs.length)) ((h.set j (b, RD ty tyi b (xs ++ ys))).eraseIdx j2) w := by
  have hbf : b ≠ f := fun e => hne (nd.inj hj (e ▸ hj2))
  obtain ⟨hu, nd'⟩ := nd.upd (r' := RD ty tyi b (xs ++ ys)) hj
  have hj2' : (h.set j (b, RD ty tyi b (xs ++ ys)))[j2]? = some (f, RD ty tyi f ys) := by rw [List.getElem?_set_ne hne]; exact hj2
  refine ⟨fun x r e => ?_, s.inj, s.lt, s.vlt, s.noban, s.banlt, fun k a e => ?_⟩
  · obtain ⟨h1, h2⟩ := get_erase nd' hj2' e
    rw [← hu, Hp.get_upd] at h2
    by_cases hx : x = b
    · subst hx
      rw [if_pos rfl, nd.get hj] at h2
      simp only [Option.map_some, Option.some.injEq] at h2
      subst h2
      rcases s.row x _ (nd.get hj) with ⟨q1, q2, q3⟩ | ⟨B, cs, q0, q1, q2, q3, q4, q5, q6⟩
      · exact .inl ⟨q1, q2, by simpa [RJ_m, RD_m] using q3⟩
      · refine .inr ⟨B, cs, q0, q1, by simpa [RJ_m, RD_m] using q2, q3, q4, by simpa [RJ_m, RD_m] using q5, fun i hi => ?_⟩
        rw [RD_m, List.length_append] at hi
        obtain ⟨u, hu', hv⟩ := q6 i (by rw [RJ_m, List.length_append]; exact hi)
        refine ⟨u, hu', ?_⟩
        simp only [RJ] at hv
        show VR _ w (hidL x [i] tyi ((xs ++ ys).getD i [])) u
        by_cases hlt : i < xs.length
        · rw [if_pos hlt] at hv
          have e1 : (xs ++ ys).getD i [] = xs.getD i [] := by simp [List.getD_eq_getElem?_getD, List.getElem?_append_left hlt]
          rw [e1]
          refine VR.dI_re (fun k hk => ?_) hv
          unfold adJ
          rw [hk]
          simp only
          rw [if_neg hbf]
        · rw [if_neg hlt] at hv
          have e1 : (xs ++ ys).getD i [] = ys.getD (i - xs.length) [] := by simp [List.getD_eq_getElem?_getD, List.getElem?_append_right (Nat.le_of_not_lt hlt)]
          rw [e1]
          refine VR.dI_re (fun k hk => ?_) hv
          unfold adJ
          rw [hk]
          simp only
          rw [if_pos trivial, show xs.length + (i - xs.length) = i by omega]
    · rw [if_neg hx] at h2
      rcases s.row x r h2 with ⟨q1, q2, q3⟩ | ⟨B, cs, q0, q1, q2, q3, q4, q5, q6⟩
      · exact .inl ⟨q1, q2, q3⟩
      · refine .inr ⟨B, cs, q0, q1, q2, q3, q4, q5, fun i hi => ?_⟩
        obtain ⟨u, hu', hv⟩ := q6 i hi
        obtain ⟨z, hz⟩ := get_at h2
        refine ⟨u, hu', VR.no_re _ _ (hn.no z x r hz (fun e => ?_) (fun e => ?_) i hi) hv⟩
        · subst e; rw [hj] at hz; injection hz with hz; injection hz with hz _; exact hx hz.symm
        · subst e; rw [hj2] at hz; injection hz with hz; injection hz with hz _; exact h1 hz.symm
  · obtain ⟨a', ha⟩ := adJ_some e
    have h3 := s.hadr k a' ha
    refine ⟨?_, h3.2⟩
    cases hq : Hp.get ((h.set j (b, RD ty tyi b (xs ++ ys))).eraseIdx j2) k with
    | none => rfl
    | some q =>
      obtain ⟨_, h2⟩ := get_erase nd' hj2' hq
      rw [← hu, Hp.get_upd] at h2
      by_cases hk : k = b
      · subst hk; rw [nd.get hj] at h3; cases h3.1
      · rw [if_neg hk, h3.1] at h2; cases h2
theorem TK.join {c : KC} (nd : Nd h) {j j2 b f : Nat} {ty tyi : TypeId} {xs ys : List (List β)} (hj : h[j]? = some (b, RJ ty tyi b xs f ys)) (hj2 : h[j2]? = some (f, RD ty tyi f ys)) (hne : Nat.beq j j2 = false) [NoHx2 j j2 h] [he : NoE env]
    (k : Nd ((h.set j (b, RD ty tyi b (xs ++ ys))).eraseIdx j2) → TK P nt c Q env ((h.set j (b, RD ty tyi b (xs ++ ys))).eraseIdx j2)) : TK P nt c Q env h := by
  intro c' hc μ a w s
  have hjj := Nat.ne_of_beq_eq_false hne
  have hE : EnvR (Mu.re μ (adJ μ f b xs.length)) w env a := fun t g v e => ⟨fun hg => by subst hg; exact VR.no_re _ _ (he.no t v e) ((s.env t true v e).1 rfl), (s.env t g v e).2⟩
  refine wp_mono (k ((nd.upd hj).2.erase j2) c' hc _ a w ⟨Sim.join s.sim nd hj hj2 hjj, hE, s.size, s.defers⟩) ?_
  rintro e a' w' ⟨μ2, env2, h2, q, s2, st2⟩
  exact ⟨μ2, env2, h2, q, s2, (Mu.re_w μ w _).trans st2⟩
theorem rowIn_RD {ty tyi : TypeId} {b : Nat} {xs : List (List β)} : rowIn h (RD ty tyi b xs) := fun _ _ => fun q _ => inH_val (rowL_val Enc.pos (fun x d _ => ec_val x d) q)
end
section
variable {C : Cx} {nt : Nat} {env : Env} {h : Hp} {K : Env → Hp → Prop} {t : TypeId} {x y : AM.X} {β : Type} [Enc β]
theorem TL.appJ {d b f : Nat} {t' e tyi : TypeId} {ei : TI} {xs ys : List (List β)} {ks : List KO} (nd : Nd h) (hk : C.kd t = some (.slc e)) (hk' : bytesOK C t') (he : C.ty e = some ei) (hs : ei.sz = 1) (hx : ev env x = (true, OL b xs))
    {j : Nat} (hj : h[j]? = some (b, RD e tyi b xs)) {j2 : Nat} (hj2 : h[j2]? = some (f, RD e tyi f ys)) (hy : ev env y = (true, OL f ys)) (hby : 0 < ei.by') (hlim : (xs.length + ys.length) * ei.by' ≤ 140737488355328) (hd : Nat.ble (d + 1) nt = true)
    (rest : Nd (h.set j (b, RJ e tyi b xs f ys)) → TL C.P nt ks K ((d, true, OL b (xs ++ ys)) :: env) (h.set j (b, RJ e tyi b xs f ys))) :
    TL C.P nt (⟨some d, none, .bi .append [t, t'] [x, y]⟩ :: ks) K env h := by
  have hz : Enc.sz (List β) = 1 := rfl
  have hx' : ev env x = (true, .rs b 0 xs.length (RD e tyi b xs).m ei.sz) := by rw [hx, hs]; rfl
  have hg := nd.get hj2
  refine TL.app (n := ys.length) (pc := cutM (RD e tyi f ys).cells 0 (ys.length * 1)) (S := ys.length * Enc.sz (List β) = (RD e tyi f ys).m ∧ Enc.sz (List β) = 1) (r := RD e tyi b xs) rfl rfl (dlt hd) hk hk' he hx' (nd.get hj) rfl (by rw [hs]; rfl) (by rw [hy])
    (by rw [hy]; simp only [OL, srcA, hg, hs]) ⟨rfl, rfl⟩ (by omega) hby hlim (fun k hk => ?_) ?_
  · rw [hs] at hk
    simp only [cutM]
    rw [if_pos hk]
    trivial
  · refine TL.setrow (q := ⟨e, (RD e tyi b xs).m + ys.length * ei.sz, appC (RD e tyi b xs).cells (RD e tyi b xs).m (cutM (RD e tyi f ys).cells 0 (ys.length * 1)) (ys.length * ei.sz)⟩) (q' := RJ e tyi b xs f ys) nd hj rfl (by simp [RJ_m, RD_m, hs]) (fun i hi => ?_) fun nd1 => ?_
    · simp only [RD_m, hs] at hi
      simp only [RJ, appC, RD_m, hs]
      by_cases h1 : i < xs.length
      · rw [if_pos h1, if_pos h1]; rfl
      · rw [if_neg h1, if_neg h1, if_pos (by omega)]
        simp only [cutM]
        rw [if_pos (by omega), Nat.zero_add]
        rfl
    · have := rest nd1
      simp only [putE, RD_m, hs]
      simpa [OL, hz] using this
end
theorem Wk_tup {m : Nat} {l l' : List AV} (hl : WkL l l') : Wk (.tup m (ofL l)) (.tup m (ofL l')) := fun μ w _ ⟨vs, e, hm, hc⟩ =>
  ⟨vs, e, hm, fun i hi => (WkL.at hl i) μ w _ (hc i hi)⟩
theorem agg_val {l : List AV} {n : Nat} (hn : n = l.length) (hl : allVal l) : (AV.agg n (ofL l)).val := caps_val hn hl
theorem tup_valX {l : List AV} {n : Nat} (hn : n = l.length) (hl : allVal l) : (AV.tup n (ofL l)).val := caps_val hn hl
theorem Wk_less {α : Type} [Enc α] (xs : List α) : Wk (L xs) (.sl (ofL []) 0 xs.length) := fun μ w x h => by
  rcases h with ⟨h1, _, h3⟩ | ⟨a, cap, h1, h2, _, _⟩
  · exact .inl ⟨h1, rfl, h3⟩
  · exact .inr ⟨a, cap, h1, h2, fun h => absurd h (Nat.lt_irrefl _), fun i hi => absurd hi (Nat.not_lt_zero _)⟩
theorem Fun.wkR {P : Program} {f : FuncId} {args : List AV} {r r' : AV} (F : Fun P f args (· = r)) (hw : Wk r r') (hv : r'.val) : Fun P f args (· = r') :=
  ⟨F.enters, fun μ w cargs hm hs hr => (F.calls μ w cargs hm hs hr).mono fun _ _ ⟨c, _, e, hr, _, h3, h4⟩ => ⟨c, r', e, rfl, hv, by subst hr; exact hw _ _ _ h3, h4⟩⟩
end Go.AX

namespace Go.AX
open Go.AM
theorem FUEL_eq : FUEL = 4611686018427387904 := by unfold FUEL; rfl
theorem iter_inv {σ ρ : Type} {f : σ → Option (σ ⊕ ρ)} (I : σ → Prop) (R : ρ → Prop) (m : σ → Nat)
    (step : ∀ s, I s → (∃ s', f s = some (.inl s') ∧ I s' ∧ m s' < m s) ∨ (∃ r, f s = some (.inr r) ∧ R r)) : ∀ n s, I s → m s < n → ∃ r, iter f n s = some r ∧ R r
  | 0, s, _, hm => by omega
  | n + 1, s, hI, hm => by
    rcases step s hI with ⟨s', h1, h2, h3⟩ | ⟨r, h1, h2⟩
    · obtain ⟨r, h4, h5⟩ := iter_inv I R m step n s' h2 (by omega)
      exact ⟨r, by simp only [iter, h1, h4], h5⟩
    · exact ⟨r, by simp only [iter, h1], h2⟩
theorem run_inv {σ ρ : Type} {f : σ → Option (σ ⊕ ρ)} (I : σ → Prop) (R : ρ → Prop) (m : σ → Nat) {s : σ} (h0 : I s) (hm : m s ≤ 4000000000000000000)
    (step : ∀ s, I s → (∃ s', f s = some (.inl s') ∧ I s' ∧ m s' < m s) ∨ (∃ r, f s = some (.inr r) ∧ R r)) : ∃ r, run f s = some r ∧ R r := by
  unfold run
  exact iter_inv I R m step _ s h0 (by rw [FUEL_eq]; omega)
theorem run_is {σ ρ : Type} {f : σ → Option (σ ⊕ ρ)} (r : ρ) (I : σ → Prop) (m : σ → Nat) {s : σ} (h0 : I s) (hm : m s ≤ 4000000000000000000)
    (step : ∀ s, I s → (∃ s', f s = some (.inl s') ∧ I s' ∧ m s' < m s) ∨ f s = some (.inr r)) : run f s = some r := by
  obtain ⟨r', h1, h2⟩ := run_inv I (fun x => x = r) m h0 hm (fun s hs => (step s hs).imp id fun h => ⟨r, h, rfl⟩)
  rw [h1, h2]
section
variable {α : Type}
theorem getI_nat {xs : List α} {i : Nat} (h : i < xs.length) : getI xs (i : Int) = some xs[i] := by
  unfold getI
  rw [if_pos (by omega)]
  simp [h]
theorem need_is {c : Prop} [Decidable c] (h : c) : need c = some () := by unfold need; rw [if_pos h]
@[simp] theorem optG_true [Inhabited α] (o : Option α) : optG true o = o := rfl
@[simp] theorem optG_false [Inhabited α] (o : Option α) : optG false o = some default := rfl
theorem wr_succ {n : Nat} (h : n < 9223372036854775807) : wr ((n : Int) + 1) = ((n + 1 : Nat) : Int) := by rw [wr_eq (by omega) (by omega)]; omega
theorem slc_all (xs : List α) : slc xs 0 xs.length = xs := by simp [slc]
theorem nilU_same {ρ : Type} [DecidableEq ρ] {xs : List α} {k : Bool → Option ρ} {r : ρ} (h1 : xs = [] → k true = some r) (h2 : k false = some r) : nilU xs k = some r := by
  unfold nilU
  split
  · rw [h1 rfl, h2]; simp
  · exact h2
end
end Go.AX

namespace Go.AX
open Go.AM Go.RowKit
def Grid {α : Type} [Enc α] (e : TypeId) : Hp → List AV → List (List α) → Prop
  | [], [], [] => True
  | (b, r) :: T, c :: cs, xs :: xss => (r = RL e xs ∧ c = OL b xs) ∧ Grid e T cs xss
  | _, _, _ => False
section
variable {α : Type} [Enc α] {e : TypeId}
theorem Grid.len : ∀ {T : Hp} {cs : List AV} {xss : List (List α)}, Grid e T cs xss → T.length = xss.length ∧ cs.length = xss.length
  | [], [], [], _ => ⟨rfl, rfl⟩
  | (b, r) :: T, c :: cs, xs :: xss, h => by
    obtain ⟨h1, h2⟩ := Grid.len h.2
    exact ⟨by simp [h1], by simp [h2]⟩
theorem Grid.at : ∀ {T : Hp} {cs : List AV} {xss : List (List α)} {k : Nat} {a : List α}, Grid e T cs xss → xss[k]? = some a → ∃ nm, T[k]? = some (nm, RL e a) ∧ cs[k]? = some (OL nm a)
  | [], [], [], _, _, _, ha => by simp at ha
  | (b, r) :: T, c :: cs, xs :: xss, 0, a, h, ha => by
    simp only [List.getElem?_cons_zero, Option.some.injEq] at ha
    subst ha
    obtain ⟨⟨rfl, rfl⟩, _⟩ := h
    exact ⟨b, rfl, rfl⟩
  | (b, r) :: T, c :: cs, xs :: xss, k + 1, a, h, ha => by
    simp only [List.getElem?_cons_succ] at ha ⊢
    exact Grid.at h.2 ha
theorem Grid.set : ∀ {T : Hp} {cs : List AV} {xss : List (List α)} {k nm : Nat} {a ys : List α}, Grid e T cs xss → T[k]? = some (nm, RL e a) → Grid e (T.set k (nm, RL e ys)) (cs.set k (OL nm ys)) (xss.set k ys)
  | [], [], [], _, _, _, _, _, ha => by simp at ha
  | (b, r) :: T, c :: cs, xs :: xss, 0, nm, a, ys, h, ha => by
    simp only [List.getElem?_cons_zero, Option.some.injEq, Prod.mk.injEq] at ha
    obtain ⟨rfl, _⟩ := ha
    exact ⟨⟨rfl, rfl⟩, h.2⟩
  | (b, r) :: T, c :: cs, xs :: xss, k + 1, nm, a, ys, h, ha => by
    simp only [List.getElem?_cons_succ] at ha
    exact ⟨h.1, Grid.set h.2 ha⟩
theorem Grid.push : ∀ {T : Hp} {cs : List AV} {xss : List (List α)} {nm : Nat} {ys : List α}, Grid e T cs xss → Grid e (T ++ [(nm, RL e ys)]) (cs ++ [OL nm ys]) (xss ++ [ys])
  | [], [], [], _, _, _ => ⟨⟨rfl, rfl⟩, trivial⟩
  | _ :: _, _ :: _, _ :: _, _, _, h => ⟨h.1, Grid.push h.2⟩
end
section
variable {C : Cx} {P : Program} {nt : Nat} {env : Env} {h hS : Hp} {K : Env → Hp → Prop} {Q : Post} {gc gx gy : Bool} {t : TypeId} {x y : X} {u : AV} {α β : Type} [Enc α] [Enc β]
end
end Go.AX

namespace Go.AX
open Go.AM Go.RowKit
section
variable {μ : Mu} {h : Hp} {w : World} {P : Program}
theorem freeze_get {g o n k : Nat} {cs : Array Value} {ty : TypeId} (hg : w.heap[g]? = some (.cells cs ty (0, 0))) (hn : n ≠ 0) :
    (w.freeze ⟨g, o, none⟩ n).heap[k]? = if k = g then some (.cells cs ty (o, o + n)) else w.heap[k]? := by
  unfold World.freeze
  rw [if_neg hn]
  simp only [Array.getElem?_modify]
  by_cases hk : k = g
  · subst hk
    rw [if_pos rfl, if_pos rfl, hg]
    simp
  · rw [if_neg hk, if_neg fun e => hk e.symm]
theorem Sim.mark (s : Sim μ h w) {b : Nat} {B : Blk} {cs : Array Value} {ty : TypeId} (hf : μ.f b = some B) (hB : w.heap[B.g]? = some (.cells cs ty (0, 0))) (o : Nat) (hv0 : μ.adr b = none) :
    Step μ w (μ.less b) (w.freeze ⟨B.g, o, none⟩ 1) ∧ Sim (μ.less b) (h.del b) (w.freeze ⟨B.g, o, none⟩ 1) := by
  have hget : ∀ k, (w.freeze ⟨B.g, o, none⟩ 1).heap[k]? = if k = B.g then some (.cells cs ty (o, o + 1)) else w.heap[k]? := fun k => freeze_get hB (by omega)
  have hsz : (w.freeze ⟨B.g, o, none⟩ 1).heap.size = w.heap.size := by simp [World.freeze]
  have L := Step.less (μ := μ) (w := w) (b := b) hv0
  have st : Step μ w (μ.less b) (w.freeze ⟨B.g, o, none⟩ 1) := by
    refine ⟨⟨L.nx, L.old, L.vir, L.ban, fun g hg hk => ?_, fun g hg => ?_, by rw [hsz]; exact Nat.le_refl _, rfl, rfl, rfl⟩, fun k a e B' ef => ⟨e, (L.hid k a e B' ef).2.1, by
      rw [hget, if_neg fun hh => ?_]
      have := s.inj k b B' B ef hf hh
      subst this
      rw [hv0] at e; cases e⟩⟩
    · rw [hget]
      rw [if_neg]
      rintro rfl
      rcases hk with hk | hk
      · exact s.noban b B hf hk
      · exact hk.2.2 b B hf rfl
    · have h1 := L.sld g hg
      exact ⟨by rw [hsz]; exact h1.1, h1.2.1, h1.2.2⟩
  refine ⟨st, ⟨fun x r e => ?_, fun x x' B1 B2 e e' hg => s.inj x x' B1 B2 (Mu.less_f e).2 (Mu.less_f e').2 hg, fun x B1 e => ?_, fun x hx => s.vlt x hx.2, fun x B1 e => s.noban x B1 (Mu.less_f e).2, fun g hg => by rw [hsz]; exact s.banlt g hg, fun k a e => ⟨by
    rw [Hp.get_del]
    split
    · rfl
    · exact (s.hadr k a e).1, (s.hadr k a e).2⟩⟩⟩
  · rw [Hp.get_del] at e
    by_cases hx : x = b
    · rw [if_pos hx] at e; cases e
    · rw [if_neg hx] at e
      rcases s.row x r e with ⟨h1, h2, h3⟩ | ⟨B1, cs1, h0, h1, h2, h3, h4, h5, h6⟩
      · exact .inl ⟨⟨hx, h1⟩, by simp only [Mu.less]; rw [if_neg hx]; exact h2, h3⟩
      · have hne : B1.g ≠ B.g := fun hh => hx (s.inj x b B1 B h1 hf hh)
        refine .inr ⟨B1, cs1, fun hh => h0 hh.2, by simp only [Mu.less]; rw [if_neg hx]; exact h1, h2, by rw [hget, if_neg hne]; exact h3, h4, h5, fun i hi => ?_⟩
        obtain ⟨u, hu, hv⟩ := h6 i hi
        exact ⟨u, hu, VR.mono st _ _ hv⟩
  · have := s.lt x B1 (Mu.less_f e).2
    exact ⟨this.1, by rw [hsz]; exact this.2⟩
end
section
variable {C : Cx} {nt : Nat} {env : Env} {h : Hp} {K : Env → Hp → Prop} {t : TypeId} {x : X}
theorem TL.cvtF {d b : Nat} {e : TypeId} {xs : List UInt8} {ks : List KO} (nd : Nd h) (hk : C.kd t = some (.slc e)) (he : C.kd e = some (.int .u8)) (hx : ev env x = (true, OL b xs)) {j : Nat} {ty : TypeId} (hj : h[j]? = some (b, RL ty xs)) (hpos : xs ≠ []) (hd : Nat.ble (d + 1) nt = true)
    (rest : Nd (h.eraseIdx j) → TL C.P nt ks K ((d, true, L xs) :: env) (h.eraseIdx j)) : TL C.P nt (⟨some d, none, .cvt t t x⟩ :: ks) K env h := by
  refine TL.cons (gc := true) rfl ?_ (fun e => by cases e)
  intro o μ a w ho hdst s _ N hN
  obtain ⟨ox, hop, hcx⟩ := cvt_op ho
  have vx := ev_ok hcx s.env (by rw [hx])
  rw [hx] at vx
  have hr := nd.get hj
  have hlen : 0 < xs.length := List.length_pos_iff.2 hpos
  obtain ⟨v1, v2, v3, v4⟩ := vx
  rcases s.sim.row b _ hr with ⟨_, _, h0⟩ | ⟨B, cs, hnv, q1, q2, q3, q4, q5, q6⟩
  · simp only [RL, Enc.sz] at h0; omega
  obtain ⟨w1, w2⟩ := v4 B q1
  obtain ⟨cap, hv, hcap⟩ := w2 q2.symm
  obtain ⟨_, _, _, hK⟩ := kd_ok hk
  obtain ⟨_, _, _, hK2⟩ := kd_ok he
  have hrun : (execOp a.eval o).run C.P w = .ok (.value (.slice (some ⟨B.g, 0, none⟩) xs.length cap)) (w.freeze ⟨B.g, cs.size, none⟩ 1) := by
    have hsh : w.shape? B.g = some (ty, cs.size) := by unfold World.shape?; rw [q3]; rfl
    simp only [execOp, hop, convert, Sem.run_bind, run_und hK, Result.andThen_ok, hv]
    simp [run_und hK2, markStringish, shape, freeze, Sem.run, hsh]
  obtain ⟨st, s'⟩ := Sim.mark s.sim q1 q3 cs.size (s.sim.vis (nd.get hj))
  have s2 : Sim (μ.less b) (h.eraseIdx j) (w.freeze ⟨B.g, cs.size, none⟩ 1) := Sim.sub s' fun x q e => by
    obtain ⟨h1, h2⟩ := get_erase nd hj e
    rw [Hp.get_del, if_neg h1]
    exact h2
  unfold Oper.wp
  rw [hrun]
  simp only [Oper.upon]
  rw [hdst]
  refine hN _ _ _ _ _ (env_put (v := L xs) s st s2 (dlt hd) ?_) st (rest (nd.erase j))
  refine Or.inr ⟨_, cap, rfl, ?_, fun _ => ⟨rfl, ?_, ?_, fun x B' e hg => ?_⟩, fun i hi => ?_⟩
  · simp only [RL, Enc.sz] at q5
    simp only [Enc.sz] at hcap
    omega
  · have := (s.sim.lt b B q1).2
    simp only [World.freeze]
    rw [if_neg (by omega)]
    simpa using this
  · exact s.sim.noban b B q1
  · obtain ⟨h1, h2⟩ := Mu.less_f e
    exact h1 (s.sim.inj x b B' B h2 q1 hg)
  · obtain ⟨u, hu, hv⟩ := q6 i hi
    refine ⟨u, ?_, VR.mono st _ _ hv⟩
    unfold World.cell?
    rw [freeze_get q3 (by omega), if_pos rfl]
    simpa using hu
theorem TL.litO {α : Type} [Enc α] {d n : Nat} {ps : List (Nat × X)} {e : TypeId} {ei : TI} {ks : List KO} (nd : Nd h) (xs : List α) (hk : C.kd t = some (.slc e)) (he : C.ty e = some ei) (hs : ei.sz = Enc.sz α) (hl : LitL env 0 ps xs) (hn : n = xs.length)
    (hlim : Nat.ble (n * Enc.sz α) 16777216 = true) (hd : Nat.ble (d + 1) nt = true) (rest : ∀ b, Nd ((b, RL e xs) :: h) → TL C.P nt ks K ((d, true, OL b xs) :: env) ((b, RL e xs) :: h)) : TL C.P nt (⟨some d, none, .bsl t n ps⟩ :: ks) K env h := by
  obtain ⟨l, S, h1, h2, h3, h4⟩ := litA_of (h := h) hl
  refine TL.bsl rfl rfl (dlt hd) hk he (by rw [hs]; exact Nat.le_of_ble_eq_true hlim) (by rw [hs]; exact h1) h2 (by rw [h3, hn]) fun b hb => ?_
  have hv : (AV.sl (catC ei.sz l) (n * ei.sz) n) = L xs := by
    unfold L VS
    rw [hn, hs]
    congr 1
    have := VS_congr (e1 := fun (p : Nat → AV) => p) (l := l) (xs := xs) rfl h3 h4
    rw [← this]
    simp [rowL]
  have hc : catC ei.sz l = rowL (Enc.sz α) ec xs := by
    unfold L VS at hv
    injection hv
  have := rest b (nd.cons _ hb)
  simp only [OL, RL] at this
  rw [hc, hs, hn]
  exact this
end
end Go.AX

namespace Go.AX
open Go.AM Go.RowKit
section
variable {C : Cx} {P : Program} {nt : Nat} {env : Env} {h : Hp} {K : Env → Hp → Prop} {Q : Post} {t : TypeId} {x y : X} {α : Type} [Enc α]
end
section
variable {P : Program} {nt : Nat} {env : Env} {h : Hp} {ks : List KO} {K : Env → Hp → Prop} {r : List (Nat × Nat)} {i : Nat}
end
end Go.AX

namespace Go.AX
open Go.AM Go.RowKit
section
variable {α : Type} [Enc α]
def zp (e : TypeId) (ns : List Nat) (pl : List (List α)) : Hp := List.zipWith (fun b xs => (b, RL e xs)) ns pl
def pcell (ns : List Nat) (pl : List (List α)) (q : Nat) : AV := OL (ns.getD q 0) (pl.getD q [])
def pcells (ns ix : List Nat) (pl : List (List α)) : List AV := ix.map (pcell ns pl)
def GP (ns ix : List Nat) (pl : List (List α)) : Prop := ns.length = pl.length ∧ ∀ q ∈ ix, q < pl.length
def OX (b : Nat) (ix : List Nat) : AV := .rs b 0 ix.length (ix.length * 1) 1
variable {e : TypeId} {ns ix : List Nat} {pl : List (List α)} {q b : Nat} {xs ys : List α} {i : Int}
omit [Enc α] in
theorem GP.lt (h : GP ns ix pl) (hi : getI ix i = some q) : q < pl.length := h.2 q (List.mem_of_getElem? (getI_in hi).2.2)
omit [Enc α] in
theorem GP.nil : GP [] [] ([] : List (List α)) := ⟨rfl, fun q h => by cases h⟩
omit [Enc α] in
theorem GP.put (h : GP ns ix pl) (k : Nat) (hq : q < pl.length) : GP ns (ix.set k q) pl := ⟨h.1, fun x hx => by
  rcases List.mem_or_eq_of_mem_set hx with h1 | h1
  · exact h.2 x h1
  · rw [h1]; exact hq⟩
omit [Enc α] in
theorem GP.turn (h : GP ns ix pl) : GP ns ix (pl.set q ys) := ⟨by rw [List.length_set]; exact h.1, fun x hx => by rw [List.length_set]; exact h.2 x hx⟩
omit [Enc α] in
theorem GP.push (h : GP ns ix pl) : GP (ns ++ [b]) (ix ++ [pl.length]) (pl ++ [xs]) := ⟨by simp [h.1], fun x hx => by
  rw [List.length_append]
  rcases List.mem_append.1 hx with h1 | h1
  · have := h.2 x h1; omega
  · rw [List.mem_singleton.1 h1]; simp⟩
theorem Grid.m {T : Hp} {cs : List AV} {xss : List (List α)} {ty : TypeId} (h : Grid e T cs xss) : xss.length * Enc.sz (List α) = (RV ty cs).m := by
  have := h.len.2
  simp only [RV, Enc.sz]; omega
end
section
variable {C : Cx} {P : Program} {nt : Nat} {env : Env} {h : Hp} {K : Env → Hp → Prop} {Q : Post} {gc gx gy : Bool} {t : TypeId} {x y : X} {u : AV} {α : Type} [Enc α] {ns ix : List Nat} {pl : List (List α)} {q b : Nat} {i : Int} {F : Hp} {e' : TypeId}
theorem TL.litP {d : Nat} {e : TypeId} {ei : TI} {ks : List KO} {z : X} {xs : List α} (nd : Nd h) (hk : C.kd t = some (.slc e)) (he : C.ty e = some ei) (hs : ei.sz = 1) (hz : ev env z = (true, OL b xs)) {j : Nat} {ty : TypeId} (hj : h[j]? = some (b, RL ty xs)) (hd : Nat.ble (d + 1) nt = true)
    (rest : TL C.P nt ks K ((d, true, .sl (ofL [OL b xs]) 1 1) :: env) h) : TL C.P nt (⟨some d, none, .bsl t 1 [(0, z)]⟩ :: ks) K env h := by
  have hr : refOK h b (xs.length * Enc.sz α) := refOK_of nd hj rfl
  refine TL.bslv (l := [fun _ => OL b xs]) (S := (0 = 0 ∧ (ev env z).1 = true ∧ refOK h b (xs.length * Enc.sz α) ∧ 1 = ei.sz) ∧ True) (gc := true) rfl rfl (dlt hd) hk he (by rw [hs]; omega) (by simp only [litA, hz, OL, cellsA]) (fun _ => ⟨⟨rfl, by rw [hz], hr, hs.symm⟩, trivial⟩) rfl ?_
  have e1 : catC ei.sz [fun _ => OL b xs] = ofL [OL b xs] := by
    funext j
    rw [hs]
    cases j with
    | zero => rfl
    | succ j => simp [catC, ofL, List.getD_eq_getElem?_getD]
  rw [e1, hs]
  exact rest
end
end Go.AX
