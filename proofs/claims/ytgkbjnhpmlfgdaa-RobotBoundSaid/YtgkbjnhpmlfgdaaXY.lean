import Derived.Test.YtgkbjnhpmlfgdaaXW
/- A written list of bytes that becomes a list of bytes of a text: its block is marked, and it stays as it is. -/
namespace Go.AX
open Go.AM Go.RowKit

section
variable {μ : Mu} {h : Hp} {w : World} {P : Program}

theorem freeze_get {g o n k : Nat} {cs : Array Value} {ty : TypeId} (hg : w.heap[g]? = some (.cells cs ty (0, 0))) (hn : n ≠ 0) :
    (w.freeze ⟨g, o, none⟩ n).heap[k]? = if k = g then some (.cells cs ty (o, o + n)) else w.heap[k]? := by
  unfold World.freeze
  rw [if_neg hn]
  simp only [Array.getElem?_modify]
  by_cases hk : k = g
  · subst hk
    rw [if_pos rfl, if_pos rfl, hg]
    simp
  · rw [if_neg hk, if_neg fun e => hk e.symm]

/-- The step that marks an own row's block; the row is told of no more. -/
theorem Sim.mark (s : Sim μ h w) {b : Nat} {B : Blk} {cs : Array Value} {ty : TypeId} (hf : μ.f b = some B) (hB : w.heap[B.g]? = some (.cells cs ty (0, 0))) (o : Nat) :
    Step μ w (μ.less b) (w.freeze ⟨B.g, o, none⟩ 1) ∧ Sim (μ.less b) (h.del b) (w.freeze ⟨B.g, o, none⟩ 1) := by
  have hget : ∀ k, (w.freeze ⟨B.g, o, none⟩ 1).heap[k]? = if k = B.g then some (.cells cs ty (o, o + 1)) else w.heap[k]? := fun k => freeze_get hB (by omega)
  have hsz : (w.freeze ⟨B.g, o, none⟩ 1).heap.size = w.heap.size := by simp [World.freeze]
  have L := Step.less (μ := μ) (w := w) (b := b)
  have st : Step μ w (μ.less b) (w.freeze ⟨B.g, o, none⟩ 1) := by
    refine ⟨L.nx, L.old, L.vir, L.ban, fun g hg hk => ?_, fun g hg => ?_, by rw [hsz]; exact Nat.le_refl _, rfl, rfl, rfl⟩
    · rw [hget]
      rw [if_neg]
      rintro rfl
      rcases hk with hk | hk
      · exact s.noban b B hf hk
      · exact hk.2.2 b B hf rfl
    · have h1 := L.sld g hg
      exact ⟨by rw [hsz]; exact h1.1, h1.2.1, h1.2.2⟩
  refine ⟨st, ⟨fun x r e => ?_, fun x x' B1 B2 e e' hg => s.inj x x' B1 B2 (Mu.less_f e).2 (Mu.less_f e').2 hg, fun x B1 e => ?_, fun x hx => s.vlt x hx.2, fun x B1 e => s.noban x B1 (Mu.less_f e).2, fun g hg => by rw [hsz]; exact s.banlt g hg⟩⟩
  · rw [Hp.get_del] at e
    by_cases hx : x = b
    · rw [if_pos hx] at e; cases e
    · rw [if_neg hx] at e
      rcases s.row x r e with ⟨h1, h2, h3⟩ | ⟨B1, cs1, h0, h1, h2, h3, h4, h5, h6⟩
      · exact .inl ⟨⟨hx, h1⟩, by simp only [Mu.less]; rw [if_neg hx]; exact h2, h3⟩
      · have hne : B1.g ≠ B.g := fun hh => hx (s.inj x b B1 B h1 hf hh)
        refine .inr ⟨B1, cs1, fun hh => h0 hh.2, by simp only [Mu.less]; rw [if_neg hx]; exact h1, h2, by rw [hget, if_neg hne]; exact h3, h4, h5, fun i hi => ?_⟩
        obtain ⟨u, hu, hv⟩ := h6 i hi
        exact ⟨u, hu, VR.mono st _ _ hv⟩
  · have := s.lt x B1 (Mu.less_f e).2
    exact ⟨this.1, by rw [hsz]; exact this.2⟩

end

section
variable {C : Cx} {nt : Nat} {env : Env} {h : Hp} {K : Env → Hp → Prop} {t : TypeId} {x : X}

/-- []byte("..") of an own row: it is laid down, marked. -/
theorem TL.cvtF {d b : Nat} {e : TypeId} {xs : List UInt8} {ks : List KO} (nd : Nd h) (hk : C.kd t = some (.slc e)) (he : C.kd e = some (.int .u8)) (hx : ev env x = (true, OL b xs)) {j : Nat} {ty : TypeId} (hj : h[j]? = some (b, RL ty xs)) (hpos : xs ≠ []) (hd : Nat.ble (d + 1) nt = true)
    (rest : Nd (h.eraseIdx j) → TL C.P nt ks K ((d, true, L xs) :: env) (h.eraseIdx j)) : TL C.P nt (⟨some d, none, .cvt t t x⟩ :: ks) K env h := by
  refine TL.cons (gc := true) rfl ?_ (fun e => by cases e)
  intro o μ a w ho hdst s _ N hN
  obtain ⟨ox, hop, hcx⟩ := cvt_op ho
  have vx := ev_ok hcx s.env (by rw [hx])
  rw [hx] at vx
  have hr := nd.get hj
  have hlen : 0 < xs.length := List.length_pos_iff.2 hpos
  obtain ⟨v1, v2, v3, v4⟩ := vx
  rcases s.sim.row b _ hr with ⟨_, _, h0⟩ | ⟨B, cs, hnv, q1, q2, q3, q4, q5, q6⟩
  · simp only [RL, Enc.sz] at h0; omega
  obtain ⟨w1, w2⟩ := v4 B q1
  obtain ⟨cap, hv, hcap⟩ := w2 q2.symm
  obtain ⟨_, _, _, hK⟩ := kd_ok hk
  obtain ⟨_, _, _, hK2⟩ := kd_ok he
  have hrun : (execOp a.eval o).run C.P w = .ok (.value (.slice (some ⟨B.g, 0, none⟩) xs.length cap)) (w.freeze ⟨B.g, cs.size, none⟩ 1) := by
    have hsh : w.shape? B.g = some (ty, cs.size) := by unfold World.shape?; rw [q3]; rfl
    simp only [execOp, hop, convert, Sem.run_bind, run_und hK, Result.andThen_ok, hv]
    simp [run_und hK2, markStringish, shape, freeze, Sem.run, hsh]
  obtain ⟨st, s'⟩ := Sim.mark s.sim q1 q3 cs.size
  have s2 : Sim (μ.less b) (h.eraseIdx j) (w.freeze ⟨B.g, cs.size, none⟩ 1) := Sim.sub s' fun x q e => by
    obtain ⟨h1, h2⟩ := get_erase nd hj e
    rw [Hp.get_del, if_neg h1]
    exact h2
  unfold Oper.wp
  rw [hrun]
  simp only [Oper.upon]
  rw [hdst]
  refine hN _ _ _ _ _ (env_put (v := L xs) s st s2 (dlt hd) ?_) st (rest (nd.erase j))
  refine Or.inr ⟨_, cap, rfl, ?_, fun _ => ⟨rfl, ?_, ?_, fun x B' e hg => ?_⟩, fun i hi => ?_⟩
  · simp only [RL, Enc.sz] at q5
    simp only [Enc.sz] at hcap
    omega
  · have := (s.sim.lt b B q1).2
    simp only [World.freeze]
    rw [if_neg (by omega)]
    simpa using this
  · exact s.sim.noban b B q1
  · obtain ⟨h1, h2⟩ := Mu.less_f e
    exact h1 (s.sim.inj x b B' B h2 q1 hg)
  · obtain ⟨u, hu, hv⟩ := q6 i hi
    refine ⟨u, ?_, VR.mono st _ _ hv⟩
    unfold World.cell?
    rw [freeze_get q3 (by omega), if_pos rfl]
    simpa using hu
/-- A list that is written out, as an own row. -/
theorem TL.litO {α : Type} [Enc α] {d n : Nat} {ps : List (Nat × X)} {e : TypeId} {ei : TI} {ks : List KO} (nd : Nd h) (xs : List α) (hk : C.kd t = some (.slc e)) (he : C.ty e = some ei) (hs : ei.sz = Enc.sz α) (hl : LitL env 0 ps xs) (hn : n = xs.length)
    (hlim : Nat.ble (n * Enc.sz α) 16777216 = true) (hd : Nat.ble (d + 1) nt = true) (rest : ∀ b, Nd ((b, RL e xs) :: h) → TL C.P nt ks K ((d, true, OL b xs) :: env) ((b, RL e xs) :: h)) : TL C.P nt (⟨some d, none, .bsl t n ps⟩ :: ks) K env h := by
  obtain ⟨l, S, h1, h2, h3, h4⟩ := litA_of (h := h) hl
  refine TL.bsl rfl rfl (dlt hd) hk he (by rw [hs]; exact Nat.le_of_ble_eq_true hlim) (by rw [hs]; exact h1) h2 (by rw [h3, hn]) fun b hb => ?_
  have hv : (AV.sl (catC ei.sz l) (n * ei.sz) n) = L xs := by
    unfold L VS
    rw [hn, hs]
    congr 1
    have := VS_congr (e1 := fun (p : Nat → AV) => p) (l := l) (xs := xs) rfl h3 h4
    rw [← this]
    simp [rowL]
  have hc : catC ei.sz l = rowL (Enc.sz α) ec xs := by
    unfold L VS at hv
    injection hv
  have := rest b (nd.cons _ hb)
  simp only [OL, RL] at this
  rw [hc, hs, hn]
  exact this
end
end Go.AX
