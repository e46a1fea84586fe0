import Derived.Test.YtpipaggkbiapjaaDoorAmR
/- Own rows that shrink; clear; nil in an own row taken as a row. -/
namespace Go.AM
open Go.RowKit

theorem Sim.getEq {μ : Mu} {h h' : Hp} {w : World} (s : Sim μ h w) (e : ∀ x, h'.get x = h.get x) : Sim μ h' w :=
  ⟨fun b r hr => s.row b r (by rw [← e]; exact hr), s.inj, s.lt, s.vlt, s.noban, s.banlt⟩

theorem putC_none {cs pc : Nat → AV} {o : Nat} : putC cs o 0 pc = cs := by
  funext j
  unfold putC
  rw [if_neg (by omega)]

theorem upd_same {h : Hp} {b : Nat} {r : Row} (hr : h.get b = some r) : ∀ x, (h.upd b r).get x = h.get x := by
  intro x
  rw [Hp.get_upd]
  by_cases hx : x = b
  · subst hx; rw [if_pos rfl, hr]; rfl
  · rw [if_neg hx]

section
variable {C : Cx} {nt : Nat} {env : Env} {h : Hp} {K : Env → Hp → Prop}

theorem one_op {o : Oper} {b : Builtin} {t : TypeId} {x : X} (ho : cookOp o.op = some (.bi b [t] [x])) :
    ∃ ox, o.op = .call { callee := .builtin b, args := #[ox], argTypes := #[t] } ∧ cookX ox = some x := by
  unfold cookOp at ho
  split at ho <;> (try (simp at ho; done)) <;> (try (split at ho <;> simp at ho <;> done))
  case h_23 b' as ts e =>
    obtain ⟨q, hq, e2⟩ := Option.map_eq_some_iff.1 ho
    simp only [I.bi.injEq] at e2
    obtain ⟨rfl, h2, rfl⟩ := e2
    obtain ⟨ts⟩ := ts
    simp only at h2
    subst h2
    obtain ⟨l⟩ := as
    match l, hq with
    | [], hq => simp [cookXs] at hq
    | [p], hq =>
      simp only [cookXs] at hq
      split at hq
      case h_2 => simp at hq
      case h_1 x1 l1 h1 h2 =>
        simp only [Option.some.injEq, List.cons.injEq] at hq
        obtain ⟨rfl, _⟩ := hq
        exact ⟨p, e, h1⟩
    | p :: q :: l, hq =>
      simp only [cookXs] at hq
      split at hq
      case h_2 => simp at hq
      case h_1 x1 l1 h1 h2 =>
        simp only [Option.some.injEq, List.cons.injEq] at hq
        obtain ⟨rfl, rfl⟩ := hq
        split at h2 <;> simp at h2

/-- clear of a part of an own row. -/
theorem TL.clear {k : KO} {ks : List KO} {t e : TypeId} {ei : TI} {x : X} {b off len st sz : Nat} {r : Row} (hi : k.i = .bi .clear [t] [x]) (hg : k.g = none) (hd : k.d = none) (ht : C.kd t = some (.slc e)) (he : C.ty e = some ei)
    (hx : ev env x = (true, .rs b off len st sz)) (hr : h.get b = some r) (hst : st = r.m) (hs : ei.sz = sz) (h1 : allOne h ei.z ei.sz)
    (rest : TL C.P nt ks K env (h.upd b { r with cells := putC r.cells off (len * sz) (rep ei len) })) : TL C.P nt (k :: ks) K env h := by
  refine TL.cons (gc := true) (by rw [hg]; rfl) ?_ (fun e => by simp at e)
  intro o μ a w ho hdst s _ N hN
  rw [hi] at ho
  subst hs hst
  obtain ⟨ox, hop, hcx⟩ := one_op ho
  have vx := ev_ok hcx s.env (by rw [hx])
  rw [hx] at vx
  obtain ⟨_, _, _, hK⟩ := kd_ok ht
  have hexec : ∀ r, (Builtin.clear_ #[t] o.type #[a.eval ox]).run C.P w = r → (execOp a.eval o).run C.P w = r.andThen fun v w' => .ok (.value v) w' := by
    intro r hr
    simp [execOp, hop, resolve, invoke, builtin, hr]
  have none0 : len = 0 → (∃ y cap, a.eval ox = .slice y 0 cap) → o.wp C.P a w N (fun _ _ _ => False) := by
    rintro rfl ⟨y, cap, hy⟩
    have hrun : (Builtin.clear_ #[t] o.type #[a.eval ox]).run C.P w = .ok (.tuple #[]) w := by
      rw [hy]
      cases y <;> simp [Builtin.clear_, run_und hK]
    unfold Oper.wp
    rw [hexec _ hrun]
    simp only [Result.andThen_ok, Oper.upon]
    rw [hdst, hd]
    refine hN μ env _ _ _ ⟨s.sim.getEq ?_, s.env, s.size, s.defers⟩ (Step.refl _ _) rest
    simp only [Nat.zero_mul, putC_none]
    exact upd_same hr
  rcases s.sim.rs (by unfold refOK; rw [hr]) vx with ⟨_, y, _, _, _, hl, _, _, _, hex⟩ | ⟨r', B, cs, cap, hr', _, hB, hL, hex, hcap, hlen, hh, hE, hmE, hcells⟩
  · exact none0 hl ⟨y, 0, hex⟩
  rw [hr] at hr'
  injection hr' with hr'
  subst hr'
  by_cases hl0 : len = 0
  · exact none0 hl0 ⟨_, cap, by rw [hex, hl0]⟩
  have hz := (C.ok e ei he).2.2
  let zs := Builtin.zeroCells ei.zv.cells len
  have hzs : zs.size = len * ei.sz := by simp [zs, Builtin.zeroCells, hz]
  have hzv : ∀ j, j < len * ei.sz → VR μ w (rep ei len j) (zs.getD j undef) := by
    intro j hj
    have hpos : 0 < ei.sz := by
      rcases Nat.eq_zero_or_pos ei.sz with h0 | h0
      · rw [h0] at hj; simp at hj
      · exact h0
    have hlt2 : j % ei.sz < ei.sz := Nat.mod_lt _ hpos
    have : zs.getD j undef = ei.zv.cells.getD (j % ei.sz) undef := by simp [zs, Builtin.zeroCells, Array.getD, hz, hj, hlt2]
    rw [this, rep_at hj]
    exact cAV_ok μ w _
  have hone : ∀ v ∈ zs.toList, v.oneCell' = true := by
    intro v hv
    obtain ⟨j, hj, rfl⟩ := List.getElem_of_mem hv
    simp only [Array.length_toList] at hj
    have hj' : j < len * ei.sz := by omega
    have hpos : 0 < ei.sz := by
      rcases Nat.eq_zero_or_pos ei.sz with h0 | h0
      · rw [h0] at hj'; simp at hj'
      · exact h0
    have := oneA_ok s.sim (hzv j hj') (by rw [rep_at hj']; exact allOne_ok h1 _ (Nat.mod_lt _ hpos))
    simpa [Array.getD, hj] using this
  have hfit : off + zs.toList.length ≤ cs.size := by rw [Array.length_toList, hzs, hE]; omega
  have hst := run_storeCells_at C.P B.g off r.ty zs.toList 0 cs w hh (by simpa using hfit) hone
  let cs' : Array Value := (cs.toList.take off ++ zs.toList ++ cs.toList.drop (off + zs.toList.length)).toArray
  have hrun : (Builtin.clear_ #[t] o.type #[a.eval ox]).run C.P w = .ok (.tuple #[]) (w.setRow B.g cs') := by
    simp only [Nat.add_zero] at hst
    obtain ⟨n, rfl⟩ : ∃ n, len = n + 1 := ⟨len - 1, by omega⟩
    rw [hex]
    simp [Builtin.clear_, run_und hK, Cx.zero he]
    rw [hst]
    rfl
  have hget : ∀ j, cs'[j]? = if off ≤ j ∧ j < off + len * ei.sz then zs[j - off]? else cs[j]? := by
    intro j
    have := seg_get cs.toList zs.toList off j (by simpa using hfit)
    simpa [cs', hzs] using this
  have hsize : cs'.size = cs.size := by simp [cs', hzs]; omega
  obtain ⟨μ', s', st, _, _, hf⟩ := s.sim.turn (w' := w.setRow B.g cs') (r' := { r with cells := putC r.cells off (len * ei.sz) (rep ei len) }) (B' := B) (cs := cs') hr hB (.inl rfl) (by simp; exact (s.sim.lt b B hB).2) (Nat.le_refl _) (fun _ => rfl)
    hL (setRow_heap w B.g cs cs' r.ty (0, 0) hh) (by rw [hsize, hE]) hmE (fun j hj => by
      simp only [putC]
      rw [hget j]
      by_cases hr2 : off ≤ j ∧ j < off + len * ei.sz
      · rw [if_pos hr2, if_pos hr2]
        have hlt : j - off < zs.size := by omega
        refine ⟨zs[j - off], by simp [hlt], ?_⟩
        have := hzv (j - off) (by omega)
        simpa [Array.getD, hlt] using this
      · rw [if_neg hr2, if_neg hr2]
        exact hcells j hj) (fun k' _ hk' => setRow_other w B.g k' cs' hk') (by simp) rfl rfl rfl
  unfold Oper.wp
  rw [hexec _ hrun]
  simp only [Result.andThen_ok, Oper.upon]
  rw [hdst, hd]
  exact hN μ' _ _ _ _ ⟨s', s.env.mono st, s.size, s.defers⟩ st rest
end

/-! ### a row that gets shorter -/
/-- Row b's block goes to a new number, with fewer cells told; what was told of b is told of nothing. -/
theorem Sim.cut {μ : Mu} {h : Hp} {w : World} (s : Sim μ h w) {b m : Nat} {r : Row} (hb : h.get b = some r) (hm : m ≤ r.m) (cells : Nat → AV) (hc : ∀ i, i < m → cells i = r.cells i) :
    ∃ μ', Sim μ' ((μ.nx, ⟨r.ty, m, cells⟩) :: h.del b) w ∧ Step μ w μ' w ∧ μ'.nx = μ.nx + 1 ∧ h.get μ.nx = none ∧
      ((μ.vir b ∧ μ'.vir μ.nx ∧ μ'.f μ.nx = none ∧ r.m = 0) ∨ ∃ B, μ.f b = some B ∧ ¬ μ.vir b ∧ B.L = r.m ∧ ¬ μ'.vir μ.nx ∧ μ'.f μ.nx = some { B with L := m }) ∧ ∀ a v, VR μ w a v → VR μ' w a v := by
  have hnvir : ¬ μ.vir μ.nx := fun hh => Nat.lt_irrefl _ (s.vlt _ hh)
  have hfn : μ.f μ.nx = none := by
    cases hq : μ.f μ.nx with
    | none => rfl
    | some B => have := (s.lt _ B hq).1; omega
  have hgn : h.get μ.nx = none := by
    cases hq : h.get μ.nx with
    | none => rfl
    | some q =>
      rcases s.row _ q hq with ⟨hv, _⟩ | ⟨B, ds, _, h1, _⟩
      · exact (hnvir hv).elim
      have := (s.lt _ B h1).1
      omega
  have hbn : b < μ.nx := by
    rcases s.row b r hb with ⟨hv, _⟩ | ⟨B, ds, _, h1, _⟩
    · exact s.vlt b hv
    · exact (s.lt _ B h1).1
  let μ' : Mu := { f := fun x => if x = μ.nx then (μ.f b).map (fun B => { B with L := m }) else if x = b then none else μ.f x, nx := μ.nx + 1, ban := μ.ban, vir := fun x => (x = μ.nx ∧ μ.vir b) ∨ (x ≠ μ.nx ∧ x ≠ b ∧ μ.vir x) }
  have hf : ∀ x D, μ'.f x = some D → (x = μ.nx ∧ ∃ B, μ.f b = some B ∧ D = { B with L := m }) ∨ (x ≠ μ.nx ∧ x ≠ b ∧ μ.f x = some D) := by
    intro x D e
    simp only [μ'] at e
    by_cases hx : x = μ.nx
    · rw [if_pos hx] at e
      obtain ⟨B, hB, rfl⟩ := Option.map_eq_some_iff.1 e
      exact .inl ⟨hx, B, hB, rfl⟩
    · rw [if_neg hx] at e
      by_cases hxb : x = b
      · rw [if_pos hxb] at e; cases e
      · rw [if_neg hxb] at e; exact .inr ⟨hx, hxb, e⟩
  have hse : ∀ g, Sealed μ w g → Sealed μ' w g := fun g hg => ⟨hg.1, hg.2.1, fun x D e => by
    rcases hf x D e with ⟨_, B, hB, rfl⟩ | ⟨_, _, e⟩
    · exact hg.2.2 b B hB
    · exact hg.2.2 x D e⟩
  have st : Step μ w μ' w := by
    refine ⟨by simp [μ'], fun x hx D e => ?_, fun x hx hv => ?_, fun _ => Iff.rfl, fun _ _ _ => rfl, hse, Nat.le_refl _, rfl, rfl, rfl⟩
    · rcases hf x D e with ⟨rfl, _⟩ | ⟨_, _, e⟩
      · omega
      · exact .inr ⟨D, e, Nat.le_refl _, fun _ => rfl⟩
    · rcases hv with ⟨rfl, _⟩ | ⟨_, _, hv⟩
      · omega
      · exact hv
  have hVR : ∀ a v, VR μ w a v → VR μ' w a v := fun a v => VR.mono st a v
  refine ⟨μ', ⟨fun x q e => ?_, fun x x' D D' e e' hg => ?_, fun x D e => ?_, fun x hx => ?_, fun x D e => ?_, s.banlt⟩, st, rfl, hgn, ?_, hVR⟩
  · simp only [Hp.get] at e
    by_cases hx : μ.nx = x
    · rw [if_pos hx] at e
      injection e with e
      subst e hx
      rcases s.row b r hb with ⟨hv, hn, h0⟩ | ⟨B, cs, hnv, h1, h2, h3, h4, h5, h6⟩
      · exact .inl ⟨.inl ⟨rfl, hv⟩, by simp [μ', hn], by simp only; omega⟩
      · refine .inr ⟨{ B with L := m }, cs, ?_, by simp [μ', h1], rfl, h3, h4, by simp only; omega, fun i hi => ?_⟩
        · rintro (⟨_, hv⟩ | ⟨hne, _⟩)
          · exact hnv hv
          · exact hne rfl
        · obtain ⟨u, hu, hv⟩ := h6 i (by simp only at hi; omega)
          exact ⟨u, hu, by simp only; rw [hc i hi]; exact hVR _ _ hv⟩
    · rw [if_neg hx, Hp.get_del] at e
      by_cases hxb : x = b
      · rw [if_pos hxb] at e; cases e
      · rw [if_neg hxb] at e
        have hx' : ¬ x = μ.nx := fun e => hx e.symm
        rcases s.row x q e with ⟨hv, hn, h0⟩ | ⟨B, cs, hnv, h1, h2, h3, h4, h5, h6⟩
        · exact .inl ⟨.inr ⟨hx', hxb, hv⟩, by simp [μ', hx', hxb, hn], h0⟩
        · refine .inr ⟨B, cs, ?_, by simp [μ', hx', hxb, h1], h2, h3, h4, h5, fun i hi => ?_⟩
          · rintro (⟨hh, _⟩ | ⟨_, _, hv⟩)
            · exact hx' hh
            · exact hnv hv
          · obtain ⟨u, hu, hv⟩ := h6 i hi
            exact ⟨u, hu, hVR _ _ hv⟩
  · rcases hf x D e with ⟨rfl, B, hB, rfl⟩ | ⟨hx, hxb, e1⟩ <;> rcases hf x' D' e' with ⟨rfl, B', hB', rfl⟩ | ⟨hx', hxb', e2⟩
    · rfl
    · exact (hxb' (s.inj b x' B D' hB e2 hg).symm).elim
    · exact (hxb (s.inj x b D B' e1 hB' hg)).elim
    · exact s.inj x x' D D' e1 e2 hg
  · rcases hf x D e with ⟨rfl, B, hB, rfl⟩ | ⟨hx, hxb, e1⟩
    · exact ⟨Nat.lt_succ_self _, (s.lt b B hB).2⟩
    · have := s.lt x D e1; exact ⟨Nat.lt_succ_of_lt this.1, this.2⟩
  · rcases hx with ⟨rfl, _⟩ | ⟨_, _, hv⟩
    · exact Nat.lt_succ_self _
    · exact Nat.lt_succ_of_lt (s.vlt x hv)
  · rcases hf x D e with ⟨rfl, B, hB, rfl⟩ | ⟨hx, hxb, e1⟩
    · exact s.noban b B hB
    · exact s.noban x D e1
  · rcases s.row b r hb with ⟨hv, hn, h0⟩ | ⟨B, cs, hnv, h1, h2, _⟩
    · exact .inl ⟨hv, .inl ⟨rfl, hv⟩, by simp [μ', hn], h0⟩
    · refine .inr ⟨B, h1, hnv, h2, ?_, by simp [μ', h1]⟩
      rintro (⟨_, hv⟩ | ⟨hne, _⟩)
      · exact hnv hv
      · exact hne rfl

section
variable {P : Program} {nt : Nat} {Q : Post} {env : Env} {h : Hp}

/-- A slot's slice is all that is told of its row from here on. -/
theorem TK.cut {c : KC} (t : Nat) {b len sz st : Nat} {r : Row} (hl : lk env t = some (true, .rs b 0 len st sz)) (hb : h.get b = some r) (hst : st = r.m) (hm : len * sz ≤ r.m) (cells : Nat → AV) (hcl : ∀ i, i < len * sz → cells i = r.cells i)
    (k : ∀ b', h.get b' = none → TK P nt c Q (cvE t (.rs b' 0 len (len * sz) sz) env) ((b', ⟨r.ty, len * sz, cells⟩) :: h.del b)) : TK P nt c Q env h := by
  intro c' hc μ a w s
  obtain ⟨μ', s', st', hnx, hgn, hor, hVR⟩ := s.sim.cut hb hm cells hcl
  have hvv := (s.env t true _ hl).1 rfl
  have := k μ.nx hgn c' hc μ' a w ⟨s', fun t' g v' e => ?_, s.size, s.defers⟩
  · refine wp_mono this ?_
    rintro e a' w' ⟨μ2, env2, h2, q, s2, st2⟩
    exact ⟨μ2, env2, h2, q, s2, st'.trans st2⟩
  · rcases cvE_lk hl e with ⟨rfl, rfl, rfl⟩ | ⟨_, h2⟩
    · refine ⟨fun _ => ?_, fun hh => by cases hh⟩
      rcases s.sim.rs (by unfold refOK; rw [hb]; exact hst) hvv with ⟨_, x, _, _, _, hl0, _, hvir, hno, hx⟩ | ⟨r', B, cs, cap, hr', _, hB, hL, hex, hcap, hlen, _⟩
      · rcases hor with ⟨_, hv', hf', _⟩ | ⟨B, hB, hnv, _⟩
        · subst hl0
          exact ⟨by omega, by simp, fun _ => ⟨by simp, rfl, x, hx⟩, fun B e => by rw [hf'] at e; cases e⟩
        · exact (hnv hvir).elim
      · rcases hor with ⟨hv, _⟩ | ⟨B', hB', hnv, hL', hnv', hf'⟩
        · exact (hvv.2.2.1 hv |> fun _ => by
            rcases s.sim.row b r hb with ⟨_, hn, _⟩ | ⟨_, _, hnv, _⟩
            · rw [hn] at hB; cases hB
            · exact (hnv hv).elim)
        · rw [hB] at hB'
          injection hB' with hB'
          subst hB'
          refine ⟨by omega, by omega, fun hh => (hnv' hh).elim, fun D e => ?_⟩
          rw [hf'] at e
          injection e with e
          subst e
          exact ⟨Nat.le_refl _, fun _ => ⟨cap, hex, hcap⟩⟩
    · exact (s.env.mono st') t' g v' h2

/-- nil in an own row, taken as an own row of nothing. -/
theorem TK.ownH {c : KC} (b j : Nat) (ty : TypeId) (sz : Nat) (cells : Nat → AV) {r : Row} (hb : h.get b = some r) (hj : r.cells j = .nils ∨ r.cells j = .z0) (cells' : Nat → Nat → AV)
    (hc' : ∀ b', cells' b' j = .rs b' 0 0 0 sz ∧ ∀ i, i ≠ j → i < r.m → cells' b' i = r.cells i)
    (k : ∀ b', h.get b' = none → TK P nt c Q env ((b', ⟨ty, 0, cells⟩) :: h.upd b { r with cells := cells' b' })) : TK P nt c Q env h := by
  intro c' hc μ a w s
  obtain ⟨μ', s', st, hn, hnx, hf⟩ := s.sim.own ⟨ty, 0, cells⟩ rfl
  have hne : μ.nx ≠ b := by rintro rfl; rw [hb] at hn; cases hn
  have s2 : Sim μ' ((μ.nx, ⟨ty, 0, cells⟩) :: h.upd b { r with cells := cells' μ.nx }) w := by
    refine ⟨fun x q e => ?_, s'.inj, s'.lt, s'.vlt, s'.noban, s'.banlt⟩
    simp only [Hp.get] at e
    by_cases hx : μ.nx = x
    · rw [if_pos hx] at e
      exact s'.row x q (by simp only [Hp.get]; rw [if_pos hx]; exact e)
    · rw [if_neg hx, Hp.get_upd] at e
      by_cases hxb : x = b
      · subst hxb
        rw [if_pos rfl, hb] at e
        simp only [Option.map_some, Option.some.injEq] at e
        subst e
        rcases s'.row x r (by simp only [Hp.get]; rw [if_neg hx]; exact hb) with h1 | ⟨B, cs, hnv, h1, h2, h3, h4, h5, h6⟩
        · exact .inl h1
        · refine .inr ⟨B, cs, hnv, h1, h2, h3, h4, h5, fun i hi => ?_⟩
          obtain ⟨u, hu, hv⟩ := h6 i hi
          refine ⟨u, hu, ?_⟩
          by_cases hij : i = j
          · subst hij
            have hx : ∃ x, u = .slice x 0 0 := by
              rcases hj with hj | hj <;> rw [hj] at hv
              · exact ⟨none, hv⟩
              · exact hv
            simp only [(hc' μ.nx).1]
            exact ⟨by omega, by simp, fun _ => ⟨rfl, rfl, hx⟩, fun B e => by rw [hf] at e; cases e⟩
          · simp only [(hc' μ.nx).2 i hij hi]
            exact hv
      · rw [if_neg hxb] at e
        exact s'.row x q (by simp only [Hp.get]; rw [if_neg hx]; exact e)
  have := k μ.nx hn c' hc μ' a w ⟨s2, s.env.mono st, s.size, s.defers⟩
  refine wp_mono this ?_
  rintro e a' w' ⟨μ2, env2, h2, q, s3, st3⟩
  exact ⟨μ2, env2, h2, q, s3, st.trans st3⟩
end
end Go.AM
