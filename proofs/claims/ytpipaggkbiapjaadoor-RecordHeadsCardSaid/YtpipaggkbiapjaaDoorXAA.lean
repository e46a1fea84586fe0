import Derived.Test.YtpipaggkbiapjaaDoorXV
/- Queues: own lists whose front was cut off. Closures that have own rows. -/
namespace Go.AX
open Go.AM
set_option linter.unusedSectionVars false

/-- An own list behind what was cut off of its front. -/
def OQ {α : Type} [Enc α] (b : Nat) (pre xs : List α) : AV := .rs b (pre.length * Enc.sz α) xs.length ((pre ++ xs).length * Enc.sz α) (Enc.sz α)
section
variable {C : Cx} {P : Program} {nt : Nat} {env : Env} {h : Hp} {K : Env → Hp → Prop} {Q : Post} {gc gx gy : Bool} {t : TypeId} {x y : X} {u : AV} {α β : Type} [Enc α] [Enc β]

theorem OQ_nil {b : Nat} {xs : List α} : OQ b [] xs = OL b xs := by unfold OQ OL; simp
theorem OQ_OS {b : Nat} {pre xs : List α} : OQ b pre xs = OS b (pre ++ xs) (pre.length : Int) ((pre ++ xs).length : Int) := by
  unfold OQ OS
  have : (((pre ++ xs).length : Int) - (pre.length : Int)).toNat = xs.length := by simp; omega
  rw [this, Int.toNat_natCast]
theorem slc_pre {pre xs : List α} : slc (pre ++ xs) (pre.length : Int) ((pre ++ xs).length : Int) = xs := by
  unfold slc
  simp
  rw [List.take_of_length_le (by omega)]
theorem look_OQ (nd : Nd h) {j b : Nat} {ty : TypeId} {pre xs : List α} (hj : h[j]? = some (b, RL ty (pre ++ xs))) : Look1 h (OQ b pre xs) (L xs) := by
  have := look_OS nd (l := (pre.length : Int)) (k := ((pre ++ xs).length : Int)) hj ⟨by omega, by simp only [List.length_append]; omega, by omega⟩
  rw [← OQ_OS, slc_pre] at this
  exact this
theorem getI_pre {pre xs : List α} {i : Int} {a : α} (hi : getI xs i = some a) : getI (pre ++ xs) ((pre.length : Int) + i) = some a := by
  obtain ⟨h1, h2, h3⟩ := getI_in hi
  have e : ((pre.length : Int) + i).toNat = pre.length + i.toNat := by omega
  unfold getI
  rw [if_pos (by omega), e, List.getElem?_append_right (by omega), Nat.add_sub_cancel_left]
  exact h3
theorem p_iaOQ {e : TypeId} {ei : TI} {pre xs : List α} {k : IntKind} {i : Int} {b : Nat} (hk : C.kd t = some (.slc e)) (he : C.ty e = some ei) (hs : ei.sz = Enc.sz α) (hx : ev env x = (gx, OQ b pre xs)) (hy : ev env y = (gy, .int k i))
    (nd : Nd h) {j : Nat} {ty : TypeId} (hj : h[j]? = some (b, RL ty (pre ++ xs)))
    {a : α} (hi : gc = true → getI xs i = some a) (hg : gc = true → gx = true ∧ gy = true := by first | exact fun _ => ⟨rfl, rfl⟩ | simp_all) : PVok C h env (.ia t x y) gc (.ref b (pre.length * Enc.sz α + i.toNat * Enc.sz α) ((pre ++ xs).length * Enc.sz α)) := by
  refine pvE (S := (gx = true ∧ gy = true) ∧ (0 ≤ i ∧ i < xs.length) ∧ refOK h b ((pre ++ xs).length * Enc.sz α)) ?_ fun e => ?_
  · simp only [pv, hx, hy, iaA, hk, he]
    show (AV.ref _ (pre.length * Enc.sz α + i.toNat * ei.sz) _, _) = _
    rw [hs]; rfl
  · obtain ⟨h1, h2, _⟩ := getI_in (hi e)
    exact ⟨hg e, ⟨h1, h2⟩, refOK_of nd hj rfl⟩
theorem p_ldOQ {pre xs : List α} {i : Int} {a : α} {b : Nat} {ti : TI} (d : β) (ht : C.ty t = some ti) (hk : ti.known = true) (hx : ev env x = (gx, .ref b (pre.length * Enc.sz α + i.toNat * Enc.sz α) ((pre ++ xs).length * Enc.sz α))) (nd : Nd h) {j : Nat} {ty : TypeId} (hj : h[j]? = some (b, RL ty (pre ++ xs)))
    (hi : gc = true → getI xs i = some a) (hd : ((Enc.cl a).drop 0).take (Enc.sz β) = Enc.cl d) (ha : ti.isAgg = Enc.agg β) (hs : ti.sz = Enc.sz β) (hg : gc = true → gx = true := by first | exact fun _ => rfl | simp_all) :
    PVok C h env (.ld t x) gc (Enc.v d) := by
  intro e
  have hi' := hi e
  have hii := getI_in hi'
  have hO : AV.ref b (pre.length * Enc.sz α + i.toNat * Enc.sz α) ((pre ++ xs).length * Enc.sz α) = OP b (pre ++ xs) ((pre.length : Int) + i) 0 := by
    unfold OP
    have : ((pre.length : Int) + i).toNat = pre.length + i.toNat := by omega
    rw [this, Nat.add_mul, Nat.add_zero]
  rw [hO] at hx
  exact p_ldO (a := a) (gc := gc) d ht hk hx nd hj (fun e => getI_pre (hi e)) hd ha hs hg e

/-! ### the row is told in front -/
theorem sub_front {j b : Nat} {r r' : Row} (nd : Nd h) (hj : h[j]? = some (b, r)) : ∀ x q, Hp.get ((b, r') :: h.eraseIdx j) x = some q → (h.upd b r').get x = some q := by
  intro x q e
  simp only [Hp.get] at e
  rw [Hp.get_upd]
  by_cases hx : b = x
  · rw [if_pos hx] at e
    rw [if_pos hx.symm, nd.get hj]
    exact e
  · rw [if_neg hx] at e
    rw [if_neg (fun hh => hx hh.symm)]
    exact (get_erase nd hj e).2
theorem nd_front {j b : Nat} {r r' : Row} (nd : Nd h) (hj : h[j]? = some (b, r)) : Nd ((b, r') :: h.eraseIdx j) := by
  refine (nd.erase j).cons _ ?_
  cases hq : Hp.get (h.eraseIdx j) b with
  | none => rfl
  | some q => exact ((get_erase nd hj hq).1 rfl).elim

theorem run_app_roomQ {t t' ty e : TypeId} {i : TypeInfo} (ht : C.P.underlying t = some (.slice e)) (ht' : ∃ d, C.P.underlying t' = some d ∧ ∀ k, d ≠ .int k) (hi : C.P.info? e = some i)
    {w : World} {x : Value} {off sl sc n g : Nat} {cur new : Array Value} (hcur : w.heap[g]? = some (.cells cur e (0, 0)))
    (hl : ∀ w1 : World, (Builtin.lenOf x).run C.P w1 = .ok n w1) (hnew : (Builtin.firstCells i.size n x).run C.P w = .ok new w) (h1 : ∀ v ∈ new.toList, v.oneCell' = true)
    (hroom : sl + n ≤ sc) (hfit : off + sl * i.size + new.size ≤ cur.size) :
    (Builtin.append_ #[t, t'] ty #[.slice (some ⟨g, off, none⟩) sl sc, x]).run C.P w = .ok (.slice (some ⟨g, off, none⟩) (sl + n) sc)
      (w.setRow g (cur.toList.take (off + sl * i.size) ++ new.toList ++ cur.toList.drop (off + sl * i.size + new.toList.length)).toArray) := by
  obtain ⟨d, hd, hdk⟩ := ht'
  have hst := run_storeCells_at C.P g (off + sl * i.size) e new.toList 0 cur w hcur (by simpa using hfit) h1
  simp only [Nat.add_zero] at hst
  simp [Builtin.append_, run_und ht, run_und hd, sizeOf, typeInfo, hi, hl, hroom, hnew, add_at]
  rw [hst]
  simp

/-- append onto a queue. -/
theorem TL.appQ {d b : Nat} {t' e : TypeId} {ei : TI} {pre xs ys : List α} {ks : List KO} (nd : Nd h) (hk : C.kd t = some (.slc e)) (hk' : bytesOK C t') (he : C.ty e = some ei) (hs : ei.sz = Enc.sz α) (hx : ev env x = (true, OQ b pre xs)) {j : Nat} (hj : h[j]? = some (b, RL e (pre ++ xs)))
    (hy : ev env y = (true, u)) (hsrc : Src h u ys) (hby : 0 < ei.by') (hlim : (xs.length + ys.length) * ei.by' ≤ 140737488355328) (hd : Nat.ble (d + 1) nt = true)
    (rest : ∀ b' (pre' : List α), Nd ((b', RL e (pre' ++ (xs ++ ys))) :: h.eraseIdx j) → TL C.P nt ks K ((d, true, OQ b' pre' (xs ++ ys)) :: env) ((b', RL e (pre' ++ (xs ++ ys))) :: h.eraseIdx j)) :
    TL C.P nt (⟨some d, none, .bi .append [t, t'] [x, y]⟩ :: ks) K env h := by
  cases pre with
  | nil =>
    refine TL.appO (xs := xs) nd hk hk' he hs (by rw [← OQ_nil]; exact hx) hj hy hsrc hby hlim hd fun _ => ?_
    have := rest b [] (nd_front nd hj)
    rw [OQ_nil, List.nil_append] at this
    refine TL.subH (fun x q hx => ?_) this
    rw [← (nd.upd (r' := RL e (xs ++ ys)) hj).1]
    exact sub_front nd hj x q hx
  | cons p pr =>
    obtain ⟨pc, S, hsr, hS, h3⟩ := hsrc
    refine TL.cons (gc := true) rfl ?_ (fun e => by simp at e)
    intro o μ a w ho hdst s _ N hN
    obtain ⟨ox, oy, hop, hcx, hcy⟩ := two_ops ho
    have vx := ev_ok hcx s.env (by rw [hx])
    rw [hx] at vx
    have vy := ev_ok hcy s.env (by rw [hy])
    rw [hy] at vy
    have hr := nd.get hj
    generalize hpre : p :: pr = pre at *
    have hpl : 0 < pre.length := by rw [← hpre]; simp
    have hsz : 0 < ei.sz := by rw [hs]; exact Enc.pos
    unfold OQ at vx
    rw [← hs] at vx hsr h3
    have hrm : (RL e (pre ++ xs)).m = pre.length * ei.sz + xs.length * ei.sz := by
      show (pre ++ xs).length * Enc.sz α = _
      rw [hs, List.length_append, Nat.add_mul]
    obtain ⟨hl, new, hns, hnew, hnv⟩ := src_ok (P := C.P) s.sim vy hsr hS
    obtain ⟨_, _, _, hK⟩ := kd_ok hk
    obtain ⟨q, hq, hqs, hqb, hqz⟩ := C.info he
    have hz := (C.ok e ei he).2.2
    have hone : ∀ v ∈ new.toList, v.oneCell' = true := by
      intro v hv
      obtain ⟨k, hk2, rfl⟩ := List.getElem_of_mem hv
      simp only [Array.length_toList] at hk2
      have hk3 : k < ys.length * ei.sz := by omega
      have h1 : oneA h (pc k) := by
        rw [h3 k hk3, hs, rowL_split Enc.pos]
        have hq2 : k / Enc.sz α < ys.length := Nat.div_lt_of_lt_mul (by rw [Nat.mul_comm, ← hs]; exact hk3)
        rw [List.getElem?_eq_getElem hq2]
        have : k % Enc.sz α < (Enc.cl ys[k / Enc.sz α]).length := by rw [Enc.len]; exact Nat.mod_lt _ Enc.pos
        show oneA _ (ec _ _)
        unfold ec ofL
        rw [List.getD_eq_getElem?_getD, List.getElem?_eq_getElem this]
        exact oneA_AV1 (Enc.cell _ _ (List.getElem_mem this))
      have := oneA_ok s.sim (hnv k hk3) h1
      simpa [Array.getD, hk2] using this
    have hbl : xs.length + ys.length ≤ 140737488355328 := Nat.le_trans (Nat.le_mul_of_pos_right _ hby) hlim
    have hexec : ∀ r, (Builtin.append_ #[t, t'] o.type #[a.eval ox, a.eval oy]).run C.P w = r → (execOp a.eval o).run C.P w = r.andThen fun v w' => .ok (.value v) w' := by
      intro r hr
      simp [execOp, hop, resolve, invoke, builtin, hr]
    have hap : appC (rowL ei.sz ec (pre ++ xs)) (pre.length * ei.sz + xs.length * ei.sz) pc (ys.length * ei.sz) = rowL ei.sz ec (pre ++ (xs ++ ys)) := by
      rw [← List.append_assoc]
      exact appC_rowL (sz := ei.sz) (enc := ec) (xs := pre ++ xs) (ys := ys) hsz (by rw [List.length_append, Nat.add_mul]) rfl (fun j hj => by rw [h3 j hj, hs])
    have hRL : ∀ zs : List α, RL e zs = ⟨e, zs.length * ei.sz, rowL ei.sz ec zs⟩ := fun zs => by rw [hs]; rfl
    rcases s.sim.rs (by unfold refOK; rw [hr]; show _ = (pre ++ xs).length * Enc.sz α; rw [hs]) vx with ⟨r', ad, hr', hm0, _⟩ | ⟨r', B, cs, cap, hr', _, hB, hL, hex, hcap, hlen, hh, hE, hmE, hcells⟩
    · exfalso
      rw [hr] at hr'
      injection hr' with hr'
      subst hr'
      rw [hrm] at hm0
      have := Nat.mul_pos hpl hsz
      omega
    rw [hr] at hr'
    injection hr' with hr'
    subst hr'
    rw [hrm] at hL hmE hcells
    have hh : w.heap[B.g]? = some (.cells cs e (0, 0)) := hh
    have hcells : ∀ i, i < pre.length * ei.sz + xs.length * ei.sz → ∃ u, cs[i]? = some u ∧ VR μ w (rowL ei.sz ec (pre ++ xs) i) u := by
      intro i hi
      have := hcells i hi
      rw [hs]
      exact this
    by_cases hroom : xs.length + ys.length ≤ cap
    · -- in place
      have hle : xs.length * ei.sz + new.size ≤ cap * ei.sz := by
        rw [hns, ← Nat.add_mul]
        exact Nat.mul_le_mul_right _ hroom
      have hfit : pre.length * ei.sz + xs.length * q.size + new.size ≤ cs.size := by rw [hqs, hE]; omega
      have hrun := run_app_roomQ (C := C) (ty := o.type) hK hk'.und hq (sc := cap) hh hl (by rw [hqs]; exact hnew w rfl) hone hroom hfit
      rw [hqs] at hrun hfit
      let cs' : Array Value := (cs.toList.take (pre.length * ei.sz + xs.length * ei.sz) ++ new.toList ++ cs.toList.drop (pre.length * ei.sz + xs.length * ei.sz + new.toList.length)).toArray
      have hget : ∀ k, cs'[k]? = if pre.length * ei.sz + xs.length * ei.sz ≤ k ∧ k < pre.length * ei.sz + xs.length * ei.sz + ys.length * ei.sz then new[k - (pre.length * ei.sz + xs.length * ei.sz)]? else cs[k]? := by
        intro k
        have := seg_get cs.toList new.toList (pre.length * ei.sz + xs.length * ei.sz) k (by simpa using hfit)
        simpa [cs', hns] using this
      have hsize : cs'.size = cs.size := by simp [cs']; omega
      have hLE : pre.length * ei.sz + xs.length * ei.sz + ys.length * ei.sz ≤ B.E := by rw [← hE, ← hns]; exact hfit
      obtain ⟨μ', s', st, hnx, hnv', hf⟩ := s.sim.turn (w' := w.setRow B.g cs') (r' := ⟨e, pre.length * ei.sz + xs.length * ei.sz + ys.length * ei.sz, appC (rowL ei.sz ec (pre ++ xs)) (pre.length * ei.sz + xs.length * ei.sz) pc (ys.length * ei.sz)⟩) (B' := ⟨B.g, pre.length * ei.sz + xs.length * ei.sz + ys.length * ei.sz, B.E⟩) (cs := cs') hr hB (.inl rfl) (by simp; exact (s.sim.lt b B hB).2)
        (by rw [hL]; exact Nat.le_add_right _ _) (fun h => by cases B; simp only at h ⊢; rw [h]) rfl (setRow_heap w B.g cs cs' e (0, 0) hh) (by rw [hsize, hE]) hLE (fun k hk2 => by
          simp only [appC]
          rw [hget k]
          by_cases hq1 : k < pre.length * ei.sz + xs.length * ei.sz
          · rw [if_pos hq1, if_neg (by omega)]
            exact hcells k hq1
          · simp only at hk2
            rw [if_neg hq1, if_pos (by omega), if_pos (by omega)]
            have hlt : k - (pre.length * ei.sz + xs.length * ei.sz) < new.size := by omega
            refine ⟨new[k - (pre.length * ei.sz + xs.length * ei.sz)], by simp [hlt], ?_⟩
            have := hnv (k - (pre.length * ei.sz + xs.length * ei.sz)) (by omega)
            simpa [Array.getD, hlt] using this) (fun k' _ hk' => setRow_other w B.g k' cs' hk') (by simp) rfl rfl rfl
      unfold Oper.wp
      rw [← hex] at hrun
      rw [hexec _ hrun]
      simp only [Result.andThen_ok, Oper.upon]
      rw [hdst]
      have hm3 : (pre ++ (xs ++ ys)).length * ei.sz = pre.length * ei.sz + xs.length * ei.sz + ys.length * ei.sz := by rw [List.length_append, List.length_append, Nat.add_mul, Nat.add_mul, Nat.add_assoc]
      refine hN μ' _ _ _ _ (env_put (v := OQ b pre (xs ++ ys)) s st s' (dlt hd) ?_) st ?_
      · unfold OQ
        rw [← hs, hm3, List.length_append]
        refine ⟨by rw [hnx]; exact vx.1, by rw [Nat.add_mul]; omega, fun hh => (hnv' hh).elim, fun B' e' => ?_⟩
        rw [hf] at e'
        injection e' with e'
        subst e'
        exact ⟨Nat.le_refl _, fun _ => ⟨cap, rfl, hcap⟩⟩
      · have hrow : (⟨e, pre.length * ei.sz + xs.length * ei.sz + ys.length * ei.sz, appC (rowL ei.sz ec (pre ++ xs)) (pre.length * ei.sz + xs.length * ei.sz) pc (ys.length * ei.sz)⟩ : Row) = RL e (pre ++ (xs ++ ys)) := by
          rw [hap, hRL, hm3]
        rw [hrow]
        exact TL.subH (sub_front nd hj) (rest b pre (nd_front nd hj))
    · -- a new block
      have hold : ∃ old : Array Value, (Builtin.firstCells q.size xs.length (.slice (some ⟨B.g, pre.length * ei.sz, none⟩) xs.length cap)).run C.P w.drew = .ok old w.drew ∧ old.size = xs.length * ei.sz ∧ ∀ k, k < xs.length * ei.sz → VR μ w (rowL ei.sz ec xs k) (old.getD k undef) := by
        have hexs : ∀ k, ∃ u, k < xs.length * ei.sz → cs[pre.length * ei.sz + k]? = some u ∧ VR μ w (rowL ei.sz ec xs k) u := by
          intro k
          by_cases hk2 : k < xs.length * ei.sz
          · obtain ⟨u, h1, h2⟩ := hcells (pre.length * ei.sz + k) (by omega)
            refine ⟨u, fun _ => ⟨h1, ?_⟩⟩
            have : rowL ei.sz ec (pre ++ xs) (pre.length * ei.sz + k) = rowL ei.sz ec xs k := by
              rw [rowL_split hsz, rowL_split hsz]
              have e1 : (pre.length * ei.sz + k) / ei.sz = pre.length + k / ei.sz := by rw [Nat.add_comm, Nat.add_mul_div_right _ _ hsz, Nat.add_comm]
              have e2 : (pre.length * ei.sz + k) % ei.sz = k % ei.sz := by rw [Nat.add_comm, Nat.add_mul_mod_self_right]
              rw [e1, e2, List.getElem?_append_right (Nat.le_add_right _ _), Nat.add_sub_cancel_left]
            rw [← this]
            exact h2
          · exact ⟨undef, fun hh => absurd hh hk2⟩
        obtain ⟨f, hf⟩ := Classical.axiomOfChoice hexs
        refine ⟨((List.range (xs.length * ei.sz)).map f).toArray, ?_, by simp, fun k hk2 => by simpa [hk2] using (hf k hk2).2⟩
        simp only [Builtin.firstCells]
        rw [hqs]
        refine run_loadCells w.drew _ _ f (fun k hk2 => ?_)
        rw [cell_at]
        have hcs := (hf k hk2).1
        rw [World.cell?_drew]
        simp [World.cell?, hh, hcs]
      obtain ⟨old, ho1, ho2, ho3⟩ := hold
      have hrun := run_app_new (C := C) (ty := o.type) hK hk'.und hq hqz (s := .slice (some ⟨B.g, pre.length * ei.sz, none⟩) xs.length cap) rfl ho1 hl (by rw [hqs]; exact hnew w.drew rfl) (by omega) (by omega) (by rw [hqb]; exact growslice_fits (by omega) hlim)
      let gn := grownCap w (xs.length + ys.length) cap e
      let out : Array Value := old ++ new ++ Builtin.zeroCells ei.zv.cells (gn - (xs.length + ys.length))
      have hsz2 : out.size = gn * ei.sz := grown_size (by rw [ho2, hns, Nat.add_mul]) hz
      have hge : xs.length + ys.length ≤ gn := grownCap_ge w (xs.length + ys.length) cap e
      have hget : ∀ k, k < xs.length * ei.sz + ys.length * ei.sz → out[k]? = if k < xs.length * ei.sz then old[k]? else new[k - xs.length * ei.sz]? := by
        intro k hk2
        simp only [out, Array.append_assoc]
        rw [Array.getElem?_append]
        by_cases h2 : k < xs.length * ei.sz
        · rw [if_pos (by omega), if_pos h2]
        · rw [if_neg (by omega), if_neg h2, Array.getElem?_append, if_pos (by omega), ho2]
      have hLE : xs.length * ei.sz + ys.length * ei.sz ≤ gn * ei.sz := by
        rw [← Nat.add_mul]
        exact Nat.mul_le_mul_right _ hge
      have hcapn : xs.length ≤ cap := by
        have : xs.length * ei.sz ≤ cap * ei.sz := by omega
        exact Nat.le_of_mul_le_mul_right this hsz
      have hn0 : 0 < ys.length * ei.sz := Nat.mul_pos (by omega) hsz
      have s1 := Sim.layd s.sim nd hj
      have st1 : Step μ w (μ.less b) w := Step.less
      obtain ⟨μ2, s2, st2, hgn, hnx2, hf2⟩ := s1.own ⟨e, 0, rowL ei.sz ec ([] : List α)⟩ rfl
      have hv2 : μ2.vir (μ.less b).nx := by
        rcases s2.row (μ.less b).nx _ (by simp only [Hp.get, if_true]; rfl) with ⟨hv, _⟩ | ⟨B2, _, _, hB2, _⟩
        · exact hv
        · rw [hf2] at hB2; cases hB2
      have hm3 : (([] : List α) ++ (xs ++ ys)).length * ei.sz = xs.length * ei.sz + ys.length * ei.sz := by rw [List.nil_append, List.length_append, Nat.add_mul]
      have hap2 : ∀ k, k < xs.length * ei.sz + ys.length * ei.sz → rowL ei.sz ec (xs ++ ys) k = if k < xs.length * ei.sz then rowL ei.sz ec xs k else pc (k - xs.length * ei.sz) := by
        intro k hk2
        have := congrFun (appC_rowL (sz := ei.sz) (enc := ec) (xs := xs) (ys := ys) (m := xs.length * ei.sz) (k := ys.length * ei.sz) hsz rfl rfl (pc := pc) (fun j hj => by rw [h3 j hj, hs])) k
        rw [← this]
        unfold appC
        by_cases h2 : k < xs.length * ei.sz
        · rw [if_pos h2, if_pos h2]
        · rw [if_neg h2, if_neg h2, if_pos hk2]
      obtain ⟨μ', s', st, hnx, hnv', hf⟩ := s2.turnv (w' := w.drew.alloc (.cells out e)) (b := (μ.less b).nx) (r := ⟨e, 0, rowL ei.sz ec ([] : List α)⟩) (r' := RL e (([] : List α) ++ (xs ++ ys))) (cs := out) (by simp [Hp.get]) hv2 (by rw [hRL]; show 0 < _ * _; rw [hm3]; omega) rfl rfl rfl rfl (by rw [hRL, hsz2]; show _ * _ ≤ _; rw [hm3]; exact hLE)
        (fun k hk2 => by
          rw [hRL] at hk2 ⊢
          have hk3 : k < xs.length * ei.sz + ys.length * ei.sz := by rw [← hm3]; exact hk2
          rw [hget k hk3]
          show ∃ u, _ ∧ VR μ2 w (rowL ei.sz ec (xs ++ ys) k) u
          rw [hap2 k hk3]
          by_cases hq1 : k < xs.length * ei.sz
          · rw [if_pos hq1, if_pos hq1]
            have hlt : k < old.size := by omega
            refine ⟨old[k], by simp [hlt], ?_⟩
            have := VR.mono (st1.trans st2) _ _ (ho3 k hq1)
            simpa [Array.getD, hlt] using this
          · rw [if_neg hq1, if_neg hq1]
            have hlt : k - xs.length * ei.sz < new.size := by omega
            refine ⟨new[k - xs.length * ei.sz], by simp [hlt], ?_⟩
            have := VR.mono (st1.trans st2) _ _ (hnv (k - xs.length * ei.sz) (by omega))
            simpa [Array.getD, hlt] using this)
      unfold Oper.wp
      rw [← hex] at hrun
      rw [hexec _ hrun]
      simp only [Result.andThen_ok, Oper.upon]
      rw [hdst]
      have sta := (st1.trans st2).trans st
      have hndn : Nd (((μ.less b).nx, RL e (([] : List α) ++ (xs ++ ys))) :: h.eraseIdx j) := (nd.erase j).cons _ hgn
      have hup : Hp.upd (((μ.less b).nx, (⟨e, 0, rowL ei.sz ec ([] : List α)⟩ : Row)) :: h.eraseIdx j) (μ.less b).nx (RL e (([] : List α) ++ (xs ++ ys))) = ((μ.less b).nx, RL e (([] : List α) ++ (xs ++ ys))) :: h.eraseIdx j := by simp only [Hp.upd, if_true]
      rw [hup] at s'
      refine hN μ' _ _ _ _ (env_put (v := OQ (μ.less b).nx ([] : List α) (xs ++ ys)) s sta s' (dlt hd) ?_) sta (rest _ [] hndn)
      unfold OQ
      rw [← hs, hm3]
      refine ⟨by rw [hnx]; omega, by rw [List.length_append, Nat.add_mul]; simp, fun hh => (hnv' hh).elim, fun B' e' => ?_⟩
      rw [hf] at e'
      injection e' with e'
      subst e'
      refine ⟨by rw [hRL]; show _ ≤ _ * _; rw [hm3]; exact Nat.le_refl _, fun _ => ⟨gn, ?_, by simp [hsz2]⟩⟩
      simp only [List.length_nil, Nat.zero_mul, List.length_append]
      rfl

theorem sli_op {o : Oper} {t : TypeId} {x lo : X} (ho : cookOp o.op = some (.sli t x (some lo) none none)) : ∃ ox ol, o.op = .slice t ox (some ol) none none ∧ cookX ox = some x ∧ cookXo (some ol) = some (some lo) := by
  have nn : ∀ {z : Option Operand}, cookXo z = some none → z = none := by
    intro z hz
    cases z with
    | none => rfl
    | some q =>
      unfold cookXo at hz
      split at hz
      · rename_i hq; cases hq
      · split at hz <;> simp at hz
  unfold cookOp at ho
  split at ho <;> (try (simp at ho; done)) <;> (try (split at ho <;> simp at ho <;> done))
  case h_16 t' x' lo' hi' mx' e =>
    split at ho
    case h_2 => simp at ho
    case h_1 y l' h' m' h1 h2 h3 h4 =>
      simp only [Option.some.injEq, I.sli.injEq] at ho
      obtain ⟨rfl, rfl, rfl, rfl, rfl⟩ := ho
      obtain rfl := nn h3
      obtain rfl := nn h4
      cases lo' with
      | none => simp [cookXo] at h2
      | some q => exact ⟨_, q, e, h1, h2⟩
/-- The front is cut off. -/
theorem TL.sliQ {d b : Nat} {e ty : TypeId} {ei : TI} {pre xs : List α} {lo : X} {l : Int} {ks : List KO} (nd : Nd h) (hk : C.kd t = some (.slc e)) (he : C.ty e = some ei) (hs : ei.sz = Enc.sz α) (hx : ev env x = (true, OQ b pre xs)) {j : Nat} (hj : h[j]? = some (b, RL ty (pre ++ xs)))
    (hlo : boundA env (some lo) 0 = some (true, l)) (hb : 0 ≤ l ∧ l ≤ xs.length ∧ (xs.length : Int) ≤ xs.length) (hd : Nat.ble (d + 1) nt = true)
    (rest : ∀ b' (pre' : List α), Nd ((b', RL ty (pre' ++ slc xs l xs.length)) :: h.eraseIdx j) → TL C.P nt ks K ((d, true, OQ b' pre' (slc xs l xs.length)) :: env) ((b', RL ty (pre' ++ slc xs l xs.length)) :: h.eraseIdx j)) :
    TL C.P nt (⟨some d, none, .sli t x (some lo) none none⟩ :: ks) K env h := by
  obtain ⟨h0, hl, _⟩ := hb
  have hslc : slc xs l xs.length = xs.drop l.toNat := by
    unfold slc
    exact List.take_of_length_le (by rw [List.length_drop]; omega)
  rw [hslc] at rest
  have hsz : 0 < Enc.sz α := Enc.pos
  have hr := nd.get hj
  have hfr : ((pre ++ xs.take l.toNat) ++ xs.drop l.toNat) = pre ++ xs := by rw [List.append_assoc, List.take_append_drop]
  have hrest : TL C.P nt ks K ((d, true, OQ b (pre ++ xs.take l.toNat) (xs.drop l.toNat)) :: env) h := by
    have := rest b (pre ++ xs.take l.toNat)
    rw [hfr] at this
    refine TL.subH (fun x q hx => ?_) (this (nd_front nd hj))
    have := sub_front nd hj x q hx
    rw [(nd.upd hj).1] at this
    obtain ⟨hlt, hgj⟩ := List.getElem?_eq_some_iff.1 hj
    have hset : h.set j (b, RL ty (pre ++ xs)) = h := by rw [← hgj]; exact List.set_getElem_self hlt
    rw [hset] at this
    exact this
  have hOQ : OQ b (pre ++ xs.take l.toNat) (xs.drop l.toNat) = .rs b (pre.length * Enc.sz α + l.toNat * Enc.sz α) ((xs.length : Int) - l).toNat ((pre ++ xs).length * Enc.sz α) (Enc.sz α) := by
    unfold OQ
    rw [hfr, List.length_append, List.length_take, List.length_drop, Nat.min_eq_left (by omega), Nat.add_mul]
    congr 1
    omega
  rw [hOQ] at hrest
  by_cases hor : l = 0 ∨ l < xs.length
  · refine TL.p (C := C) (gc := true) (fun _ => ?_) rfl hd hrest
    have : pv C h env (.sli t x (some lo) none none) = (.rs b (pre.length * Enc.sz α + l.toNat * ei.sz) ((xs.length : Int) - l).toNat ((pre ++ xs).length * Enc.sz α) (Enc.sz α), true = true ∧ (true = true ∧ true = true) ∧ (0 ≤ l ∧ l ≤ (xs.length : Int) ∧ (xs.length : Int) ≤ xs.length) ∧ (l = 0 ∨ l < xs.length) ∧ Enc.sz α = ei.sz ∧ 0 < Enc.sz α ∧ refOK h b ((pre ++ xs).length * Enc.sz α)) := by
      have h2 : boundA env none xs.length = some (true, (xs.length : Int)) := rfl
      simp only [pv, hx, sliA, hk, sliB, OQ, he, hlo, h2]
    rw [this, hs]
    exact ⟨rfl, rfl, ⟨rfl, rfl⟩, ⟨h0, hl, Int.le_refl _⟩, hor, rfl, Enc.pos, refOK_of nd hj rfl⟩
  · have hle : l = xs.length := by omega
    have hlp : 0 < xs.length := by omega
    refine TL.cons (gc := true) rfl ?_ (fun e => by simp at e)
    intro o μ a w ho hdst s _ N hN
    obtain ⟨ox, ol, hop, hcx, hcl⟩ := sli_op ho
    have vx := ev_ok hcx s.env (by rw [hx])
    rw [hx] at vx
    obtain ⟨_, _, _, hK⟩ := kd_ok hk
    have vx : VR μ w (OQ b pre xs) (a.eval ox) := vx
    unfold OQ at vx
    have hrm : (RL ty (pre ++ xs)).m = (pre ++ xs).length * Enc.sz α := rfl
    rcases s.sim.rs (by unfold refOK; rw [hr]; rfl) vx with ⟨r', ad, hr', hm0, _, hl0, _⟩ | ⟨r', B, cs, cap, hr', hst, hB, hL, hex, hcap, hlen, hh, hE, hmE, hcells⟩
    · omega
    rw [hr] at hr'
    injection hr' with hr'
    subst hr'
    have hcapn : xs.length ≤ cap := by
      have h1 : (pre ++ xs).length * Enc.sz α ≤ B.E := hmE
      rw [List.length_append, Nat.add_mul] at h1
      have : xs.length * Enc.sz α ≤ cap * Enc.sz α := by omega
      exact Nat.le_of_mul_le_mul_right this hsz
    have hlo2 : ∃ q, (some ol).map a.eval = some (.int q l) := by
      rcases boundA_ok hcl s.env hlo rfl with ⟨hn, _⟩ | h
      · cases hn
      · exact h
    have hbd := run_sliceBounds (P := C.P) (w := w) (is := true) (len := xs.length) (cap := cap) (lo := (some ol).map a.eval) (hi := none) (l := l) (k := xs.length) (.inr hlo2) (.inl ⟨rfl, rfl⟩) h0 hl (by omega)
    have hrun : (Instr.sliceAt t (.slice (some ⟨B.g, pre.length * Enc.sz α, none⟩) xs.length cap) ((some ol).map a.eval) none none).run C.P w =
        .ok (.slice (some (if cap = l.toNat then ⟨B.g, pre.length * Enc.sz α, none⟩ else (⟨B.g, pre.length * Enc.sz α, none⟩ : Addr).add (l.toNat * ei.sz))) (xs.length - l.toNat) (cap - l.toNat)) w := by
      simp only [Instr.sliceAt, Sem.run_bind, run_und hK, Result.andThen_ok, Instr.slice, hbd, Cx.size he, Sem.run_pure, Int.toNat_natCast]
      split <;> rfl
    have hexec : ∀ v, (Instr.sliceAt t (a.eval ox) ((some ol).map a.eval) none none).run C.P w = .ok v w → (execOp a.eval o).run C.P w = .ok (.value v) w := by
      intro v hv
      simp [execOp, hop]
      have : (Instr.sliceAt t (a.eval ox) (some (a.eval ol)) none none).run C.P w = .ok v w := hv
      rw [this]; rfl
    unfold Oper.wp
    rw [← hex] at hrun
    rw [hexec _ hrun]
    simp only [Oper.upon]
    rw [hdst]
    have hlt : l.toNat = xs.length := by omega
    by_cases hc : cap = l.toNat
    · rw [if_pos hc]
      have s1 := Sim.layd s.sim nd hj
      have st1 : Step μ w (μ.less b) w := Step.less
      obtain ⟨μ2, s2, st2, hgn, hnx2, hf2⟩ := s1.own ⟨ty, 0, rowL (Enc.sz α) ec ([] : List α)⟩ rfl
      have hv2 : μ2.vir (μ.less b).nx := by
        rcases s2.row (μ.less b).nx _ (by simp only [Hp.get, if_true]; rfl) with ⟨hv, _⟩ | ⟨B2, _, _, hB2, _⟩
        · exact hv
        · rw [hf2] at hB2; cases hB2
      have hdrop : xs.drop l.toNat = [] := by rw [hlt]; simp
      rw [hdrop] at rest
      have hrow : (⟨ty, 0, rowL (Enc.sz α) ec ([] : List α)⟩ : Row) = RL ty (([] : List α) ++ []) := by unfold RL; simp
      rw [hrow] at s2
      refine hN μ2 _ _ _ _ (env_put (v := OQ (μ.less b).nx ([] : List α) []) s (st1.trans st2) s2 (dlt hd) ?_) (st1.trans st2) (rest _ [] ((nd.erase j).cons _ hgn))
      unfold OQ
      refine ⟨by omega, by simp, fun _ => ⟨by simp, rfl, some ⟨B.g, pre.length * Enc.sz α, none⟩, ?_⟩, fun B' e' => by rw [hf2] at e'; cases e'⟩
      have e1 : xs.length - l.toNat = 0 := by omega
      have e2 : cap - l.toNat = 0 := by omega
      rw [e1, e2]
    · rw [if_neg hc]
      refine hN μ _ _ _ _ (env_put s (Step.refl _ _) s.sim (dlt hd) ?_) (Step.refl _ _) hrest
      refine ⟨vx.1, ?_, fun hv => ?_, fun B' e' => ?_⟩
      · rw [List.length_append, Nat.add_mul, hlt]
        have : ((xs.length : Int) - l).toNat = 0 := by omega
        rw [this]; omega
      · have := (vx.2.2.1 hv).2.1
        omega
      · rw [hB] at e'
        injection e' with e'
        subst e'
        refine ⟨by rw [hL]; exact Nat.le_refl _, fun _ => ⟨cap - l.toNat, ?_, ?_⟩⟩
        · rw [add_at, hs]
          congr 1
          omega
        · have : l.toNat * Enc.sz α + (cap - l.toNat) * Enc.sz α = cap * Enc.sz α := by
            rw [← Nat.add_mul]
            congr 1
            omega
          omega

/-! ### closures -/
theorem look_fn {f m : Nat} {l l' : List AV} (hm : l.length = m) (hl : LookL h l l') : Look1 h (.fn f m (ofL l)) (.fn f m (ofL l')) := by
  subst hm
  intro μ w c s hv
  obtain ⟨vs, e, hs, hc⟩ := hv
  exact ⟨vs, e, hs, fun i hi => hl.at.2 i hi μ w _ s (hc i hi)⟩
theorem TCX.wk {P : Program} {f : FuncId} {args args' : List AV} {F : Hp} {Q : AV → Hp → Prop} (hw : WkL args args') (hf : TCX P f args' F Q) : TCX P f args F Q := by
  refine ⟨hf.enters, fun μ w cargs s hsz hargs => ?_⟩
  have hl := hw.len
  refine hf.calls μ w cargs s (by omega) fun i hi => ?_
  exact WkL.at hw i μ w _ (hargs i (by omega))

/-- append onto nil, by value. -/
theorem vok_appV {t' e : TypeId} {ei : TI} {ys : List α} (hk : C.kd t = some (.slc e)) (hk' : bytesOK C t') (he : C.ty e = some ei) (hs : ei.sz = Enc.sz α) (hx : ev env x = (true, .nils))
    (hy : ev env y = (true, u)) (hsrc : Src h u ys) (hby : 0 < ei.by') (hlim : ys.length * ei.by' ≤ 140737488355328) : gc = true → VOK C.P nt h env (.bi .append [t, t'] [x, y]) (L ys) := fun _ => by
  obtain ⟨pc, S, h1, h2, h3⟩ := hsrc
  intro o μ a w ho s N hN
  obtain ⟨ox, oy, hop, hcx, hcy⟩ := two_ops ho
  have vx := ev_ok hcx s.env (by rw [hx])
  rw [hx] at vx
  have vx : a.eval ox = .slice none 0 0 := vx
  have vy := ev_ok hcy s.env (by rw [hy])
  rw [hy] at vy
  have hsz : 0 < Enc.sz α := Enc.pos
  obtain ⟨hl, new, hns, hnew, hnv⟩ := src_ok (P := C.P) s.sim vy h1 h2
  obtain ⟨_, _, _, hK⟩ := kd_ok hk
  obtain ⟨q, hq, hqs, hqb, hqz⟩ := C.info he
  have hz := (C.ok e ei he).2.2
  have hexec : ∀ c w', (Builtin.append_ #[t, t'] o.type #[a.eval ox, a.eval oy]).run C.P w = .ok c w' → (execOp a.eval o).run C.P w = .ok (.value c) w' := by
    intro c w' hr
    simp [execOp, hop, resolve, invoke, builtin, hr]
  unfold Oper.wp
  by_cases hn0 : ys.length = 0
  · have hys : ys = [] := List.length_eq_zero_iff.1 hn0
    subst hys
    have hrun := run_app_none (C := C) (ty := o.type) hK hk'.und hq hl (by rw [hqs, hs]; exact hnew w rfl) (by simpa using hns) none
    rw [← vx] at hrun
    rw [hexec _ _ hrun]
    simp only [Oper.upon]
    refine hN _ w ?_ (RowKit.Below.refl _ _)
    rw [vx]
    exact .inl ⟨rfl, by simp, rfl⟩
  · have hbl : ys.length ≤ 140737488355328 := Nat.le_trans (Nat.le_mul_of_pos_right _ hby) hlim
    have hrun := run_app_new (C := C) (ty := o.type) hK hk'.und hq hqz (s := .slice none 0 0) (ad := none) (old := #[]) rfl (by simp [Builtin.firstCells]) hl (by rw [hqs, hs]; exact hnew w.drew rfl) (by omega) (by omega)
      (by rw [hqb, Nat.zero_add]; exact growslice_fits (by omega) hlim)
    simp only [Nat.zero_add] at hrun
    let gn := grownCap w ys.length 0 e
    let out : Array Value := #[] ++ new ++ Builtin.zeroCells ei.zv.cells (gn - ys.length)
    have hsz2 : out.size = gn * ei.sz := grown_size (by simp [hns, hs]) hz
    have hge : ys.length ≤ gn := grownCap_ge w ys.length 0 e
    have hget : ∀ k, k < ys.length * Enc.sz α → out[k]? = new[k]? := by
      intro k hk2
      simp only [out, Array.empty_append]
      rw [Array.getElem?_append, if_pos (by omega)]
    rw [← vx] at hrun
    rw [hexec _ _ hrun]
    simp only [Oper.upon]
    have hb : RowKit.Below w.heap.size w (w.drew.alloc (.cells out e)) := (RowKit.Below.refl _ _).drew.alloc (Nat.le_refl _) _
    have st := Step.of_below s.sim.muok hb
    refine hN _ _ ?_ hb
    refine Or.inr ⟨⟨w.heap.size, 0, none⟩, gn, rfl, hge, fun _ => ⟨rfl, ?_⟩, fun k hk2 => ?_⟩
    · exact ⟨by simp, fun hban => Nat.lt_irrefl _ (s.sim.banlt _ hban), fun b B e hg => Nat.lt_irrefl _ (hg ▸ (s.sim.lt b B e).2)⟩
    · have hlt : k < new.size := by omega
      have hc : (w.drew.alloc (.cells out e)).heap[w.heap.size]? = some (.cells out e (0, 0)) := heap_alloc_new w.drew _
      refine ⟨new.getD k undef, ?_, ?_⟩
      · simp only [World.cell?, Nat.zero_add]
        rw [hc]
        simp only [hget k hk2]
        simp [Array.getD, hlt]
      · have := VR.mono st _ _ (hnv k hk2)
        rw [h3 k hk2] at this
        exact this
theorem Src_OQ (nd : Nd h) {j b : Nat} {ty : TypeId} {pre ys : List α} (hj : h[j]? = some (b, RL ty (pre ++ ys))) : Src h (OQ b pre ys) ys := by
  have := Src_OS nd (l := (pre.length : Int)) (k := ((pre ++ ys).length : Int)) hj ⟨by omega, by simp only [List.length_append]; omega, by omega⟩
  rw [← OQ_OS, slc_pre] at this
  exact this
end
end Go.AX
