import Derived.Test.YtpipaggkbiapjaaDoorXO
/- Rows taken over inside a region. -/
namespace Go.AX
open Go.AM Go.RowKit

section
variable {P : Program} {nt : Nat} {env : Env} {h : Hp} {K : Env → Hp → Prop} {α : Type} [Enc α]

theorem TL.own0 {ks : List KO} (t : Nat) (ty : TypeId) (sz : Nat) (cells : Nat → AV) {v : AV} (hl : lk env t = some (true, v)) (hv : v = .nils ∨ v = .z0)
    (k : ∀ b, h.get b = none → TL P nt ks K ((t, true, .rs b 0 0 0 sz) :: env) ((b, ⟨ty, 0, cells⟩) :: h)) : TL P nt ks K env h := by
  intro os ho hz μ a w s
  obtain ⟨μ', s', st, hn, hnx, hf⟩ := s.sim.own ⟨ty, 0, cells⟩ rfl
  have hvv := (s.env t true v hl).1 rfl
  have hx : ∃ x, a.tmps.getD t undef = .slice x 0 0 := by
    rcases hv with rfl | rfl
    · exact ⟨none, hvv⟩
    · exact hvv
  have := k μ.nx hn os ho hz μ' a w ⟨s', fun t' g v' e => ?_, s.size, s.defers⟩
  · refine TL.cons.wpK_mono ?_ _ _ _ this
    rintro a' w' ⟨μ2, env2, h2, q, s2, st2⟩
    exact ⟨μ2, env2, h2, q, s2, st.trans st2⟩
  · simp only [lk] at e
    by_cases ht : t = t'
    · rw [if_pos ht] at e
      simp only [Option.some.injEq, Prod.mk.injEq] at e
      obtain ⟨rfl, rfl⟩ := e
      subst ht
      exact ⟨fun _ => ⟨by omega, by simp, fun _ => ⟨rfl, rfl, hx⟩, fun B e => by rw [hf] at e; cases e⟩, fun hh => by cases hh⟩
    · rw [if_neg ht] at e
      exact (s.env.mono st) t' g v' e

theorem TL.ownL {ks : List KO} (t : Nat) (ty : TypeId) {v : AV} (nd : Nd h) (hl : lk env t = some (true, v)) (hv : v = .nils ∨ v = .z0)
    (k : ∀ b, Nd ((b, RL ty ([] : List α)) :: h) → TL P nt ks K ((t, true, OL b ([] : List α)) :: env) ((b, RL ty ([] : List α)) :: h)) : TL P nt ks K env h :=
  TL.own0 t ty (Enc.sz α) (rowL (Enc.sz α) ec ([] : List α)) hl hv fun b hb => by
    have := k b (nd.cons _ hb)
    simpa [OL, RL] using this

theorem TL.ownH {ks : List KO} (b j : Nat) (ty : TypeId) (sz : Nat) (cells : Nat → AV) {r : Row} (hb : h.get b = some r) (hj : r.cells j = .nils ∨ r.cells j = .z0) (cells' : Nat → Nat → AV)
    (hc' : ∀ b', cells' b' j = .rs b' 0 0 0 sz ∧ ∀ i, i ≠ j → i < r.m → cells' b' i = r.cells i)
    (k : ∀ b', h.get b' = none → TL P nt ks K env ((b', ⟨ty, 0, cells⟩) :: h.upd b { r with cells := cells' b' })) : TL P nt ks K env h := by
  intro os ho hz μ a w s
  obtain ⟨μ', s', st, hn, hnx, hf⟩ := s.sim.own ⟨ty, 0, cells⟩ rfl
  have hne : μ.nx ≠ b := by rintro rfl; rw [hb] at hn; cases hn
  have s2 : Sim μ' ((μ.nx, ⟨ty, 0, cells⟩) :: h.upd b { r with cells := cells' μ.nx }) w := by
    refine ⟨fun x q e => ?_, s'.inj, s'.lt, s'.vlt, s'.noban, s'.banlt⟩
    simp only [Hp.get] at e
    by_cases hx : μ.nx = x
    · rw [if_pos hx] at e
      exact s'.row x q (by simp only [Hp.get]; rw [if_pos hx]; exact e)
    · rw [if_neg hx, Hp.get_upd] at e
      by_cases hxb : x = b
      · subst hxb
        rw [if_pos rfl, hb] at e
        simp only [Option.map_some, Option.some.injEq] at e
        subst e
        rcases s'.row x r (by simp only [Hp.get]; rw [if_neg hx]; exact hb) with h1 | ⟨B, cs, hnv, h1, h2, h3, h4, h5, h6⟩
        · exact .inl h1
        · refine .inr ⟨B, cs, hnv, h1, h2, h3, h4, h5, fun i hi => ?_⟩
          obtain ⟨u, hu, hv⟩ := h6 i hi
          refine ⟨u, hu, ?_⟩
          by_cases hij : i = j
          · subst hij
            have hx : ∃ x, u = .slice x 0 0 := by
              rcases hj with hj | hj <;> rw [hj] at hv
              · exact ⟨none, hv⟩
              · exact hv
            simp only [(hc' μ.nx).1]
            exact ⟨by omega, by simp, fun _ => ⟨rfl, rfl, hx⟩, fun B e => by rw [hf] at e; cases e⟩
          · simp only [(hc' μ.nx).2 i hij hi]
            exact hv
      · rw [if_neg hxb] at e
        exact s'.row x q (by simp only [Hp.get]; rw [if_neg hx]; exact e)
  have := k μ.nx hn os ho hz μ' a w ⟨s2, s.env.mono st, s.size, s.defers⟩
  refine TL.cons.wpK_mono ?_ _ _ _ this
  rintro a' w' ⟨μ2, env2, h2, q, s3, st3⟩
  exact ⟨μ2, env2, h2, q, s3, st.trans st3⟩

theorem TL.cut {ks : List KO} (t : Nat) {b len sz st : Nat} {r : Row} (hl : lk env t = some (true, .rs b 0 len st sz)) (hb : h.get b = some r) (hst : st = r.m) (hm : len * sz ≤ r.m) (cells : Nat → AV) (hcl : ∀ i, i < len * sz → cells i = r.cells i)
    (k : ∀ b', h.get b' = none → TL P nt ks K (cvE t (.rs b' 0 len (len * sz) sz) env) ((b', ⟨r.ty, len * sz, cells⟩) :: h.del b)) : TL P nt ks K env h := by
  intro os ho hz μ a w s
  obtain ⟨μ', s', st', hnx, hgn, hor, hVR⟩ := s.sim.cut hb hm cells hcl
  have hvv := (s.env t true _ hl).1 rfl
  have := k μ.nx hgn os ho hz μ' a w ⟨s', fun t' g v' e => ?_, s.size, s.defers⟩
  · refine TL.cons.wpK_mono ?_ _ _ _ this
    rintro a' w' ⟨μ2, env2, h2, q, s2, st2⟩
    exact ⟨μ2, env2, h2, q, s2, st'.trans st2⟩
  · rcases cvE_lk hl e with ⟨rfl, rfl, rfl⟩ | ⟨_, h2⟩
    · refine ⟨fun _ => ?_, fun hh => by cases hh⟩
      rcases s.sim.rs (by unfold refOK; rw [hb]; exact hst) hvv with ⟨_, x, _, _, _, hl0, _, hvir, hno, hx⟩ | ⟨r', B, cs, cap, hr', _, hB, hL, hex, hcap, hlen, _⟩
      · rcases hor with ⟨_, hv', hf', _⟩ | ⟨B, hB, hnv, _⟩
        · subst hl0
          exact ⟨by omega, by simp, fun _ => ⟨by simp, rfl, x, hx⟩, fun B e => by rw [hf'] at e; cases e⟩
        · exact (hnv hvir).elim
      · rcases hor with ⟨hv, _⟩ | ⟨B', hB', hnv, hL', hnv', hf'⟩
        · exact (hvv.2.2.1 hv |> fun _ => by
            rcases s.sim.row b r hb with ⟨_, hn, _⟩ | ⟨_, _, hnv, _⟩
            · rw [hn] at hB; cases hB
            · exact (hnv hv).elim)
        · rw [hB] at hB'
          injection hB' with hB'
          subst hB'
          refine ⟨by omega, by omega, fun hh => (hnv' hh).elim, fun D e => ?_⟩
          rw [hf'] at e
          injection e with e
          subst e
          exact ⟨Nat.le_refl _, fun _ => ⟨cap, hex, hcap⟩⟩
    · exact (s.env.mono st') t' g v' h2

theorem TL.ownC {ks : List KO} (nd : Nd h) {j b : Nat} {ty : TypeId} {l : List AV} (hj : h[j]? = some (b, RV ty l)) (o : Nat) (e : TypeId) (ho : l[o]? = some .nils ∨ l[o]? = some .z0)
    (k : ∀ b', Nd ((b', RL e ([] : List α)) :: h.set j (b, RV ty (l.set o (OL b' ([] : List α))))) → TL P nt ks K env ((b', RL e ([] : List α)) :: h.set j (b, RV ty (l.set o (OL b' ([] : List α)))))) : TL P nt ks K env h := by
  have hr := nd.get hj
  have hlt : o < l.length := by rcases ho with ho | ho <;> exact (List.getElem?_eq_some_iff.1 ho).1
  refine TL.ownH b o e (Enc.sz α) (rowL (Enc.sz α) ec ([] : List α)) hr ?_ (fun b' => ofL (l.set o (.rs b' 0 0 0 (Enc.sz α)))) (fun b' => ⟨?_, fun i hi hm => ?_⟩) fun b' hb' => ?_
  · rcases ho with ho | ho
    · left; simp [RV, ofL, List.getD_eq_getElem?_getD, ho]
    · right; simp [RV, ofL, List.getD_eq_getElem?_getD, ho]
  · simp only [ofL, List.getD_eq_getElem?_getD]
    rw [List.getElem?_set_self hlt]; rfl
  · simp only [RV, ofL, List.getD_eq_getElem?_getD]
    rw [List.getElem?_set_ne (fun e => hi e.symm)]
  · obtain ⟨hu, nd'⟩ := nd.upd (r' := RV ty (l.set o (OL b' ([] : List α)))) hj
    have hb2 : Hp.get (h.set j (b, RV ty (l.set o (OL b' ([] : List α))))) b' = none := by
      rw [← hu, Hp.get_upd]
      by_cases hx : b' = b
      · subst hx; rw [hr] at hb'; cases hb'
      · rw [if_neg hx]; exact hb'
    have := k b' (nd'.cons _ hb2)
    rw [← hu] at this
    have e1 : ({ RV ty l with cells := ofL (l.set o (.rs b' 0 0 0 (Enc.sz α))) } : Row) = RV ty (l.set o (OL b' ([] : List α))) := by
      simp [RV, OL]
    rw [e1]
    have e2 : (⟨e, 0, rowL (Enc.sz α) ec ([] : List α)⟩ : Row) = RL e ([] : List α) := by simp [RL]
    rw [e2]
    exact this

theorem TL.cutX {ks : List KO} (t : Nat) (nd : Nd h) {j b : Nat} {e : TypeId} {xs : List α} {k : Int} (hj : h[j]? = some (b, RL e xs)) (hl : lk env t = some (true, OS b xs 0 k)) (hb : 0 ≤ k ∧ k ≤ xs.length)
    (KK : ∀ b', Nd ((b', RL e (slc xs 0 k)) :: h.eraseIdx j) → TL P nt ks K (cvE t (OL b' (slc xs 0 k)) env) ((b', RL e (slc xs 0 k)) :: h.eraseIdx j)) : TL P nt ks K env h := by
  have hr := nd.get hj
  have hlen : (slc xs 0 k).length = k.toNat := by simp [slc]; omega
  have hfit : k.toNat * Enc.sz α ≤ xs.length * Enc.sz α := Nat.mul_le_mul_right _ (by omega)
  refine TL.cut (len := k.toNat) (sz := Enc.sz α) (st := xs.length * Enc.sz α) t (by rw [hl]; simp [OS]) hr rfl hfit (rowL (Enc.sz α) ec (slc xs 0 k)) (fun i hi => ?_) fun b' hb' => ?_
  · show _ = rowL (Enc.sz α) ec xs i
    rw [rowL_split Enc.pos, rowL_split Enc.pos]
    have hq : i / Enc.sz α < k.toNat := Nat.div_lt_of_lt_mul (by rw [Nat.mul_comm]; exact hi)
    have : (slc xs 0 k)[i / Enc.sz α]? = xs[i / Enc.sz α]? := by
      simp only [slc, Int.toNat_zero, List.drop_zero, Int.sub_zero]
      rw [List.getElem?_take, if_pos hq]
    rw [this]
  · have hsub : ∀ x q, Hp.get ((b', RL e (slc xs 0 k)) :: h.eraseIdx j) x = some q → Hp.get ((b', (⟨(RL e xs).ty, k.toNat * Enc.sz α, rowL (Enc.sz α) ec (slc xs 0 k)⟩ : Row)) :: h.del b) x = some q := by
      intro x q e'
      simp only [Hp.get] at e' ⊢
      by_cases hx : b' = x
      · rw [if_pos hx] at e' ⊢
        rw [← e']
        simp only [RL, hlen]
      · rw [if_neg hx] at e' ⊢
        obtain ⟨h1, h2⟩ := get_erase nd hj e'
        rw [Hp.get_del, if_neg h1]; exact h2
    have hb2 : Hp.get (h.eraseIdx j) b' = none := by
      cases hq : Hp.get (h.eraseIdx j) b' with
      | none => rfl
      | some q => have := (get_erase nd hj hq).2; rw [hb'] at this; cases this
    have := KK b' ((nd.erase j).cons _ hb2)
    have e1 : OL b' (slc xs 0 k) = .rs b' 0 k.toNat (k.toNat * Enc.sz α) (Enc.sz α) := by unfold OL; rw [hlen]
    rw [e1] at this
    exact TL.subH hsub this

end
end Go.AX
