import Derived.Test.YtpipaggkbiapjaaDoorXU
/- A list in a struct's row is laid down for good: the struct's cell tells it by value. -/
namespace Go.AX
open Go.AM Go.RowKit

section
variable {P : Program} {nt : Nat} {env : Env} {h : Hp} {K : Env → Hp → Prop} {α : Type} [Enc α]

def FixR (h : Hp) (b : Nat) : List AV → List AV → Prop
  | [], [] => True
  | v :: r, v' :: r' => FixTo h b v v' ∧ FixR h b r r'
  | _, _ => False
theorem FixR.at {b : Nat} : ∀ {l l' : List AV}, FixR h b l l' → l'.length = l.length ∧ ∀ i : Nat, FixTo h b (ofL l i) (ofL l' i)
  | [], [], _ => ⟨rfl, fun i => fix_id _⟩
  | v :: r, v' :: r', hh => by
    obtain ⟨h1, h2⟩ := FixR.at hh.2
    refine ⟨by simp [h1], fun i => ?_⟩
    cases i with
    | zero => exact hh.1
    | succ i => exact h2 i

theorem Sim.layR {μ : Mu} {w : World} (s : Sim μ h w) (nd : Nd h) {j b : Nat} {r : Row} (hj : h[j]? = some (b, r)) {j2 b2 : Nat} {ty : TypeId} {l l' : List AV} (hj2 : h[j2]? = some (b2, RV ty l)) (hb : b2 ≠ b) (hf : FixR h b l l') :
    Sim (μ.less b) ((h.set j2 (b2, RV ty l')).eraseIdx j) w := by
  have S1 := Sim.layd s nd hj
  obtain ⟨hu, nd'⟩ := nd.upd (r' := RV ty l') hj2
  have hr := nd.get hj2
  have hlen := hf.at.1
  have hjne : j ≠ j2 := by rintro rfl; rw [hj] at hj2; injection hj2 with e; injection e with e1 _; exact hb e1.symm
  have hj' : (h.set j2 (b2, RV ty l'))[j]? = some (b, r) := by rw [List.getElem?_set_ne (fun e => hjne e.symm)]; exact hj
  refine ⟨fun x q e => ?_, S1.inj, S1.lt, S1.vlt, S1.noban, S1.banlt⟩
  obtain ⟨h1, h2⟩ := get_erase nd' hj' e
  rw [← hu, Hp.get_upd] at h2
  by_cases hx : x = b2
  · subst hx
    rw [if_pos rfl, hr] at h2
    simp only [Option.map_some, Option.some.injEq] at h2
    subst h2
    rcases s.row x _ hr with ⟨hv, hn, h0⟩ | ⟨B, cs, hnv, q1, q2, q3, q4, q5, q6⟩
    · exact .inl ⟨by simpa [Mu.less, h1] using hv, by simpa [Mu.less, h1] using hn, by simp only [RV] at h0 ⊢; omega⟩
    · refine .inr ⟨B, cs, by simpa [Mu.less, h1] using hnv, by simpa [Mu.less, h1] using q1, by simp only [RV] at q2 ⊢; omega, q3, q4, by simp only [RV] at q5 ⊢; omega, fun i hi => ?_⟩
      obtain ⟨u, hu', hv⟩ := q6 i (by simp only [RV] at hi ⊢; omega)
      exact ⟨u, hu', hf.at.2 i μ w u s hv⟩
  · rw [if_neg hx] at h2
    exact (s.less (b := b)).row x q (by rw [Hp.get_del, if_neg h1]; exact h2)

theorem TL.layR {ks : List KO} (l : List (Nat × AV)) (nd : Nd h) {j b : Nat} {r : Row} (hj : h[j]? = some (b, r)) (j2 : Nat) {b2 : Nat} {ty : TypeId} {l2 l2' : List AV} (hj2 : h[j2]? = some (b2, RV ty l2)) (hne : Nat.beq j j2 = false) (hf : FixR h b l2 l2') (hl : SealL env h b l)
    (k : Nd ((h.set j2 (b2, RV ty l2')).eraseIdx j) → TL P nt ks K (cvs l env) ((h.set j2 (b2, RV ty l2')).eraseIdx j)) : TL P nt ks K env h := by
  obtain ⟨_, nd'⟩ := nd.upd (r' := RV ty l2') hj2
  have hb : b2 ≠ b := by
    rintro rfl
    obtain rfl := nd.inj hj hj2
    simp at hne
  intro os ho hz μ a w s
  refine TL.cons.wpK_mono ?_ _ _ _ (k (nd'.erase j) os ho hz (μ.less b) a w ⟨Sim.layR s.sim nd hj hj2 hb hf, seal_env s.sim s.env hl, s.size, s.defers⟩)
  rintro a' w' ⟨μ2, env2, h2, q, s2, st2⟩
  exact ⟨μ2, env2, h2, q, s2, Step.less.trans st2⟩
theorem TK.layR {Q : Post} {c : KC} (l : List (Nat × AV)) (nd : Nd h) {j b : Nat} {r : Row} (hj : h[j]? = some (b, r)) (j2 : Nat) {b2 : Nat} {ty : TypeId} {l2 l2' : List AV} (hj2 : h[j2]? = some (b2, RV ty l2)) (hne : Nat.beq j j2 = false) (hf : FixR h b l2 l2') (hl : SealL env h b l)
    (k : Nd ((h.set j2 (b2, RV ty l2')).eraseIdx j) → TK P nt c Q (cvs l env) ((h.set j2 (b2, RV ty l2')).eraseIdx j)) : TK P nt c Q env h := by
  obtain ⟨_, nd'⟩ := nd.upd (r' := RV ty l2') hj2
  have hb : b2 ≠ b := by
    rintro rfl
    obtain rfl := nd.inj hj hj2
    simp at hne
  intro c' hc μ a w s
  refine wp_mono (k (nd'.erase j) c' hc (μ.less b) a w ⟨Sim.layR s.sim nd hj hj2 hb hf, seal_env s.sim s.env hl, s.size, s.defers⟩) ?_
  rintro e a' w' ⟨μ2, env2, h2, q, s2, st2⟩
  exact ⟨μ2, env2, h2, q, s2, Step.less.trans st2⟩

theorem vok_cap0 {C : Cx} {t e : TypeId} {x : X} {v : AV} {gc gx : Bool} (hk : C.kd t = some (.slc e)) (hx : ev env x = (gx, v)) (hv : v = .nils ∨ v = .z0) (hg : gc = true → gx = true := by first | exact fun _ => rfl | simp_all) :
    gc = true → VOK C.P nt h env (.bi .cap [t] [x]) (.int .i64 0) := fun hgc => by
  intro o μ a w ho sa N hN
  obtain ⟨ox, hop, hcx⟩ := one_op ho
  have vx := ev_ok hcx sa.env (by rw [hx]; exact hg hgc)
  rw [hx] at vx
  have hxx : ∃ p, a.eval ox = .slice p 0 0 := by
    rcases hv with rfl | rfl
    · exact ⟨none, vx⟩
    · exact vx
  obtain ⟨p, hp⟩ := hxx
  obtain ⟨_, _, _, hK⟩ := kd_ok hk
  unfold Oper.wp
  have : (execOp a.eval o).run C.P w = .ok (.value (.int .i64 0)) w := by
    simp [execOp, hop, resolve, invoke, builtin, Builtin.cap_, run_und hK, hp]
    rfl
  rw [this]
  exact hN _ w rfl (Below.refl _ _)

theorem p_sliN {C : Cx} {t e : TypeId} {ei : TI} {x : X} {lo hi : Option X} {gc gx g1 g2 : Bool} (hk : C.kd t = some (.slc e)) (he : C.ty e = some ei) (hx : ev env x = (gx, .nils)) (h1 : boundA env lo 0 = some (g1, 0)) (h2 : boundA env hi 0 = some (g2, 0))
    (hg : gc = true → gx = true ∧ g1 = true ∧ g2 = true := by first | exact fun _ => ⟨rfl, rfl, rfl⟩ | simp_all) : PVok C h env (.sli t x lo hi none) gc .nils := fun ee => by
  obtain ⟨a1, a2, a3⟩ := hg ee
  have : sliB C h env (some (.slc e)) .nils lo hi = (.nils, ((g1 = true ∧ g2 = true) ∧ (0 : Int) = 0 ∧ (0 : Int) = 0) ∧ (C.ty e).isSome = true) := by simp only [sliB, h1, h2]
  simp only [pv, hx, sliA, hk, this]
  exact ⟨trivial, a1, ⟨⟨a2, a3⟩, trivial, trivial⟩, by rw [he]; rfl⟩

theorem p_lenN {C : Cx} {t e : TypeId} {x : X} {gc gx : Bool} (hk : C.kd t = some (.slc e)) (hx : ev env x = (gx, .nils)) (hg : gc = true → gx = true := by first | exact fun _ => rfl | simp_all) : PVok C h env (.bi .len [t] [x]) gc (.int .i64 0) := fun ee => by
  have h1 : lenT C t .nils := by simp [lenT, hk]
  simp only [pv, hx]
  exact ⟨rfl, ⟨hg ee, h1⟩, trivial⟩
end
end Go.AX
