import Derived.Test.YtpipaggkbiapjaaDoorAmL
/- Own rows laid down for good; calls that look at own rows; the runner; lists in rows. -/
namespace Go.AM
open Go.RowKit

/-- Nothing of row b in it. -/
def nob (b : Nat) : AV → Prop
  | .junk => True
  | .bool _ => True
  | .int _ _ => True
  | .str _ => True
  | .nilp => True
  | .ref b' _ _ => b' ≠ b
  | .vref cells m _ => ∀ i, i < m → nob b (cells i)
  | .nils => True
  | .sl cells m _ => ∀ i, i < m → nob b (cells i)
  | .rs b' _ _ _ _ => b' ≠ b
  | .agg m cs => ∀ i, i < m → nob b (cs i)
  | .tup m cs => ∀ i, i < m → nob b (cs i)
  | .fn _ m cs => ∀ i, i < m → nob b (cs i)
  | .nilf => True
  | .z0 => True

theorem AV.val.nob {b : Nat} : ∀ {a : AV}, a.val → nob b a := by
  intro a
  induction a with
  | ref => exact fun h => h.elim
  | rs => exact fun h => h.elim
  | vref cells m off ih => exact fun h i hi => ih i (h i hi)
  | sl cells m n ih => exact fun h i hi => ih i (h i hi)
  | agg m cs ih => exact fun h i hi => ih i (h i hi)
  | tup m cs ih => exact fun h i hi => ih i (h i hi)
  | fn f m cs ih => exact fun h i hi => ih i (h i hi)
  | _ => exact fun _ => trivial

/-- Without row b. -/
def Mu.less (μ : Mu) (b : Nat) : Mu := { f := fun x => if x = b then none else μ.f x, nx := μ.nx, ban := μ.ban, vir := fun x => x ≠ b ∧ μ.vir x }

theorem Mu.less_f {μ : Mu} {b x : Nat} {B : Blk} (h : (μ.less b).f x = some B) : x ≠ b ∧ μ.f x = some B := by
  simp only [Mu.less] at h
  by_cases hx : x = b
  · rw [if_pos hx] at h; cases h
  · rw [if_neg hx] at h; exact ⟨hx, h⟩

theorem Sealed.less {μ : Mu} {w : World} {g b : Nat} (h : Sealed μ w g) : Sealed (μ.less b) w g := ⟨h.1, h.2.1, fun _ _ e => h.2.2 _ _ (Mu.less_f e).2⟩

theorem VR.less {μ : Mu} {w : World} {b : Nat} : ∀ (a : AV) (v : Value), nob b a → VR μ w a v → VR (μ.less b) w a v := by
  intro a
  induction a with
  | junk => intro v _ hv; trivial
  | bool b => intro v _ hv; exact hv
  | int k n => intro v _ hv; exact hv
  | str s => intro v _ hv; exact hv
  | nilp => intro v _ hv; exact hv
  | nils => intro v _ hv; exact hv
  | nilf => intro v _ hv; exact hv
  | z0 => intro v _ hv; exact hv
  | ref b' off st =>
    rintro v hb ⟨h1, h2, h3⟩
    exact ⟨h1, fun hh => h2 hh.2, fun B e => h3 B (Mu.less_f e).2⟩
  | rs b' off len st sz =>
    rintro v hb ⟨h1, h2, h3, h4⟩
    exact ⟨h1, h2, fun hh => h3 hh.2, fun B e => h4 B (Mu.less_f e).2⟩
  | vref cells m off ih =>
    rintro v hval ⟨g, o, e, hs, hc⟩
    refine ⟨g, o, e, hs.less, fun i hi => ?_⟩
    obtain ⟨u, hu, hv⟩ := hc i hi
    exact ⟨u, hu, ih i u (hval i hi) hv⟩
  | sl cells m n ih =>
    rintro v hval (h0 | ⟨a, cap, e, hn, hs, hc⟩)
    · exact .inl h0
    refine .inr ⟨a, cap, e, hn, fun hm => ⟨(hs hm).1, (hs hm).2.less⟩, fun i hi => ?_⟩
    obtain ⟨u, hu, hv⟩ := hc i hi
    exact ⟨u, hu, ih i u (hval i hi) hv⟩
  | agg m cs ih =>
    rintro v hval ⟨vs, e, hm, hc⟩
    exact ⟨vs, e, hm, fun i hi => ih i _ (hval i hi) (hc i hi)⟩
  | tup m cs ih =>
    rintro v hval ⟨vs, e, hm, hc⟩
    exact ⟨vs, e, hm, fun i hi => ih i _ (hval i hi) (hc i hi)⟩
  | fn f m cs ih =>
    rintro v hval ⟨vs, e, hm, hc⟩
    exact ⟨vs, e, hm, fun i hi => ih i _ (hval i hi) (hc i hi)⟩

theorem Step.less {μ : Mu} {w : World} {b : Nat} : Step μ w (μ.less b) w :=
  ⟨Nat.le_refl _, fun _ _ B h => .inr ⟨B, (Mu.less_f h).2, Nat.le_refl _, fun _ => rfl⟩, fun _ _ h => h.2, fun _ => Iff.rfl, fun _ _ _ => rfl, fun _ h => h.less, Nat.le_refl _, rfl, rfl, rfl⟩

def Hp.del : Hp → Nat → Hp
  | [], _ => []
  | (x, q) :: h, b => if x = b then Hp.del h b else (x, q) :: Hp.del h b

theorem Hp.get_del : ∀ (h : Hp) (b x : Nat), (h.del b).get x = if x = b then none else h.get x
  | [], b, x => by simp [Hp.del, Hp.get]
  | (y, q) :: h, b, x => by
    have ih := Hp.get_del h b x
    by_cases hy : y = b
    · subst hy
      simp only [Hp.del, if_true, ih, Hp.get]
      by_cases hx : x = y
      · rw [if_pos hx, if_pos hx]
      · rw [if_neg hx, if_neg hx, if_neg (fun e => hx e.symm)]
    · simp only [Hp.del, if_neg hy, Hp.get, ih]
      by_cases hx : x = b
      · subst hx; rw [if_pos rfl, if_neg hy, if_pos rfl]
      · simp [hx]

theorem Sim.less {μ : Mu} {h : Hp} {w : World} (s : Sim μ h w) {b : Nat} : Sim (μ.less b) (h.del b) w where
  row := fun x r e => by
    rw [Hp.get_del] at e
    by_cases hx : x = b
    · rw [if_pos hx] at e; cases e
    · rw [if_neg hx] at e
      rcases s.row x r e with ⟨h1, h2, h3⟩ | ⟨B, cs, h0, h1, h2, h3, h4, h5, h6⟩
      · exact .inl ⟨⟨hx, h1⟩, by simp only [Mu.less]; rw [if_neg hx]; exact h2, h3⟩
      · refine .inr ⟨B, cs, fun hh => h0 hh.2, by simp only [Mu.less]; rw [if_neg hx]; exact h1, h2, h3, h4, h5, fun i hi => ?_⟩
        obtain ⟨u, hu, hv⟩ := h6 i hi
        exact ⟨u, hu, VR.mono Step.less _ _ hv⟩
  inj := fun x x' B B' e e' hg => s.inj x x' B B' (Mu.less_f e).2 (Mu.less_f e').2 hg
  lt := fun x B e => s.lt x B (Mu.less_f e).2
  vlt := fun x hx => s.vlt x hx.2
  noban := fun x B e => s.noban x B (Mu.less_f e).2
  banlt := s.banlt

/-- An own row that is laid down: its slices and pointers by value. -/
def fixV (b : Nat) (r : Row) : AV → AV
  | .rs b' off len st sz => if b' = b then (if st = r.m ∧ 0 < sz then CS sz r.cells off len else .junk) else .rs b' off len st sz
  | .ref b' off st => if b' = b then (if st = r.m then .vref r.cells r.m off else .junk) else .ref b' off st
  | v => v

def fixOK (b : Nat) : AV → Prop
  | .rs _ _ _ _ _ => True
  | .ref _ _ _ => True
  | v => nob b v

theorem fixV_ok {μ : Mu} {h : Hp} {w : World} (s : Sim μ h w) {b : Nat} {r : Row} (hb : h.get b = some r) {a : AV} {v : Value} (hv : VR μ w a v) :
    VR (μ.less b) w (fixV b r a) v := by
  have laid' : ∀ B, μ.f b = some B → Sealed (μ.less b) w B.g := fun B e =>
    ⟨(s.lt b B e).2, s.noban b B e, fun x B' e' hg => (Mu.less_f e').1 (s.inj x b B' B (Mu.less_f e').2 e hg)⟩
  cases a with
  | rs b' off len st sz =>
    simp only [fixV]
    by_cases hbb : b' = b
    · subst hbb
      rw [if_pos rfl]
      by_cases hc : st = r.m ∧ 0 < sz
      · rw [if_pos hc]
        rcases s.rs (by unfold refOK; rw [hb]; exact hc.1) hv with ⟨_, x, _, _, _, rfl, _, _, _, rfl⟩ | ⟨r', B, cs, cap, hg, hst, hB, hL, rfl, hcap, hlen, hh, hE, hmE, hcells⟩
        · cases x with
          | none => exact .inl ⟨rfl, by simp, rfl⟩
          | some x => exact .inr ⟨x, 0, rfl, Nat.le_refl _, fun hm => by simp at hm, fun i hi => by simp at hi⟩
        · rw [hb] at hg
          injection hg with hg
          subst hg
          refine .inr ⟨_, cap, rfl, ?_, fun _ => ⟨rfl, laid' B hB⟩, fun i hi => ?_⟩
          · have : off + len * sz ≤ off + cap * sz := by omega
            exact Nat.le_of_mul_le_mul_right (Nat.le_of_add_le_add_left this) hc.2
          · obtain ⟨u, hu, hv⟩ := hcells (off + i) (by omega)
            exact ⟨u, by simp [World.cell?, hh, hu], by rw [cutM_at hi]; exact VR.mono Step.less _ _ hv⟩
      · rw [if_neg hc]; trivial
    · rw [if_neg hbb]
      exact VR.mono Step.less _ _ hv
  | ref b' off st =>
    simp only [fixV]
    by_cases hbb : b' = b
    · subst hbb
      rw [if_pos rfl]
      by_cases hc : st = r.m
      · rw [if_pos hc]
        obtain ⟨r', B, cs, hg, hst, hB, hL, rfl, hh, hE, hmE, hcells⟩ := s.ref (by unfold refOK; rw [hb]; exact hc) hv
        rw [hb] at hg
        injection hg with hg
        subst hg
        refine ⟨B.g, 0, by simp, laid' B hB, fun i hi => ?_⟩
        obtain ⟨u, hu, hv⟩ := hcells i hi
        exact ⟨u, by simp [World.cell?, hh, hu], VR.mono Step.less _ _ hv⟩
      · rw [if_neg hc]; trivial
    · rw [if_neg hbb]
      exact VR.mono Step.less _ _ hv
  | _ => exact VR.mono Step.less _ _ hv

def fixE (b : Nat) (r : Row) : Env → Env
  | [] => []
  | (t, g, v) :: e => (t, g, fixV b r v) :: fixE b r e
def fixOKE (b : Nat) : Env → Prop
  | [] => True
  | (_, _, v) :: e => fixOK b v ∧ fixOKE b e

theorem fixE_lk {b : Nat} {r : Row} : ∀ {e : Env} {t : Nat} {g : Bool} {v : AV}, lk (fixE b r e) t = some (g, v) → ∃ v0, lk e t = some (g, v0) ∧ v = fixV b r v0
  | [], t, g, v, h => by simp [fixE, lk] at h
  | (t', g', v') :: e, t, g, v, h => by
    simp only [fixE, lk] at h
    simp only [lk]
    by_cases ht : t' = t
    · rw [if_pos ht] at h
      simp only [Option.some.injEq, Prod.mk.injEq] at h
      obtain ⟨rfl, rfl⟩ := h
      exact ⟨v', by rw [if_pos ht], rfl⟩
    · rw [if_neg ht] at h
      rw [if_neg ht]
      exact fixE_lk h

/-- Other rows do not lead to b. -/
def freeH (b : Nat) : Hp → Prop
  | [] => True
  | (x, r) :: h => (x ≠ b → ∀ i, i < r.m → nob b (r.cells i)) ∧ freeH b h
theorem freeH_ok {b : Nat} : ∀ {h : Hp}, freeH b h → ∀ x r, h.get x = some r → x ≠ b → ∀ i, i < r.m → nob b (r.cells i)
  | [], _, x, r, e => by simp [Hp.get] at e
  | (y, q) :: h, hf, x, r, e => by
    simp only [Hp.get] at e
    by_cases hy : y = x
    · rw [if_pos hy] at e; injection e with e; subst e hy; exact hf.1
    · rw [if_neg hy] at e; exact freeH_ok hf.2 x r e

section
variable {P : Program} {nt : Nat} {Q : Post} {env : Env} {h : Hp}

/-- AN OWN ROW IS LAID DOWN FOR GOOD. -/
theorem TK.fix0 {c : KC} (b : Nat) {r : Row} (hb : h.get b = some r) (k : TK P nt c Q (fixE b r env) (h.del b)) : TK P nt c Q env h := by
  intro c' hc μ a w s
  have := k c' hc (μ.less b) a w ⟨s.sim.less, fun t g v e => ?_, s.size, s.defers⟩
  · refine wp_mono this ?_
    rintro e a' w' ⟨μ2, env2, h2, q, s2, st2⟩
    exact ⟨μ2, env2, h2, q, s2, Step.less.trans st2⟩
  · obtain ⟨v0, h1, rfl⟩ := fixE_lk e
    exact ⟨fun hg => fixV_ok s.sim hb ((s.env t g v0 h1).1 hg), (s.env t g v0 h1).2⟩

theorem TK.fix {c : KC} (b : Nat) {r : Row} (hb : h.get b = some r) (_ : ∀ i, i < r.m → nob b (r.cells i)) (_ : freeH b h) (_ : fixOKE b env)
    (k : TK P nt c Q (fixE b r env) (h.del b)) : TK P nt c Q env h := TK.fix0 b hb k

theorem TL.fix0 {ks : List KO} {K : Env → Hp → Prop} (b : Nat) {r : Row} (hb : h.get b = some r) (k : TL P nt ks K (fixE b r env) (h.del b)) : TL P nt ks K env h := by
  intro os hl hz μ a w s
  have := k os hl hz (μ.less b) a w ⟨s.sim.less, fun t g v e => ?_, s.size, s.defers⟩
  · refine TL.cons.wpK_mono ?_ _ _ _ this
    rintro a' w' ⟨μ2, env2, h2, q, s2, st2⟩
    exact ⟨μ2, env2, h2, q, s2, Step.less.trans st2⟩
  · obtain ⟨v0, h1, rfl⟩ := fixE_lk e
    exact ⟨fun hg => fixV_ok s.sim hb ((s.env t g v0 h1).1 hg), (s.env t g v0 h1).2⟩

/-- What lies in memory has no part in it. -/
def AV.closed : AV → Prop
  | .junk => True
  | .bool _ => True
  | .int _ _ => True
  | .str _ => True
  | .nilp => True
  | .ref _ _ _ => False
  | .vref _ _ _ => False
  | .nils => True
  | .sl _ m _ => m = 0
  | .rs _ _ _ _ _ => False
  | .agg m cs => ∀ i, i < m → (cs i).closed
  | .tup m cs => ∀ i, i < m → (cs i).closed
  | .fn _ m cs => ∀ i, i < m → (cs i).closed
  | .nilf => True
  | .z0 => True

theorem VR.closed {μ μ' : Mu} {w : World} : ∀ (a : AV) (v : Value), a.closed → VR μ w a v → VR μ' w a v := by
  intro a
  induction a with
  | junk => intro v _ hv; trivial
  | bool b => intro v _ hv; exact hv
  | int k n => intro v _ hv; exact hv
  | str s => intro v _ hv; exact hv
  | nilp => intro v _ hv; exact hv
  | nils => intro v _ hv; exact hv
  | nilf => intro v _ hv; exact hv
  | z0 => intro v _ hv; exact hv
  | ref => intro v h _; exact h.elim
  | rs => intro v h _; exact h.elim
  | vref => intro v h _; exact h.elim
  | sl cells m n ih =>
    rintro v hm (h0 | ⟨a, cap, e, hn, hs, hc⟩)
    · exact .inl h0
    · have hm' : m = 0 := hm
      subst hm'
      exact .inr ⟨a, cap, e, hn, fun h => by omega, fun i hi => by omega⟩
  | agg m cs ih =>
    rintro v hval ⟨vs, e, hm, hc⟩
    exact ⟨vs, e, hm, fun i hi => ih i _ (hval i hi) (hc i hi)⟩
  | tup m cs ih =>
    rintro v hval ⟨vs, e, hm, hc⟩
    exact ⟨vs, e, hm, fun i hi => ih i _ (hval i hi) (hc i hi)⟩
  | fn f m cs ih =>
    rintro v hval ⟨vs, e, hm, hc⟩
    exact ⟨vs, e, hm, fun i hi => ih i _ (hval i hi) (hc i hi)⟩

/-- An own row looked at by value. -/
def lookV (h : Hp) : AV → AV × Prop
  | .rs b off len st sz => match h.get b with
    | some r => (CS sz r.cells off len, (st = r.m ∧ 0 < sz) ∧ ∀ i, i < r.m → (r.cells i).val)
    | none => (.junk, False)
  | .ref b off st => match h.get b with
    | some r => (.vref r.cells r.m off, st = r.m ∧ ∀ i, i < r.m → (r.cells i).val)
    | none => (.junk, False)
  | v => (v, v.val)

/-- All rows seen as laid down. -/
def Mu.flat (μ : Mu) : Mu := { f := fun _ => none, nx := μ.nx, ban := μ.ban, vir := fun _ => False }

theorem Sealed.flat {μ : Mu} {w : World} {g : Nat} (h : Sealed μ w g) : Sealed μ.flat w g := ⟨h.1, h.2.1, fun _ _ e => by cases e⟩

theorem lookV_ok {μ : Mu} {w : World} (s : Sim μ h w) {a : AV} {v : Value} (ha : (lookV h a).2) (hv : VR μ w a v) : VR μ.flat w (lookV h a).1 v := by
  have laid' : ∀ b B, μ.f b = some B → Sealed μ.flat w B.g := fun b B e => ⟨(s.lt b B e).2, s.noban b B e, fun x B' e' => by cases e'⟩
  cases a with
  | rs b off len st sz =>
    simp only [lookV] at ha ⊢
    cases hb : h.get b with
    | none => rw [hb] at ha; exact ha.elim
    | some r =>
      rw [hb] at ha
      simp only at ha ⊢
      obtain ⟨⟨hst, hsz⟩, hr⟩ := ha
      rcases s.rs (by unfold refOK; rw [hb]; exact hst) hv with ⟨_, x, _, _, _, rfl, _, _, _, rfl⟩ | ⟨r', B, cs, cap, hg, hst, hB, hL, rfl, hcap, hlen, hh, hE, hmE, hcells⟩
      · cases x with
        | none => exact .inl ⟨rfl, by simp, rfl⟩
        | some x => exact .inr ⟨x, 0, rfl, Nat.le_refl _, fun hm => by simp at hm, fun i hi => by simp at hi⟩
      · rw [hb] at hg
        injection hg with hg
        subst hg
        refine .inr ⟨_, cap, rfl, ?_, fun _ => ⟨rfl, laid' b B hB⟩, fun i hi => ?_⟩
        · have : off + len * sz ≤ off + cap * sz := by omega
          exact Nat.le_of_mul_le_mul_right (Nat.le_of_add_le_add_left this) hsz
        · obtain ⟨u, hu, hv⟩ := hcells (off + i) (by omega)
          exact ⟨u, by simp [World.cell?, hh, hu], by rw [cutM_at hi]; exact VR.conv (fun _ => Sealed.flat) _ _ (hr _ (by omega)) hv⟩
  | ref b off st =>
    simp only [lookV] at ha ⊢
    cases hb : h.get b with
    | none => rw [hb] at ha; exact ha.elim
    | some r =>
      rw [hb] at ha
      simp only at ha ⊢
      obtain ⟨hst, hr⟩ := ha
      obtain ⟨r', B, cs, hg, hst, hB, hL, rfl, hh, hE, hmE, hcells⟩ := s.ref (by unfold refOK; rw [hb]; exact hst) hv
      rw [hb] at hg
      injection hg with hg
      subst hg
      refine ⟨B.g, 0, by simp, laid' b B hB, fun i hi => ?_⟩
      obtain ⟨u, hu, hv⟩ := hcells i hi
      exact ⟨u, by simp [World.cell?, hh, hu], VR.conv (fun _ => Sealed.flat) _ _ (hr _ hi) hv⟩
  | _ => exact VR.conv (fun _ => Sealed.flat) _ _ ha hv

def allLook (h : Hp) : List AV → Prop
  | [] => True
  | v :: l => (lookV h v).2 ∧ allLook h l
theorem allLook_ok : ∀ {l : List AV}, allLook h l → ∀ i, i < l.length → (lookV h (ofL l i)).2 ∧ ofL (l.map fun v => (lookV h v).1) i = (lookV h (ofL l i)).1
  | [], _, i, hi => absurd hi (by simp)
  | v :: l, hh, 0, _ => ⟨hh.1, rfl⟩
  | v :: l, hh, i + 1, hi => by
    have := allLook_ok hh.2 i (by simpa using hi)
    simpa [ofL] using this

/-- A call of a function of values that looks at own rows; what it hands back lies nowhere. -/
theorem TL.look {k : KO} {ks : List KO} {K : Env → Hp → Prop} {f : X} {xs : List X} {gc : Bool} {fid : FuncId} {args : List AV} {r : AV} (hi : k.i = .call f xs) (hg : gcOf env k.g = some gc)
    (hd : ∀ d, k.d = some d → d < nt) (ha : argsA env f xs = some (fid, args)) (hgx : gc = true → (ev env f).1 = true ∧ allG (evs env xs)) (hl : gc = true → allLook h args)
    (hf : gc = true → Fun P fid (args.map fun v => (lookV h v).1) (· = r)) (hr : r.closed)
    (rest : TL P nt ks K (putE k.d gc r env) h) : TL P nt (k :: ks) K env h := by
  refine TL.cons hg ?_ (fun e => ⟨hd, by subst e; exact TL.under rest⟩)
  intro o μ a w ho hdst s hgc N hN
  rw [hi] at ho
  have F := hf hgc
  obtain ⟨cargs, hr', hsz, hv⟩ := call_run s ho ha (hgx hgc).1 (hgx hgc).2 F.enters
  unfold Oper.wp
  rw [hr']
  simp only [Oper.upon]
  have hm : MuOK μ.flat w := ⟨(fun b B e => by cases e), s.sim.muok.2⟩
  refine (F.calls μ.flat w cargs hm (by simpa using hsz) (fun i hi => ?_)).mono ?_
  · have hi' : i < args.length := by simpa using hi
    obtain ⟨h1, h2⟩ := allLook_ok (hl hgc) i hi'
    rw [h2]
    exact lookV_ok s.sim h1 (hv i hi')
  rintro e w' ⟨c, r', rfl, rfl, hrval, hrv, hb⟩
  simp only
  rw [hdst]
  have st := Step.of_below s.sim.muok hb
  have s' : SimA nt μ env h a w' := ⟨s.sim.below hb, s.env.mono st, s.size, s.defers⟩
  subst hgc
  exact hN μ _ h _ w' (s'.put hd (fun _ => VR.closed _ _ hr hrv) (fun e => by simp at e)) st rest
end

/-! ### the runner -/
section
variable {C : Cx} {nt : Nat} {env : Env} {h : Hp} {K : Env → Hp → Prop}

def bslA (C : Cx) (h : Hp) (env : Env) : I → Option (AV × Prop)
  | .bsl t n ps => match C.kd t with
    | some (.slc e) => match C.ty e with
      | some ei => match litA h env ei.sz 0 ps with
        | some (l, S) => some (VS ei.sz (fun p => p) l, S ∧ l.length = n ∧ n * ei.sz ≤ 16777216)
        | none => none
      | none => none
    | _ => none
  | _ => none

theorem TL.bslA {k : KO} {ks : List KO} {gc : Bool} {v : AV} {S : Prop} (hb : bslA C h env k.i = some (v, S)) (hg : gcOf env k.g = some gc) (hd : ∀ d, k.d = some d → d < nt) (hS : gc = true → S)
    (rest : TL C.P nt ks K (putE k.d gc v env) h) : TL C.P nt (k :: ks) K env h := by
  unfold Go.AM.bslA at hb
  split at hb
  case h_2 => cases hb
  case h_1 t n ps hi =>
    split at hb
    case h_2 => cases hb
    case h_1 e ht =>
      split at hb
      case h_2 => cases hb
      case h_1 ei he =>
        split at hb
        case h_2 => cases hb
        case h_1 l S' hl =>
          simp only [Option.some.injEq, Prod.mk.injEq] at hb
          obtain ⟨rfl, rfl⟩ := hb
          cases gc with
          | true =>
            obtain ⟨h1, h2, h3⟩ := hS rfl
            exact TL.bslv hi hg hd ht he h3 hl (fun _ => h1) h2 (by subst h2; simpa [VS, rowL] using rest)
          | false => exact TL.cons hg (fun _ _ _ _ _ _ _ e => by cases e) (fun _ => ⟨hd, TL.under rest⟩)

/-- The operations ahead that turn nothing, all at once; slices that are written out are taken by value. -/
def RQ (C : Cx) (nt : Nat) (K : Env → Hp → Prop) : List KO → Env → Hp → Prop
  | [], env, h => K env h
  | k :: ks, env, h => if isPure k.i = true then
      match gcOf env k.g, k.d with
      | some gc, some d => (d < nt ∧ (gc = true → (pv C h env k.i).2)) ∧ RQ C nt K ks ((d, gc, (pv C h env k.i).1) :: env) h
      | _, _ => False
    else match bslA C h env k.i with
      | some (v, S) => match gcOf env k.g, k.d with
        | some gc, some d => (d < nt ∧ (gc = true → S)) ∧ RQ C nt K ks ((d, gc, v) :: env) h
        | _, _ => False
      | none => TL C.P nt (k :: ks) K env h

theorem RQ.ok : ∀ (ks : List KO) (env : Env), RQ C nt K ks env h → TL C.P nt ks K env h
  | [], env, hh => TL.nil hh
  | k :: ks, env, hh => by
    unfold RQ at hh
    split at hh
    · split at hh
      case h_2 => exact hh.elim
      case h_1 gc d e1 e2 =>
        obtain ⟨⟨h1, h2⟩, h3⟩ := hh
        refine TL.pure e1 (fun d' hd' => by rw [e2] at hd'; injection hd' with hd'; omega) h2 ?_
        rw [e2]
        exact RQ.ok ks _ h3
    · split at hh
      case h_1 v S hb =>
        split at hh
        case h_2 => exact hh.elim
        case h_1 gc d e1 e2 =>
          obtain ⟨⟨h1, h2⟩, h3⟩ := hh
          refine TL.bslA hb e1 (fun d' hd' => by rw [e2] at hd'; injection hd' with hd'; omega) h2 ?_
          rw [e2]
          exact RQ.ok ks _ h3
      case h_2 => exact hh

/-- A region, and what is behind it. -/
theorem TK.run {Q : Post} {ks : List KO} {y : KC} (k : ∀ K : Env → Hp → Prop, (∀ env h, TK C.P nt y Q env h → K env h) → RQ C nt K ks env h) : TK C.P nt (.seq (.reg ks) y) Q env h :=
  TK.seq_k fun K hK => TK.reg (RQ.ok _ _ (k K hK))

/-- A region at the end. -/
theorem TK.run1 {Q : Post} {ks : List KO} (k : ∀ K : Env → Hp → Prop, (∀ env h, Q .normal env h → K env h) → RQ C nt K ks env h) : TK C.P nt (.reg ks) Q env h :=
  TK.reg (RQ.ok _ _ (k _ fun _ _ hq => hq))
end
end Go.AM
