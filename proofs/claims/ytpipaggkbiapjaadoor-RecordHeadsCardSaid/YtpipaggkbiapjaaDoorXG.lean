import Derived.Test.YtpipaggkbiapjaaDoorXF
/- Regions whose order is open, with operations that turn rows. -/
namespace Go.AX
open Go.AM Go.RowKit

structure Ent where
  kd : Nat
  i : Nat
  d : Option Nat
  gc : Bool
  v : AV

def envOf : List Ent → Env → Env
  | [], e => e
  | x :: r, e => putE x.d x.gc x.v (envOf r e)

theorem envOf_lk : ∀ {R : List Ent} {e : Env} {t : Nat} {g : Bool} {v : AV}, lk (envOf R e) t = some (g, v) → (∃ x ∈ R, x.d = some t ∧ x.gc = g ∧ x.v = v) ∨ ((∀ x ∈ R, x.d ≠ some t) ∧ lk e t = some (g, v))
  | [], e, t, g, v, h => .inr ⟨(fun x hx => by cases hx), h⟩
  | x :: r, e, t, g, v, h => by
    simp only [envOf] at h
    cases hd : x.d with
    | none =>
      rw [hd] at h
      simp only [putE] at h
      rcases envOf_lk h with ⟨y, hy, h1⟩ | ⟨h1, h2⟩
      · exact .inl ⟨y, List.mem_cons_of_mem _ hy, h1⟩
      · refine .inr ⟨fun y hy => ?_, h2⟩
        rcases List.mem_cons.1 hy with rfl | hy
        · rw [hd]; intro e; cases e
        · exact h1 y hy
    | some d =>
      rw [hd] at h
      simp only [putE, lk] at h
      by_cases hdt : d = t
      · rw [if_pos hdt] at h
        simp only [Option.some.injEq, Prod.mk.injEq] at h
        exact .inl ⟨x, by simp, by rw [hd, hdt], h.1, h.2⟩
      · rw [if_neg hdt] at h
        rcases envOf_lk h with ⟨y, hy, h1⟩ | ⟨h1, h2⟩
        · exact .inl ⟨y, List.mem_cons_of_mem _ hy, h1⟩
        · refine .inr ⟨fun y hy => ?_, h2⟩
          rcases List.mem_cons.1 hy with rfl | hy
          · rw [hd]; intro e; injection e with e; exact hdt e
          · exact h1 y hy

/-- The walk over the operations in an order of ours: 0: reads rows that stay; 1: reads rows as they are now, and what turns rows next waits for it; 2: turns rows; 3: turns rows, and waits for all ahead of it: behind it no row is known to stay. -/
def DRunA (P : Program) (nt : Nat) (ks : List KO) (K : Env → Hp → Prop) : List (Nat × Nat) → Hp → Env → Hp → Prop
  | [], hS, env, h => K env (h ++ hS)
  | (0, i) :: r, hS, env, h => ∃ k, ks[i]? = some k ∧ ∃ gc d v, gcOf env k.g = some gc ∧ k.d = some d ∧ d < nt ∧ (gc = true → VOK P nt hS (keepE (readsK k) env) k.i v) ∧ DRunA P nt ks K r hS ((d, gc, v) :: env) h
  | (1, i) :: r, hS, env, h => ∃ k, ks[i]? = some k ∧ ∃ gc d v, gcOf env k.g = some gc ∧ k.d = some d ∧ d < nt ∧ (gc = true → VOK P nt (h ++ hS) (keepE (readsK k) env) k.i v) ∧ DRunA P nt ks K r hS ((d, gc, v) :: env) h
  | (n + 2, i) :: r, hS, env, h => ∃ k, ks[i]? = some k ∧ k.g = none ∧ (∀ d, k.d = some d → d < nt) ∧
      TL P nt [k] (fun env' h' => ∃ v hE hT, (n = 0 → hT = hS) ∧ env' = putE k.d true v (keepE (readsK k) env) ∧ h' = hE ++ hT ∧ HSub hT (hE ++ hT) ∧ DRunA P nt ks K r hT (putE k.d true v env) hE) (keepE (readsK k) env) (h ++ hS)
abbrev DRun (P : Program) (nt : Nat) (hS : Hp) (ks : List KO) (K : Env → Hp → Prop) (sc : List (Nat × Nat)) (env : Env) (h : Hp) : Prop := DRunA P nt ks K sc hS env h

def edge (ops : Array Oper) (j i : Nat) : Bool := match ops[j]? with
  | some o => o.after.any fun e => Region.binds .any e && e.on == i
  | none => false
def kindAt (sc : List (Nat × Nat)) (p : Nat) : Nat := match sc[p]? with | some x => min x.1 2 | none => 3
def ixAt (sc : List (Nat × Nat)) (p : Nat) : Nat := match sc[p]? with | some x => x.2 | none => 0
/-- The next place that turns rows. -/
def nextE (sc : List (Nat × Nat)) (p : Nat) : Option Nat := (List.range sc.length).find? fun q => decide (p < q) && kindAt sc q == 2

def okAt (ops : Array Oper) (ks : List KO) (sc : List (Nat × Nat)) (p : Nat) : Bool :=
  match ops[ixAt sc p]?, ks[ixAt sc p]? with
  | some o, some k =>
    o.after.all (fun e => !Region.binds .any e || (List.range p).any fun q => ixAt sc q == e.on) &&
    ((List.range sc.length).all fun q => q == p || (ixAt sc q != ixAt sc p && match ks[ixAt sc q]? with
      | some k' => match k'.d with
        | some t => (k.d != some t) && (!(readsK k).contains t || (decide (q < p) && edge ops (ixAt sc p) (ixAt sc q)) || (decide (p < q) && edge ops (ixAt sc q) (ixAt sc p)))
        | none => true
      | none => false)) &&
    ((List.range p).all fun q => kindAt sc q != 2 || (List.range p).any fun r => decide (q ≤ r) && edge ops (ixAt sc p) (ixAt sc r)) &&
    (kindAt sc p != 1 || match nextE sc p with
      | none => true
      | some q => (List.range (q + 1)).any fun r => decide (p < r) && (kindAt sc r == 1 || r == q) && edge ops (ixAt sc r) (ixAt sc p)) &&
    (!(match sc[p]? with | some x => decide (3 ≤ x.1) | none => false) || (List.range p).all fun q => edge ops (ixAt sc p) (ixAt sc q))
  | _, _ => false

def okSched (ops : Array Oper) (ks : List KO) (sc : List (Nat × Nat)) : Bool := (sc.length == ops.size) && ((List.range ops.size).all fun j => (List.range sc.length).any fun p => ixAt sc p == j) && (List.range sc.length).all fun p => okAt ops ks sc p

/-- What the check says. -/
structure SchedOK (ops : Array Oper) (ks : List KO) (sc : List (Nat × Nat)) : Prop where
  len : sc.length = ops.size
  sur : ∀ j, j < ops.size → ∃ p, p < sc.length ∧ ixAt sc p = j
  deps : ∀ p, p < sc.length → ∃ o k, ops[ixAt sc p]? = some o ∧ ks[ixAt sc p]? = some k ∧ ∀ e ∈ o.after, Region.binds .any e = true → ∃ q, q < p ∧ ixAt sc q = e.on
  inj : ∀ p q, p < sc.length → q < sc.length → p ≠ q → ixAt sc q ≠ ixAt sc p
  rw : ∀ p q, p < sc.length → q < sc.length → p ≠ q → ∀ k k' t, ks[ixAt sc p]? = some k → ks[ixAt sc q]? = some k' → k'.d = some t → k.d ≠ some t ∧
    (t ∈ readsK k → (q < p ∧ edge ops (ixAt sc p) (ixAt sc q) = true) ∨ (p < q ∧ edge ops (ixAt sc q) (ixAt sc p) = true))
  aft : ∀ p q, p < sc.length → q < p → kindAt sc q = 2 → ∃ r, q ≤ r ∧ r < p ∧ edge ops (ixAt sc p) (ixAt sc r) = true
  one : ∀ p, p < sc.length → kindAt sc p = 1 → ∀ q, nextE sc p = some q → ∃ r, p < r ∧ r ≤ q ∧ (kindAt sc r = 1 ∨ r = q) ∧ edge ops (ixAt sc r) (ixAt sc p) = true
  all3 : ∀ p x, sc[p]? = some x → 3 ≤ x.1 → ∀ q, q < p → edge ops (ixAt sc p) (ixAt sc q) = true

theorem okSched_ok {ops : Array Oper} {ks : List KO} {sc : List (Nat × Nat)} (h : okSched ops ks sc = true) : SchedOK ops ks sc := by
  unfold okSched at h
  simp only [Bool.and_eq_true, beq_iff_eq, List.all_eq_true, List.mem_range] at h
  obtain ⟨⟨hlen, hsur⟩, hall⟩ := h
  have at' : ∀ p, p < sc.length → ∃ o k, ops[ixAt sc p]? = some o ∧ ks[ixAt sc p]? = some k ∧
      (o.after.all (fun e => !Region.binds .any e || (List.range p).any fun q => ixAt sc q == e.on) = true ∧
      ((List.range sc.length).all fun q => q == p || (ixAt sc q != ixAt sc p && match ks[ixAt sc q]? with
        | some k' => match k'.d with
          | some t => (k.d != some t) && (!(readsK k).contains t || (decide (q < p) && edge ops (ixAt sc p) (ixAt sc q)) || (decide (p < q) && edge ops (ixAt sc q) (ixAt sc p)))
          | none => true
        | none => false)) = true) ∧
      ((List.range p).all fun q => kindAt sc q != 2 || (List.range p).any fun r => decide (q ≤ r) && edge ops (ixAt sc p) (ixAt sc r)) = true ∧
      (kindAt sc p != 1 || match nextE sc p with
        | none => true
        | some q => (List.range (q + 1)).any fun r => decide (p < r) && (kindAt sc r == 1 || r == q) && edge ops (ixAt sc r) (ixAt sc p)) = true ∧
      (!(match sc[p]? with | some x => decide (3 ≤ x.1) | none => false) || (List.range p).all fun q => edge ops (ixAt sc p) (ixAt sc q)) = true := by
    intro p hp
    have := hall p hp
    unfold okAt at this
    split at this
    · rename_i o k h1 h2
      simp only [Bool.and_eq_true] at this
      exact ⟨o, k, h1, h2, this.1.1.1, this.1.1.2, this.1.2, this.2⟩
    · cases this
  refine ⟨hlen, fun j hj => ?_, fun p hp => ?_, fun p q hp hq hne => ?_, fun p q hp hq hne k k' t hk hk' ht => ?_, fun p q hp hq hkq => ?_, fun p hp hk q hq => ?_, fun p x hx h3 q hq => ?_⟩
  · have := hsur j hj
    simp only [List.any_eq_true, List.mem_range, beq_iff_eq] at this
    exact this
  · obtain ⟨o, k, h1, h2, h3, _⟩ := at' p hp
    refine ⟨o, k, h1, h2, fun e he hb => ?_⟩
    have := Array.all_eq_true_iff_forall_mem.1 h3.1 e he
    simp only [hb, Bool.not_true, Bool.false_or, List.any_eq_true, List.mem_range, beq_iff_eq] at this
    exact this
  · obtain ⟨o, k, h1, h2, h3, _⟩ := at' p hp
    have := List.all_eq_true.1 h3.2 q (List.mem_range.2 hq)
    simp only [Bool.or_eq_true, beq_iff_eq, Bool.and_eq_true, bne_iff_ne, ne_eq] at this
    rcases this with h | h
    · exact (hne h.symm).elim
    · exact h.1
  · obtain ⟨o, k0, h1, h2, h3, _⟩ := at' p hp
    rw [hk] at h2
    injection h2 with h2
    subst h2
    have := List.all_eq_true.1 h3.2 q (List.mem_range.2 hq)
    simp only [Bool.or_eq_true, beq_iff_eq, Bool.and_eq_true, bne_iff_ne, ne_eq] at this
    rcases this with h | h
    · exact (hne h.symm).elim
    · have h4 := h.2
      rw [hk', ] at h4
      simp only [ht, Bool.and_eq_true, Bool.or_eq_true, bne_iff_ne, ne_eq, Bool.not_eq_true', decide_eq_true_eq] at h4
      refine ⟨h4.1, fun hr => ?_⟩
      rcases h4.2 with (h5 | h5) | h5
      · exfalso; rw [List.contains_iff_mem.2 hr] at h5; cases h5
      · exact .inl h5
      · exact .inr h5
  · obtain ⟨o, k, _, _, _, h3, _⟩ := at' p hp
    have := List.all_eq_true.1 h3 q (List.mem_range.2 hq)
    simp only [hkq, bne_self_eq_false, Bool.false_or, List.any_eq_true, List.mem_range, Bool.and_eq_true, decide_eq_true_eq] at this
    obtain ⟨r, h4, h5, h6⟩ := this
    exact ⟨r, h5, h4, h6⟩
  · obtain ⟨o, k, _, _, _, _, h3, _⟩ := at' p hp
    rw [hk, hq] at h3
    simp only [bne_self_eq_false, Bool.false_or, List.any_eq_true, List.mem_range, Bool.and_eq_true, decide_eq_true_eq, Bool.or_eq_true, beq_iff_eq] at h3
    obtain ⟨r, h4, ⟨h5, h6⟩, h7⟩ := h3
    exact ⟨r, h5, by omega, h6, h7⟩
  · obtain ⟨o, k, _, _, _, _, _, h4⟩ := at' p (List.getElem?_eq_some_iff.1 hx).1
    rw [hx] at h4
    simp only [h3, decide_true, Bool.not_true, Bool.false_or, List.all_eq_true, List.mem_range] at h4
    exact h4 q hq

theorem edge_of {ops : Array Oper} {j i : Nat} (h : edge ops j i = true) {o : Oper} (ho : ops[j]? = some o) : ∃ e ∈ o.after, Region.binds .any e = true ∧ e.on = i := by
  unfold edge at h
  rw [ho] at h
  obtain ⟨e, he, hb⟩ := Array.any_eq_true'.1 h
  simp only [Bool.and_eq_true, beq_iff_eq] at hb
  exact ⟨e, he, hb.1, hb.2⟩

theorem VOK.sub {P : Program} {nt : Nat} {h h' : Hp} {env : Env} {i : I} {v : AV} (hv : VOK P nt h env i v) (hs : HSub h h') : VOK P nt h' env i v :=
  fun o μ a w ho s N hN => hv o μ a w ho ⟨Sim.sub s.sim hs, s.env, s.size, s.defers⟩ N hN

theorem wp_put {P : Program} {o : Oper} {a : Act} {w : World} {N : Act → World → Prop} {Q : Exit → Act → World → Prop} (hnd : ∀ a' w', N a' w' → a'.defers = []) (h : o.wp P a w N Q) :
    o.wp P a w (fun a' w' => N a' w' ∧ ∃ c, a' = a.put o.dst c) Q := by
  unfold Oper.wp at h ⊢
  generalize hr : (execOp a.eval o).run P w = r at h
  unfold Oper.upon at h ⊢
  split at h
  · exact ⟨h, _, rfl⟩
  · exact ⟨h, _, rfl⟩
  · have := hnd _ _ h
    rw [put_defers] at this
    cases this
  · exact h.mono fun e w' he => by
      cases e <;> first | exact ⟨he, _, rfl⟩ | exact he
  · exact h.mono fun v w' he => ⟨he, _, rfl⟩
  · exact h
  · exact h.elim

section
variable {P : Program} {nt : Nat} {Q : Post} {env0 : Env} {hS : Hp}

/-- What is known of what was revealed. -/
def Facts (P : Program) (nt : Nat) (hS : Hp) (env0 : Env) (ks : List KO) (ex : Nat → Bool) (h : Hp) : List Ent → Prop
  | [] => True
  | x :: post => (∃ k, ks[x.i]? = some k ∧ x.d = k.d ∧ (∀ d, k.d = some d → d < nt) ∧ (x.kd < 2 → k.d ≠ none) ∧ gcOf (envOf post env0) k.g = some x.gc ∧
      (x.kd = 0 → ex x.i = false → x.gc = true → VOK P nt hS (keepE (readsK k) (envOf post env0)) k.i x.v) ∧ (x.kd = 1 → ex x.i = false → x.gc = true → VOK P nt (h ++ hS) (keepE (readsK k) (envOf post env0)) k.i x.v) ∧
      (2 ≤ x.kd → ex x.i = true)) ∧ Facts P nt hS env0 ks ex h post

theorem Facts.at {ks : List KO} {ex : Nat → Bool} {h : Hp} : ∀ {R : List Ent}, Facts P nt hS env0 ks ex h R → ∀ {pre post : List Ent} {x : Ent}, R = pre ++ x :: post → ∃ k, ks[x.i]? = some k ∧ x.d = k.d ∧ (∀ d, k.d = some d → d < nt) ∧ (x.kd < 2 → k.d ≠ none) ∧ gcOf (envOf post env0) k.g = some x.gc ∧
      (x.kd = 0 → ex x.i = false → x.gc = true → VOK P nt hS (keepE (readsK k) (envOf post env0)) k.i x.v) ∧ (x.kd = 1 → ex x.i = false → x.gc = true → VOK P nt (h ++ hS) (keepE (readsK k) (envOf post env0)) k.i x.v) ∧
      (2 ≤ x.kd → ex x.i = true)
  | [], _, pre, post, x, e => by cases pre <;> cases e
  | y :: R, hf, [], post, x, e => by
    simp only [List.nil_append, List.cons.injEq] at e
    obtain ⟨rfl, rfl⟩ := e
    exact hf.1
  | y :: R, hf, p :: pre, post, x, e => by
    simp only [List.cons_append, List.cons.injEq] at e
    exact Facts.at hf.2 e.2

theorem Facts.mono {ks : List KO} {ex ex' : Nat → Bool} {h h' : Hp} : ∀ {R : List Ent}, Facts P nt hS env0 ks ex h R → (∀ x ∈ R, ex x.i = true → ex' x.i = true) → (∀ x ∈ R, x.kd = 1 → ex' x.i = false → h' = h) → Facts P nt hS env0 ks ex' h' R
  | [], _, _, _ => trivial
  | x :: post, hf, h1, h2 => by
    obtain ⟨⟨k, q1, q2, q3, q4, q5, q6, q7, q8⟩, hr⟩ := hf
    have back : ex' x.i = false → ex x.i = false := fun he => by
      cases hx : ex x.i with
      | false => rfl
      | true => rw [h1 x (by simp) hx] at he; cases he
    refine ⟨⟨k, q1, q2, q3, q4, q5, fun hk he hg => q6 hk (back he) hg, fun hk he hg => ?_, fun hk => h1 x (by simp) (q8 hk)⟩, Facts.mono hr (fun y hy => h1 y (List.mem_cons_of_mem _ hy)) (fun y hy => h2 y (List.mem_cons_of_mem _ hy))⟩
    rw [h2 x (by simp) hk he]
    exact q7 hk (back he) hg
/-- Where all was done, of whatever rows. -/
theorem Facts.all {ks : List KO} {ex ex' : Nat → Bool} {h h' hT : Hp} : ∀ {R : List Ent}, Facts P nt hS env0 ks ex h R → (∀ x ∈ R, ex' x.i = true) → Facts P nt hT env0 ks ex' h' R
  | [], _, _ => trivial
  | x :: post, hf, h1 => by
    obtain ⟨⟨k, q1, q2, q3, q4, q5, _, _, q8⟩, hr⟩ := hf
    have hx := h1 x (by simp)
    exact ⟨⟨k, q1, q2, q3, q4, q5, fun _ he => (by rw [hx] at he; cases he), fun _ he => (by rw [hx] at he; cases he), fun _ => hx⟩, Facts.all hr (fun y hy => h1 y (List.mem_cons_of_mem _ hy))⟩
end
end Go.AX
