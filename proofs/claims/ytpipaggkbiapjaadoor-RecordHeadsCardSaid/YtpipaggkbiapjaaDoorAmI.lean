import Derived.Test.YtpipaggkbiapjaaDoorAmH
/- Regions, tests, functions entered; forgetting. -/
namespace Go.AM
open Go.RowKit

theorem Oper.wp_mono' {P : Program} {o : Oper} {a : Act} {w : World} {N N' : Act → World → Prop} {Q Q' : Exit → Act → World → Prop} (hn : ∀ a w, N a w → N' a w) (hq : ∀ e a w, Q e a w → Q' e a w)
    (hw : o.wp P a w N Q) : o.wp P a w N' Q' := by
  unfold Oper.wp at hw ⊢
  generalize (execOp a.eval o).run P w = r at hw
  unfold Oper.upon at hw ⊢
  split at hw <;> first
    | exact hn _ _ hw
    | exact hq _ _ _ hw
    | exact hw
    | (refine hw.mono ?_; intro e w' he; cases e <;> first | exact hn _ _ he | exact hq _ _ _ he | (obtain ⟨x, y, hf⟩ := he; exact ⟨x, y, hq _ _ _ hf⟩))
    | (refine hw.mono ?_; intro v w' he; exact hn _ _ he)

theorem cookL_at {all : Array Oper} : ∀ {l : List Oper} {ks : List KO}, cookL all l = some ks → l.length = ks.length ∧ ∀ p ∈ l.zip ks, cookO all p.1 = some p.2
  | [], ks, hc => by
    simp only [cookL, Option.some.injEq] at hc
    subst hc
    exact ⟨rfl, fun p hp => absurd hp (by simp)⟩
  | o :: l, ks, hc => by
    simp only [cookL] at hc
    split at hc
    case h_2 => simp at hc
    case h_1 k ks' h1 h2 =>
      injection hc with hc
      subst hc
      obtain ⟨i1, i2⟩ := cookL_at h2
      refine ⟨by simp [i1], fun p hp => ?_⟩
      simp only [List.zip_cons_cons, List.mem_cons] at hp
      rcases hp with rfl | hp
      · exact h1
      · exact i2 p hp

theorem cookO_at {all : Array Oper} {o : Oper} {k : KO} (hc : cookO all o = some k) : cookOp o.op = some k.i ∧ o.dst = k.d ∧ cookG all o.guard = some k.g := by
  unfold cookO at hc
  split at hc
  case h_2 => simp at hc
  case h_1 g i h1 h2 =>
    injection hc with hc
    subst hc
    exact ⟨h2, rfl, h1⟩

def wantG (tmps : Array Value) : Option (Nat × Bool) → Bool
  | none => true
  | some (d, want) => match tmps[d]? with
    | some (.bool b) => b == want
    | _ => false

theorem wanted_of {all : Array Oper} {o : Oper} {g : Option (Nat × Bool)} (hc : cookG all o.guard = some g) (tmps : Array Value) :
    Region.wanted o (yielded all tmps) = wantG tmps g := by
  unfold cookG at hc
  unfold Region.wanted
  split at hc
  case h_1 e =>
    injection hc with hc
    subst hc
    rw [e]
    rfl
  case h_2 j want e =>
    rw [e]
    split at hc
    case h_2 => simp at hc
    case h_1 d hd =>
      injection hc with hc
      subst hc
      simp only [yielded, hd, Option.bind_some, wantG]
      cases ht : tmps[d]? with
      | none => simp
      | some v => cases v <;> simp

theorem wpK_ops {P : Program} {ops : Array Oper} {R : Act → World → Prop} : ∀ (l : List (Oper × KO)) (i : Nat), (∀ p ∈ l, cookO ops p.1 = some p.2) →
    (∀ j, j < l.length → ops[i + j]? = (l[j]?).map (·.1)) → ∀ (a : Act) (w : World), wpK P R l a w →
    wpOps P ops (fun e a w => e = .normal ∧ R a w) (List.range' i l.length) a w
  | [], i, _, _, a, w, hw => ⟨rfl, hw⟩
  | (o, k) :: l, i, hc, ho, a, w, hw => by
    obtain ⟨h1, h2, h3⟩ := cookO_at (hc (o, k) (by simp))
    have hoi : ops[i]? = some o := by simpa using ho 0 (by simp)
    have ih : ∀ a w, wpK P R l a w → wpOps P ops (fun e a w => e = .normal ∧ R a w) (List.range' (i + 1) l.length) a w := fun a w hw =>
      wpK_ops l (i + 1) (fun p hp => hc p (by simp [hp])) (fun j hj => by
        have := ho (j + 1) (by simpa using hj)
        rw [show i + 1 + j = i + (j + 1) by omega, this]
        simp) a w hw
    simp only [List.length_cons, List.range'_succ, wpOps, hoi]
    have hw0 := wanted_of h3 a.tmps
    simp only [wpK] at hw
    cases hk : k.g with
    | none =>
      rw [hk] at hw hw0
      simp only [wantG] at hw hw0
      rw [if_pos hw0]
      exact .inl (Oper.wp_mono' ih (fun _ _ _ hf => hf.elim) hw)
    | some p =>
      obtain ⟨d, want⟩ := p
      rw [hk] at hw hw0
      simp only [wantG] at hw hw0
      split at hw
      · rename_i b hb
        rw [hb] at hw0
        simp only at hw0
        split at hw
        · rename_i hbw
          rw [if_pos (by rw [hw0]; simpa using hbw)]
          exact .inl (Oper.wp_mono' ih (fun _ _ _ hf => hf.elim) hw)
        · rename_i hbw
          rw [if_neg (by rw [hw0]; simpa using hbw)]
          exact ih _ _ hw
      · rename_i hb
        have : Region.wanted o (yielded ops a.tmps) = false := by
          rw [hw0]
          split
          · rename_i b hb'; exact absurd hb' (hb b)
          · rfl
        rw [if_neg (by rw [this]; simp)]
        exact ih _ _ hw

section
variable {P : Program} {nt : Nat} {Q : Post} {env : Env} {h : Hp}

theorem TK.reg {ks : List KO} (k : TL P nt ks (fun env h => Q .normal env h) env h) : TK P nt (.reg ks) Q env h := by
  intro c hc μ a w hs
  cases c <;> (try simp [cookC] at hc)
  case seq x y => split at hc <;> simp at hc
  case cond x y z => split at hc <;> simp at hc
  case region id ops d =>
    cases d with
    | true => simp [cookC] at hc
    | false =>
      simp only [cookC, Option.map_eq_some_iff] at hc
      obtain ⟨ks', h1, h2⟩ := hc
      injection h2 with h2
      subst h2
      obtain ⟨hl, hz⟩ := cookL_at h1
      refine wp_region ?_
      have hw := k ops.toList hl (fun p hp => ⟨(cookO_at (hz p hp)).1, (cookO_at (hz p hp)).2.1⟩) μ a w hs
      have hlen : (ops.toList.zip ks').length = ops.size := by simp [List.length_zip, ← hl]
      have := wpK_ops (P := P) (ops := ops) (ops.toList.zip ks') 0 hz (fun j hj => by
        have hj' : j < ops.size := by omega
        rw [Nat.zero_add, Array.getElem?_eq_getElem hj', List.getElem?_eq_getElem hj]
        simp [List.getElem_zip]) a w hw
      rw [hlen, ← List.range_eq_range'] at this
      exact wpOps_mono (fun e a w ⟨he, μ', env', h', q, r⟩ => ⟨μ', env', h', by rw [he]; exact q, r⟩) _ _ _ this
where
  wpOps_mono {ops : Array Oper} {Q Q' : Exit → Act → World → Prop} (hq : ∀ e a w, Q e a w → Q' e a w) : ∀ (l : List Nat) (a : Act) (w : World), wpOps P ops Q l a w → wpOps P ops Q' l a w := by
    intro l
    induction l with
    | nil => exact fun a w hh => hq _ _ _ hh
    | cons i l ih =>
      intro a w hh
      simp only [wpOps] at hh ⊢
      split at hh
      · exact ih _ _ hh
      · split at hh
        · rename_i hw
          rw [if_pos hw]
          rcases hh with hh | ⟨h1, x, y, h2⟩
          · exact .inl (Oper.wp_mono' ih hq hh)
          · exact .inr ⟨h1, x, y, hq _ _ _ h2⟩
        · rename_i hw
          rw [if_neg hw]
          exact ih _ _ hh

theorem TK.cond {c : X} {x y : KC} {b : Bool} (hc : ev env c = (true, .bool b)) (ht : b = true → TK P nt x Q env h) (hf : b = false → TK P nt y Q env h) : TK P nt (.cond c x y) Q env h := by
  intro c' hc' μ a w hs
  cases c' <;> (try simp [cookC] at hc')
  case region id ops d => cases d <;> simp [cookC] at hc'
  case seq x y => split at hc' <;> simp at hc'
  case cond oc cx cy =>
    split at hc'
    case h_2 => simp at hc'
    case h_1 c0 x0 y0 h1 h2 h3 =>
      simp only [Option.some.injEq, KC.cond.injEq] at hc'
      obtain ⟨rfl, rfl, rfl⟩ := hc'
      have hv := ev_ok h1 hs.env (by rw [hc])
      rw [hc] at hv
      refine wp_cond (t := b) hv ?_
      cases b with
      | true => exact ht rfl cx h2 μ a w hs
      | false => exact hf rfl cy h3 μ a w hs

/-! ### forgetting -/
def Sub (e' e : Env) : Prop := ∀ t g v, lk e' t = some (g, v) → lk e t = some (g, v)

theorem TK.sub {c : KC} {env' : Env} (hs : Sub env' env) (k : TK P nt c Q env' h) : TK P nt c Q env h :=
  fun c' hc μ a w s => k c' hc μ a w ⟨s.sim, fun t g v e => s.env t g v (hs t g v e), s.size, s.defers⟩

theorem TL.sub {ks : List KO} {K : Env → Hp → Prop} {env' : Env} (hs : Sub env' env) (k : TL P nt ks K env' h) : TL P nt ks K env h :=
  fun os hl hz μ a w s => k os hl hz μ a w ⟨s.sim, fun t g v e => s.env t g v (hs t g v e), s.size, s.defers⟩

/-- The slots that are told on: the first ones of the list that the old slots hold. -/
def keepE (ts : List Nat) (e : Env) : Env := match ts with
  | [] => []
  | t :: r => match lk e t with
    | some (g, v) => (t, g, v) :: keepE r e
    | none => keepE r e

theorem keepE_sub : ∀ (ts : List Nat) (e : Env), Sub (keepE ts e) e
  | [], _ => fun t g v hh => by simp [keepE, lk] at hh
  | t :: r, e => by
    intro t' g' v' hh
    unfold keepE at hh
    cases he : lk e t with
    | none => rw [he] at hh; exact keepE_sub r e t' g' v' hh
    | some p =>
      obtain ⟨g, v⟩ := p
      rw [he] at hh
      simp only [lk] at hh
      by_cases ht : t = t'
      · rw [if_pos ht] at hh; subst ht; rw [he]; exact hh
      · rw [if_neg ht] at hh; exact keepE_sub r e t' g' v' hh

theorem TK.keep (ts : List Nat) {c : KC} (k : TK P nt c Q (keepE ts env) h) : TK P nt c Q env h := TK.sub (keepE_sub ts env) k

/-! ### functions -/
def resA : List Nat → Env → AV × Prop
  | [t], env => (((lk env t).getD (false, .junk)).2, ((lk env t).getD (false, .junk)).1 = true)
  | ts, env => (.tup ts.length (ofL (ts.map fun t => ((lk env t).getD (false, .junk)).2)), ∀ t ∈ ts, ((lk env t).getD (false, .junk)).1 = true)

/-- The function comes back with its results. -/
def RetQ (ts : List Nat) (R : AV → Hp → Prop) : Post
  | .normal, env, h => (resA ts env).2 ∧ R (resA ts env).1 h
  | .ret, env, h => (resA ts env).2 ∧ R (resA ts env).1 h
  | _, _, _ => False

def argsE : Nat → List AV → Env
  | _, [] => []
  | i, v :: r => (i, true, v) :: argsE (i + 1) r

theorem argsE_at : ∀ (l : List AV) (i t : Nat) (g : Bool) (v : AV), lk (argsE i l) t = some (g, v) → g = true ∧ i ≤ t ∧ t < i + l.length ∧ v = ofL l (t - i)
  | [], i, t, g, v, hh => by simp [argsE, lk] at hh
  | x :: l, i, t, g, v, hh => by
    simp only [argsE, lk] at hh
    by_cases ht : i = t
    · rw [if_pos ht] at hh
      simp only [Option.some.injEq, Prod.mk.injEq] at hh
      obtain ⟨rfl, rfl⟩ := hh
      subst ht
      exact ⟨rfl, by omega, by simp, by simp [ofL]⟩
    · rw [if_neg ht] at hh
      obtain ⟨h1, h2, h3, h4⟩ := argsE_at l (i + 1) t g v hh
      refine ⟨h1, by omega, by simp; omega, ?_⟩
      rw [h4]
      simp only [ofL]
      rw [show t - i = (t - (i + 1)) + 1 by omega]
      simp

/-- What is known of a function's text. -/
structure Body (P : Program) (f : FuncId) (nt : Nat) (ts : List Nat) (k : KC) : Prop where
  enters : Enters P f
  body : ∃ fn c, P.funcs[f]? = some fn ∧ fn.body = some c ∧ cookC c = some k ∧ fn.ntmps = nt ∧ fn.results.toList = ts.map ResultVar.tmp

def resV (tmps : Array Value) : List Nat → Value
  | [t] => tmps.getD t undef
  | ts => .tuple (ts.map fun t => tmps.getD t undef).toArray

theorem run_results {P : Program} {fn : Func} {ts : List Nat} (h : fn.results.toList = ts.map ResultVar.tmp) (tmps : Array Value) (w : World) :
    (results fn tmps).run P w = .ok (resV tmps ts) w := by
  have hr : fn.results = (ts.map ResultVar.tmp).toArray := by rw [← h]
  unfold results
  rw [hr]
  have hm : ∀ f : ResultVar → Sem Value, (∀ t, f (.tmp t) = Pure.pure (tmps.getD t undef)) → ((ts.map ResultVar.tmp).toArray.mapM f).run P w = .ok (ts.map fun t => tmps.getD t undef).toArray w := by
    intro f hf
    have := run_mapM_array (P := P) (w := w) (f := f) (g := fun x => match x with | .tmp t => tmps.getD t undef | .cell _ _ => undef) (ts.map ResultVar.tmp).toArray (by
        intro x hx
        simp only [List.mem_map] at hx
        obtain ⟨t, _, rfl⟩ := hx
        simp [hf])
    rw [this]
    congr 1
    simp
  rw [Sem.run_bind, hm _ (fun t => rfl)]
  simp only [Result.andThen_ok, Sem.run_pure]
  cases ts with
  | nil => simp [resV]
  | cons t r => cases r <;> simp [resV]

theorem resA_ok {μ : Mu} {a : Act} {w : World} (he : EnvR μ w env a) {ts : List Nat} (hs : (resA ts env).2) :
    VR μ w (resA ts env).1 (resV a.tmps ts) := by
  have one : ∀ t, ((lk env t).getD (false, .junk)).1 = true → VR μ w ((lk env t).getD (false, .junk)).2 (a.tmps.getD t undef) := by
    intro t ht
    cases hl : lk env t with
    | none => rw [hl] at ht; simp at ht
    | some p =>
      obtain ⟨g, v⟩ := p
      rw [hl] at ht
      exact (he t g v hl).1 ht
  have many : ∀ ts : List Nat, (∀ t ∈ ts, ((lk env t).getD (false, .junk)).1 = true) →
      VR μ w (.tup ts.length (ofL (ts.map fun t => ((lk env t).getD (false, .junk)).2))) (.tuple (ts.map fun t => a.tmps.getD t undef).toArray) := by
    intro ts hh
    refine ⟨_, rfl, by simp, fun i hi => ?_⟩
    have hm : ts[i] ∈ ts := List.getElem_mem hi
    have := one _ (hh _ hm)
    simpa [ofL, hi, List.getD_eq_getElem?_getD] using this
  match ts, hs with
  | [], hs => exact many [] (fun t ht => absurd ht (by simp))
  | [t], hs => exact one t hs
  | t :: t' :: r, hs => exact many _ hs

/-- A FUNCTION OF VALUES, by its text. -/
theorem Fun.of {f : FuncId} {ts : List Nat} {k : KC} (B : Body P f nt ts k) {args : List AV} {R : AV → Prop} (hn : args.length ≤ nt) (ha : ∀ x ∈ args, x.val)
    (hT : TK P nt k (RetQ ts fun r _ => R r ∧ r.val) (argsE 0 args) []) : Fun P f args R := by
  refine ⟨B.enters, fun μ w cargs hm hsz hargs => ?_⟩
  obtain ⟨fn, c, hf, hb, hc, hnt, hres⟩ := B.body
  let μ0 : Mu := { f := fun _ => none, nx := μ.nx, vir := fun _ => False, ban := fun g => μ.ban g ∨ ∃ b B, μ.f b = some B ∧ B.g = g }
  have hse : ∀ w' g, Sealed μ w' g → Sealed μ0 w' g := fun w' g hs => ⟨hs.1, fun hb => by
    rcases hb with hb | ⟨b, B, e, he⟩
    · exact hs.2.1 hb
    · exact hs.2.2 b B e he, fun b B e => by simp [μ0] at e⟩
  have hsim : Sim μ0 [] w := ⟨fun b r e => by simp [Hp.get] at e, fun _ _ _ _ e => by simp [μ0] at e, fun _ _ e => by simp [μ0] at e, fun _ e => e.elim, fun _ _ e => by simp [μ0] at e, fun g hg => by
    rcases hg with hg | ⟨b, B, e, rfl⟩
    · exact hm.2 g hg
    · exact hm.1 b B e⟩
  have hA : SimA nt μ0 (argsE 0 args) [] { tmps := cargs ++ Array.replicate (fn.ntmps - cargs.size) undef, defers := [] } w := by
    refine ⟨hsim, fun t g v e => ?_, by simp; omega, rfl⟩
    obtain ⟨rfl, _, h2, rfl⟩ := argsE_at args 0 t g v e
    refine ⟨fun _ => ?_, fun hh => by simp at hh⟩
    have ht : t < args.length := by omega
    have h3 : (cargs ++ Array.replicate (fn.ntmps - cargs.size) undef).getD t undef = cargs.getD t undef := by
      simp [Array.getD_eq_getD_getElem?, Array.getElem?_append, hsz, ht]
    simp only [Nat.sub_zero]
    rw [h3]
    exact VR.conv (hse w) _ _ (ha _ (by simp only [ofL]; rw [List.getD_eq_getElem?_getD, List.getElem?_eq_getElem ht]; exact List.getElem_mem ht)) (hargs t ht)
  have := hT c hc μ0 _ w hA
  refine calls_of_wp hf hb (wp_mono this ?_)
  rintro e a' w' ⟨μ', env', h', q, s', st⟩
  have fin : (resA ts env').2 ∧ R (resA ts env').1 ∧ (resA ts env').1.val → a'.defers = [] ∧ ∃ v, (results fn a'.tmps).run P w' = .ok v w' ∧ ∃ c r, Ending.returned v = .returned c ∧ R r ∧ r.val ∧ VR μ w' r c ∧ Below w.heap.size w w' := by
    rintro ⟨h1, h2, hv⟩
    refine ⟨s'.defers, _, run_results hres _ _, _, _, rfl, h2, hv, ?_, ?_⟩
    · have hv1 := resA_ok s'.env h1
      refine VR.conv (fun g hg => ?_) _ _ hv hv1
      refine ⟨hg.1, fun hb => hg.2.1 ((st.ban g).2 (.inl hb)), fun b B e he => hg.2.1 ((st.ban g).2 (.inr ⟨b, B, e, he⟩))⟩
    · exact ⟨st.os, st.tape, st.output, st.size, fun g hg => st.keep g hg (by
        by_cases hb : μ0.ban g
        · exact .inl hb
        · exact .inr ⟨hg, hb, fun b B e => by simp [μ0] at e⟩)⟩
  cases e with
  | normal => exact fin q
  | ret => exact fin q
  | _ => exact q.elim

/-- A FUNCTION THAT TURNS OWN ROWS, by its text. -/
theorem TC.of {f : FuncId} {ts : List Nat} {k : KC} (B : Body P f nt ts k) {args : List AV} {Q : AV → Hp → Prop} (hn : args.length ≤ nt)
    (hT : TK P nt k (RetQ ts Q) (argsE 0 args) h) : TC P f args h Q := by
  refine ⟨B.enters, fun μ w cargs hs hsz hargs => ?_⟩
  obtain ⟨fn, c, hf, hb, hc, hnt, hres⟩ := B.body
  have hA : SimA nt μ (argsE 0 args) h { tmps := cargs ++ Array.replicate (fn.ntmps - cargs.size) undef, defers := [] } w := by
    refine ⟨hs, fun t g v e => ?_, by simp; omega, rfl⟩
    obtain ⟨rfl, _, h2, rfl⟩ := argsE_at args 0 t g v e
    refine ⟨fun _ => ?_, fun hh => by simp at hh⟩
    have ht : t < args.length := by omega
    have h3 : (cargs ++ Array.replicate (fn.ntmps - cargs.size) undef).getD t undef = cargs.getD t undef := by
      simp [Array.getD_eq_getD_getElem?, Array.getElem?_append, hsz, ht]
    simp only [Nat.sub_zero]
    rw [h3]
    exact hargs t ht
  refine calls_of_wp hf hb (wp_mono (hT c hc μ _ w hA) ?_)
  rintro e a' w' ⟨μ', env', h', q, s', st⟩
  have fin : (resA ts env').2 ∧ Q (resA ts env').1 h' → a'.defers = [] ∧ ∃ v, (results fn a'.tmps).run P w' = .ok v w' ∧ ∃ c r μ' h', Ending.returned v = .returned c ∧ Q r h' ∧ VR μ' w' r c ∧ Sim μ' h' w' ∧ Step μ w μ' w' := by
    rintro ⟨h1, h2⟩
    exact ⟨s'.defers, _, run_results hres _ _, _, _, μ', h', rfl, h2, resA_ok s'.env h1, s'.sim, st⟩
  cases e with
  | normal => exact fin q
  | ret => exact fin q
  | _ => exact q.elim

end
end Go.AM
