import Derived.Test.YtpipaggkbiapjaaDoorXM
/- Functions whose results lie in cells. -/
namespace Go.AX
open Go.AM Go.RowKit

/-- Where a result lies. -/
inductive RS where
  | t (n : Nat)
  | c (n : Nat) (ty : TypeId)
def RS.var : RS → ResultVar
  | .t n => .tmp n
  | .c n ty => .cell n ty
def RS.i : RS → I
  | .t n => .mv (.t n)
  | .c n ty => .ld ty (.t n)
def ResL (C : Cx) (h : Hp) (env : Env) : List RS → List AV → Prop
  | [], [] => True
  | r :: rs, v :: vs => PVok C h env r.i true v ∧ ResL C h env rs vs
  | _, _ => False
def oneV : List AV → AV
  | [v] => v
  | vs => .tup vs.length (ofL vs)
def RetC (C : Cx) (rs : List RS) (Q : AV → Hp → Prop) : Post
  | .normal, env, h => ∃ vs, ResL C h env rs vs ∧ Q (oneV vs) h
  | .ret, env, h => ∃ vs, ResL C h env rs vs ∧ Q (oneV vs) h
  | _, _, _ => False
structure BodyC (C : Cx) (f : FuncId) (nt : Nat) (rs : List RS) (k : KC) : Prop where
  enters : Enters C.P f
  body : ∃ fn c, C.P.funcs[f]? = some fn ∧ fn.body = some c ∧ cookC c = some k ∧ fn.ntmps = nt ∧ fn.results.toList = rs.map RS.var

section
variable {C : Cx} {nt : Nat} {env : Env} {h : Hp}

/-- One result. -/
theorem res_one {μ : Mu} {a : Act} {w : World} (s : SimA nt μ env h a w) {f : ResultVar → Sem Value} (hf1 : ∀ t, f (.tmp t) = Pure.pure (a.tmps.getD t undef)) (hf2 : ∀ t ty, f (.cell t ty) = do loadVar ty (← asAddr (a.tmps.getD t undef)))
    {r : RS} {v : AV} (hv : PVok C h env r.i true v) : ∃ c, (f r.var).run C.P w = .ok c w ∧ VR μ w v c := by
  obtain ⟨h1, h2⟩ := hv rfl
  cases r with
  | t n =>
    simp only [RS.i, pv] at h1 h2
    refine ⟨a.tmps.getD n undef, by rw [RS.var, hf1]; rfl, ?_⟩
    have := ev_ok (x := .t n) (o := .tmp n) rfl s.env h2
    rw [h1] at this
    exact this
  | c n ty =>
    simp only [RS.i, pv] at h1 h2
    have hx := ev_ok (x := .t n) (o := .tmp n) rfl s.env h2.1
    obtain ⟨c, h3, h4⟩ := loadA_ok s.sim hx h2.2
    rw [h1] at h4
    refine ⟨c, ?_, h4⟩
    rw [RS.var, hf2]
    have hp : ∃ p, a.tmps.getD n undef = .pointer (some p) := by
      have hx : VR μ w (ev env (.t n)).2 (a.tmps.getD n undef) := hx
      have h5 := h2.2
      unfold loadA at h5
      split at h5
      · exact h5.elim
      · split at h5
        · rename_i heq
          rw [heq] at hx
          obtain ⟨g, o, e, _⟩ := hx
          exact ⟨_, e⟩
        · rename_i b off st heq
          rw [heq] at hx
          split at h5
          · rename_i r hr
            obtain ⟨_, _, _, _, _, _, _, e, _⟩ := s.sim.ref (by unfold refOK; rw [hr]; exact h5.2.1) hx
            exact ⟨_, e⟩
          · exact h5.elim
        · exact h5.elim
    obtain ⟨p, hp⟩ := hp
    have h3 : (Instr.loadAt ty (a.tmps.getD n undef)).run C.P w = .ok c w := h3
    rw [hp] at h3 ⊢
    simpa [Instr.loadAt, Instr.sureAddr, asAddr] using h3

theorem res_list {μ : Mu} {a : Act} {w : World} (s : SimA nt μ env h a w) {f : ResultVar → Sem Value} (hf1 : ∀ t, f (.tmp t) = Pure.pure (a.tmps.getD t undef)) (hf2 : ∀ t ty, f (.cell t ty) = do loadVar ty (← asAddr (a.tmps.getD t undef))) :
    ∀ {rs : List RS} {vs : List AV}, ResL C h env rs vs → ∃ cs : List Value, ((rs.map RS.var).mapM f).run C.P w = .ok cs w ∧ cs.length = vs.length ∧ ∀ i, i < vs.length → VR μ w (ofL vs i) (cs.toArray.getD i undef)
  | [], [], _ => ⟨[], by simp, rfl, fun i hi => by simp at hi⟩
  | r :: rs, v :: vs, ⟨h1, h2⟩ => by
    obtain ⟨c, h3, h4⟩ := res_one s hf1 hf2 h1
    obtain ⟨cs, h5, h6, h7⟩ := res_list s hf1 hf2 h2
    refine ⟨c :: cs, ?_, by simp [h6], fun i hi => ?_⟩
    · simp only [List.map_cons, List.mapM_cons]
      rw [Sem.run_bind, h3]
      simp only [Result.andThen_ok]
      rw [Sem.run_bind, h5]
      rfl
    · cases i with
      | zero => exact h4
      | succ i =>
        have := h7 i (by simpa using hi)
        simpa [ofL, Array.getD] using this

theorem res_run {μ : Mu} {a : Act} {w : World} (s : SimA nt μ env h a w) {fn : Func} {rs : List RS} {vs : List AV} (hr : fn.results.toList = rs.map RS.var) (hv : ResL C h env rs vs) : ∃ c, (results fn a.tmps).run C.P w = .ok c w ∧ VR μ w (oneV vs) c := by
  have hr' : fn.results = (rs.map RS.var).toArray := by rw [← hr]
  obtain ⟨f, hf0, hf1, hf2⟩ : ∃ f : ResultVar → Sem Value, results fn a.tmps = (do let vs ← fn.results.mapM f; Pure.pure (if h : vs.size = 1 then vs[0] else .tuple vs)) ∧ (∀ t, f (.tmp t) = Pure.pure (a.tmps.getD t undef)) ∧ (∀ t ty, f (.cell t ty) = do loadVar ty (← asAddr (a.tmps.getD t undef))) :=
    ⟨_, rfl, fun t => rfl, fun t ty => rfl⟩
  rw [hf0, hr']
  have key : ∀ f : ResultVar → Sem Value, (∀ t, f (.tmp t) = Pure.pure (a.tmps.getD t undef)) → (∀ t ty, f (.cell t ty) = do loadVar ty (← asAddr (a.tmps.getD t undef))) →
      ∃ cs : List Value, (((rs.map RS.var).toArray).mapM f).run C.P w = .ok cs.toArray w ∧ cs.length = vs.length ∧ ∀ i, i < vs.length → VR μ w (ofL vs i) (cs.toArray.getD i undef) := by
    intro f hf1 hf2
    obtain ⟨cs, h1, h2, h3⟩ := res_list s hf1 hf2 hv
    refine ⟨cs, ?_, h2, h3⟩
    rw [Array.mapM_eq_mapM_toList, Sem.run_map]
    simp only [h1, Result.andThen_ok]
  obtain ⟨cs, h1, h2, h3⟩ := key f hf1 hf2
  refine ⟨if h : cs.toArray.size = 1 then cs.toArray[0] else .tuple cs.toArray, ?_, ?_⟩
  · rw [Sem.run_bind, h1]
    simp
  · match vs, h2, h3 with
    | [v], h2, h3 =>
      have hs : cs.toArray.size = 1 := by simpa using h2
      rw [dif_pos hs]
      have := h3 0 (by simp)
      simpa [ofL, Array.getD, hs, oneV] using this
    | [], h2, h3 =>
      rw [dif_neg (by simp at h2; simp [h2])]
      exact ⟨_, rfl, by simpa using h2, fun i hi => by simp at hi⟩
    | v1 :: v2 :: r, h2, h3 =>
      rw [dif_neg (by simp at h2 ⊢; omega)]
      exact ⟨_, rfl, by simpa using h2, fun i hi => h3 i hi⟩

/-- A FUNCTION OF VALUES, by its text. -/
theorem Fun.ofC {f : FuncId} {rs : List RS} {k : KC} (B : BodyC C f nt rs k) {args : List AV} {R : AV → Prop} (hn : args.length ≤ nt) (ha : ∀ x ∈ args, x.val)
    (hT : TK C.P nt k (RetC C rs fun r _ => R r ∧ r.val) (argsE 0 args) []) : Fun C.P f args R := by
  refine ⟨B.enters, fun μ w cargs hm hsz hargs => ?_⟩
  obtain ⟨fn, c, hf, hb, hc, hnt, hres⟩ := B.body
  let μ0 : Mu := { f := fun _ => none, nx := μ.nx, vir := fun _ => False, ban := fun g => μ.ban g ∨ ∃ b B, μ.f b = some B ∧ B.g = g }
  have hse : ∀ w' g, Sealed μ w' g → Sealed μ0 w' g := fun w' g hs => ⟨hs.1, fun hb => by
    rcases hb with hb | ⟨b, B, e, he⟩
    · exact hs.2.1 hb
    · exact hs.2.2 b B e he, fun b B e => by simp [μ0] at e⟩
  have hsim : Sim μ0 [] w := ⟨fun b r e => by simp [Hp.get] at e, fun _ _ _ _ e => by simp [μ0] at e, fun _ _ e => by simp [μ0] at e, fun _ e => e.elim, fun _ _ e => by simp [μ0] at e, fun g hg => by
    rcases hg with hg | ⟨b, B, e, rfl⟩
    · exact hm.2 g hg
    · exact hm.1 b B e⟩
  have hA : SimA nt μ0 (argsE 0 args) [] { tmps := cargs ++ Array.replicate (fn.ntmps - cargs.size) undef, defers := [] } w := by
    refine ⟨hsim, fun t g v e => ?_, by simp; omega, rfl⟩
    obtain ⟨rfl, _, h2, rfl⟩ := argsE_at args 0 t g v e
    refine ⟨fun _ => ?_, fun hh => by simp at hh⟩
    have ht : t < args.length := by omega
    have h3 : (cargs ++ Array.replicate (fn.ntmps - cargs.size) undef).getD t undef = cargs.getD t undef := by
      simp [Array.getD_eq_getD_getElem?, Array.getElem?_append, hsz, ht]
    simp only [Nat.sub_zero]
    rw [h3]
    exact VR.conv (hse w) _ _ (ha _ (by simp only [ofL]; rw [List.getD_eq_getElem?_getD, List.getElem?_eq_getElem ht]; exact List.getElem_mem ht)) (hargs t ht)
  have := hT c hc μ0 _ w hA
  refine calls_of_wp hf hb (wp_mono this ?_)
  rintro e a' w' ⟨μ', env', h', q, s', st⟩
  have fin : (∃ vs, ResL C h' env' rs vs ∧ R (oneV vs) ∧ (oneV vs).val) → a'.defers = [] ∧ ∃ v, (results fn a'.tmps).run C.P w' = .ok v w' ∧ ∃ c r, Ending.returned v = .returned c ∧ R r ∧ r.val ∧ VR μ w' r c ∧ Below w.heap.size w w' := by
    rintro ⟨vs, h1, h2, hv⟩
    obtain ⟨c, hc1, hc2⟩ := res_run s' hres h1
    refine ⟨s'.defers, c, hc1, c, _, rfl, h2, hv, ?_, ?_⟩
    · refine VR.conv (fun g hg => ?_) _ _ hv hc2
      refine ⟨hg.1, fun hb => hg.2.1 ((st.ban g).2 (.inl hb)), fun b B e he => hg.2.1 ((st.ban g).2 (.inr ⟨b, B, e, he⟩))⟩
    · exact ⟨st.os, st.tape, st.output, st.size, fun g hg => st.keep g hg (by
        by_cases hb : μ0.ban g
        · exact .inl hb
        · exact .inr ⟨hg, hb, fun b B e => by simp [μ0] at e⟩)⟩
  cases e with
  | normal => exact fin q
  | ret => exact fin q
  | _ => exact q.elim

/-- A FUNCTION THAT TURNS OWN ROWS, by its text. -/
theorem TC.ofC {f : FuncId} {rs : List RS} {k : KC} (B : BodyC C f nt rs k) {args : List AV} {Q : AV → Hp → Prop} (hn : args.length ≤ nt)
    (hT : TK C.P nt k (RetC C rs Q) (argsE 0 args) h) : TC C.P f args h Q := by
  refine ⟨B.enters, fun μ w cargs hs hsz hargs => ?_⟩
  obtain ⟨fn, c, hf, hb, hc, hnt, hres⟩ := B.body
  have hA : SimA nt μ (argsE 0 args) h { tmps := cargs ++ Array.replicate (fn.ntmps - cargs.size) undef, defers := [] } w := by
    refine ⟨hs, fun t g v e => ?_, by simp; omega, rfl⟩
    obtain ⟨rfl, _, h2, rfl⟩ := argsE_at args 0 t g v e
    refine ⟨fun _ => ?_, fun hh => by simp at hh⟩
    have ht : t < args.length := by omega
    have h3 : (cargs ++ Array.replicate (fn.ntmps - cargs.size) undef).getD t undef = cargs.getD t undef := by
      simp [Array.getD_eq_getD_getElem?, Array.getElem?_append, hsz, ht]
    simp only [Nat.sub_zero]
    rw [h3]
    exact hargs t ht
  refine calls_of_wp hf hb (wp_mono (hT c hc μ _ w hA) ?_)
  rintro e a' w' ⟨μ', env', h', q, s', st⟩
  have fin : (∃ vs, ResL C h' env' rs vs ∧ Q (oneV vs) h') → a'.defers = [] ∧ ∃ v, (results fn a'.tmps).run C.P w' = .ok v w' ∧ ∃ c r μ' h', Ending.returned v = .returned c ∧ Q r h' ∧ VR μ' w' r c ∧ Sim μ' h' w' ∧ Step μ w μ' w' := by
    rintro ⟨vs, h1, h2⟩
    obtain ⟨c, hc1, hc2⟩ := res_run s' hres h1
    exact ⟨s'.defers, c, hc1, c, _, μ', h', rfl, h2, hc2, s'.sim, st⟩
  cases e with
  | normal => exact fin q
  | ret => exact fin q
  | _ => exact q.elim
theorem TCX.ofC {f : FuncId} {rs : List RS} {k : KC} (B : BodyC C f nt rs k) {args : List AV} {Q : AV → Hp → Prop} (hn : args.length ≤ nt)
    (hT : TK C.P nt k (RetC C rs fun r h' => Q r h' ∧ Nd h' ∧ inH h' r ∧ clH h') (argsE 0 args) h) : TCX C.P f args h Q := TC.ofC B hn hT

/-- How it comes back. -/
theorem retC {rs : List RS} {R : AV → Prop} (vs : List AV) (hv : ResL C h env rs vs) (hR : R (oneV vs)) (hval : (oneV vs).val) : RetC C rs (fun r _ => R r ∧ r.val) .ret env h := ⟨vs, hv, hR, hval⟩
theorem retXC {rs : List RS} {R : AV → Hp → Prop} (vs : List AV) (hv : ResL C h env rs vs) (hR : R (oneV vs) h) (nd : Nd h) (hin : inH h (oneV vs)) (hcl : rowsIn h h) : RetC C rs (fun r h' => R r h' ∧ Nd h' ∧ inH h' r ∧ clH h') .ret env h :=
  ⟨vs, hv, hR, nd, hin, clH_of hcl⟩
theorem RetC_end {rs : List RS} {R : AV → Hp → Prop} (hh : RetC C rs R .ret env h) : RetC C rs R .normal env h := hh
/-- nil where a list of nothing is asked. -/
theorem Fun.wk {P : Program} {f : FuncId} {args args' : List AV} {R : AV → Prop} (hw : WkL args args') (hf : Fun P f args' R) : Fun P f args R := by
  refine ⟨hf.enters, fun μ w cargs hm hsz hargs => ?_⟩
  have hl := hw.len
  refine hf.calls μ w cargs hm (by omega) fun i hi => ?_
  exact WkL.at hw i μ w _ (hargs i (by omega))
end
end Go.AX
