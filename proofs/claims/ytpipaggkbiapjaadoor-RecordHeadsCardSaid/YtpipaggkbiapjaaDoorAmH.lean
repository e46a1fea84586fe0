import Derived.Test.YtpipaggkbiapjaaDoorAmG
/- The walk over operations; calls by contract; functions entered. -/
namespace Go.AM
open Go.RowKit

def gcOf (env : Env) : Option (Nat × Bool) → Option Bool
  | none => some true
  | some (d, want) => match lk env d with
    | some (g, .bool p) => some (g && (p == want))
    | _ => none

def putE (d : Option Nat) (g : Bool) (v : AV) (env : Env) : Env := match d with
  | some d => (d, g, v) :: env
  | none => env

def isPure : I → Bool
  | .mv _ => true
  | .pk _ _ _ => true
  | .al _ => false
  | .box _ _ => false
  | .bld _ _ => true
  | .bsl _ _ _ => false
  | .ld _ _ => true
  | .st _ _ _ => false
  | .nc _ => true
  | .bin _ _ _ _ => true
  | .un _ _ => true
  | .cvt _ _ _ => true
  | .mf _ _ => true
  | .mk _ _ _ => false
  | .sli _ _ _ _ _ => true
  | .fa _ _ _ => true
  | .fd _ _ _ => true
  | .ia _ _ _ => true
  | .ix _ _ _ => true
  | .ex _ _ => true
  | .call _ _ => false
  | .bi .len _ _ => true
  | .bi .min _ _ => true
  | .bi .max _ _ => true
  | .bi _ _ _ => false
  | .unk => false

section
variable {C : Cx} {nt : Nat} {env : Env} {h : Hp} {K : Env → Hp → Prop}

theorem SimA.put {μ : Mu} {a : Act} {w : World} {d : Option Nat} {g : Bool} {v : AV} {u : Value} (s : SimA nt μ env h a w) (hd : ∀ d', d = some d' → d' < nt)
    (hv : g = true → VR μ w v u) (hu : g = false → u = undef) : SimA nt μ (putE d g v env) h (a.put d u) w := by
  cases d with
  | none => exact s
  | some d => exact ⟨s.sim, s.env.put (by rw [s.size]; exact hd d rfl) hv hu, by rw [put_size]; exact s.size, by rw [put_defers]; exact s.defers⟩

def GcSays (a : Act) (gc : Bool) : Option (Nat × Bool) → Prop
  | none => gc = true
  | some (d, want) => (gc = true → a.tmps[d]? = some (.bool want)) ∧ (gc = false → ∀ b, a.tmps[d]? = some (.bool b) → b ≠ want)

/-- What a test says of the machine. -/
theorem gc_ok {μ : Mu} {a : Act} {w : World} (s : SimA nt μ env h a w) {g : Option (Nat × Bool)} {gc : Bool} (hg : gcOf env g = some gc) : GcSays a gc g := by
  cases g with
  | none => simpa [gcOf, GcSays] using hg.symm
  | some p =>
    obtain ⟨d, want⟩ := p
    simp only [gcOf] at hg
    split at hg
    case h_2 => simp at hg
    case h_1 g0 p e =>
      simp only [Option.some.injEq] at hg
      subst hg
      obtain ⟨h1, h2⟩ := s.env d g0 (.bool p) e
      simp only [GcSays]
      cases g0 with
      | true =>
        have hv : a.tmps.getD d undef = .bool p := h1 rfl
        have hlt : d < a.tmps.size := by
          rcases Nat.lt_or_ge d a.tmps.size with hlt | hge
          · exact hlt
          · simp [Array.getD, Nat.not_lt.2 hge, undef] at hv
        have hget : a.tmps[d]? = some (.bool p) := by
          simp only [Array.getD, hlt, dite_true] at hv
          rw [Array.getElem?_eq_getElem hlt]
          exact congrArg some hv
        refine ⟨fun hh => ?_, fun hh b hb => ?_⟩
        · have : p = want := by simpa using hh
          rw [hget, this]
        · rw [hget] at hb
          injection hb with hb
          injection hb with hb
          subst hb
          simpa using hh
      | false =>
        have hv : a.tmps.getD d undef = undef := h2 rfl
        refine ⟨fun hh => by simp at hh, fun _ b hb => ?_⟩
        have hlt : d < a.tmps.size := by
          rcases Nat.lt_or_ge d a.tmps.size with hlt | hge
          · exact hlt
          · simp [Array.getElem?_eq_none hge] at hb
        rw [Array.getElem?_eq_getElem hlt] at hb
        injection hb with hb
        simp only [Array.getD, hlt, dite_true] at hv
        have hv' : a.tmps[d] = undef := hv
        rw [hv'] at hb
        simp [undef] at hb

theorem TL.nil {P : Program} (hK : K env h) : TL P nt [] K env h := by
  intro os hl hz μ a w hs
  have : os = [] := by simpa using hl
  subst this
  exact ⟨μ, env, h, hK, hs, Step.refl _ _⟩

/-- One operation more, by what it does to the machine. -/
theorem TL.cons {P : Program} {k : KO} {ks : List KO} {gc : Bool} (hg : gcOf env k.g = some gc)
    (hrun : ∀ (o : Oper) (μ : Mu) (a : Act) (w : World), cookOp o.op = some k.i → o.dst = k.d → SimA nt μ env h a w → gc = true → ∀ (N : Act → World → Prop),
      (∀ μ' env' h' a' w', SimA nt μ' env' h' a' w' → Step μ w μ' w' → TL P nt ks K env' h' → N a' w') → o.wp P a w N (fun _ _ _ => False))
    (hskip : gc = false → (∀ d, k.d = some d → d < nt) ∧ TL P nt ks K (putE k.d false .junk env) h) : TL P nt (k :: ks) K env h := by
  intro os hl hz μ a w hs
  cases os with
  | nil => simp at hl
  | cons o os =>
    have hl' : os.length = ks.length := by simpa using hl
    have hz' : ∀ p ∈ os.zip ks, cookOp p.1.op = some p.2.i ∧ p.1.dst = p.2.d := fun p hp => hz p (by simp [hp])
    obtain ⟨ho, hd⟩ := hz (o, k) (by simp)
    have hgo := gc_ok hs hg
    have exec : gc = true → o.wp P a w (wpK P (fun a' w' => ∃ μ' env' h', K env' h' ∧ SimA nt μ' env' h' a' w' ∧ Step μ w μ' w') (os.zip ks)) (fun _ _ _ => False) := by
      intro hgc
      refine hrun o μ a w ho hd hs hgc _ ?_
      intro μ1 env1 h1 a1 w1 hs1 st1 ht
      refine wpK_mono ?_ _ _ _ (ht os hl' hz' μ1 a1 w1 hs1)
      rintro a2 w2 ⟨μ2, env2, h2, hk, hs2, st2⟩
      exact ⟨μ2, env2, h2, hk, hs2, st1.trans st2⟩
    have skip : gc = false → wpK P (fun a' w' => ∃ μ' env' h', K env' h' ∧ SimA nt μ' env' h' a' w' ∧ Step μ w μ' w') (os.zip ks) (a.put o.dst undef) w := by
      intro hgc
      obtain ⟨h1, h2⟩ := hskip hgc
      rw [hd]
      exact h2 os hl' hz' μ _ w (hs.put h1 (fun e => by simp at e) (fun _ => rfl))
    simp only [List.zip_cons_cons, wpK]
    cases hkg : k.g with
    | none => rw [hkg] at hgo; exact exec hgo
    | some p =>
      obtain ⟨d, want⟩ := p
      rw [hkg] at hgo
      simp only [GcSays] at hgo ⊢
      cases hgc : gc with
      | true =>
        rw [hgo.1 hgc]
        simp only [if_true]
        exact exec hgc
      | false =>
        have hne := hgo.2 hgc
        split
        · rename_i b hb
          rw [if_neg (hne b hb)]
          exact skip hgc
        · exact skip hgc
where
  wpK_mono {P : Program} {Q Q' : Act → World → Prop} (hq : ∀ a w, Q a w → Q' a w) : ∀ (l : List (Oper × KO)) (a : Act) (w : World), wpK P Q l a w → wpK P Q' l a w := by
    intro l
    induction l with
    | nil => exact fun a w hh => hq a w hh
    | cons x l ih =>
      obtain ⟨o, k⟩ := x
      intro a w hh
      simp only [wpK] at hh ⊢
      have up : ∀ {a w}, o.wp P a w (wpK P Q l) (fun _ _ _ => False) → o.wp P a w (wpK P Q' l) (fun _ _ _ => False) := by
        intro a w hw
        unfold Oper.wp at hw ⊢
        generalize (execOp a.eval o).run P w = r at hw
        unfold Oper.upon at hw ⊢
        split at hw <;> first
          | exact ih _ _ hw
          | exact hw
          | (refine hw.mono ?_; intro e w' he; cases e <;> first | exact ih _ _ he | exact he | (obtain ⟨_, _, hf⟩ := he; exact hf.elim))
          | (refine hw.mono ?_; intro v w' he; exact ih _ _ he)
      split
      · rename_i hk; rw [hk] at hh; exact up hh
      · rename_i d want hk
        rw [hk] at hh
        simp only at hh
        split
        · rename_i b hb
          rw [hb] at hh
          simp only at hh
          split
          · rename_i hbw; rw [if_pos hbw] at hh; exact up hh
          · rename_i hbw; rw [if_neg hbw] at hh; exact ih _ _ hh
        · rename_i hb
          split at hh
          · rename_i b hb'; exact absurd hb' (hb b)
          · exact ih _ _ hh

/-- An operation that writes nothing. -/
theorem TL.pure {k : KO} {ks : List KO} {gc : Bool} (hg : gcOf env k.g = some gc) (hd : ∀ d, k.d = some d → d < nt) (hs : gc = true → (pv C h env k.i).2)
    (rest : TL C.P nt ks K (putE k.d gc (pv C h env k.i).1 env) h) : TL C.P nt (k :: ks) K env h := by
  refine TL.cons hg ?_ ?_
  · intro o μ a w ho hdst s hgc N hN
    obtain ⟨c, hr, hv⟩ := pv_ok s ho (hs hgc)
    unfold Oper.wp
    rw [hr]
    simp only [Oper.upon]
    rw [hdst]
    subst hgc
    exact hN μ _ h _ w (s.put hd (fun _ => hv) (fun e => by simp at e)) (Step.refl _ _) rest
  · intro hgc
    subst hgc
    refine ⟨hd, ?_⟩
    intro os hl hz μ a w s
    refine rest os hl hz μ a w ⟨s.sim, ?_, s.size, s.defers⟩
    intro t g v e
    cases hk : k.d with
    | none => rw [hk] at e; have s2 := s.env; rw [hk] at s2; exact s2 t g v e
    | some d =>
      rw [hk] at e
      have s2 := s.env
      rw [hk] at s2
      simp only [putE, lk] at e s2
      by_cases hdt : d = t
      · rw [if_pos hdt] at e
        simp only [Option.some.injEq, Prod.mk.injEq] at e
        obtain ⟨rfl, rfl⟩ := e
        exact ⟨fun hh => by simp at hh, (s2 t false .junk (by simp [lk, hdt])).2⟩
      · rw [if_neg hdt] at e
        exact s2 t g v (by simp only [lk]; rw [if_neg hdt]; exact e)

/-- The operations ahead that write nothing, all at once. -/
def RP (C : Cx) (nt : Nat) (K : Env → Hp → Prop) : List KO → Env → Hp → Prop
  | [], env, h => K env h
  | k :: ks, env, h => if isPure k.i = true then
      match gcOf env k.g, k.d with
      | some gc, some d => (d < nt ∧ (gc = true → (pv C h env k.i).2)) ∧ RP C nt K ks ((d, gc, (pv C h env k.i).1) :: env) h
      | _, _ => False
    else TL C.P nt (k :: ks) K env h

theorem RP.ok : ∀ (ks : List KO) (env : Env), RP C nt K ks env h → TL C.P nt ks K env h
  | [], env, hh => TL.nil hh
  | k :: ks, env, hh => by
    unfold RP at hh
    split at hh
    · split at hh
      case h_2 => exact hh.elim
      case h_1 gc d e1 e2 =>
        obtain ⟨⟨h1, h2⟩, h3⟩ := hh
        refine TL.pure e1 (fun d' hd' => by rw [e2] at hd'; injection hd' with hd'; omega) h2 ?_
        rw [e2]
        exact RP.ok ks _ h3
    · exact hh

/-- The places are right ones. -/
def MuOK (μ : Mu) (w : World) : Prop := (∀ b B, μ.f b = some B → B.g < w.heap.size) ∧ ∀ g, μ.ban g → g < w.heap.size

theorem Sim.muok {μ : Mu} {w : World} (s : Sim μ h w) : MuOK μ w := ⟨fun b B e => (s.lt b B e).2, s.banlt⟩

def Enters (P : Program) (f : FuncId) : Prop := ∀ args w, (callFunc f args).run P w = .ok (.enter f args) w

theorem Enters.of {P : Program} {f : FuncId} {fn : Func} (hf : P.funcs[f]? = some fn) (hn : (fn.name == "runtime.NumGoroutine") = false) (hb : fn.body.isNone = false) : Enters P f := by
  intro args w
  simp only [callFunc, Sem.run_bind, run_program, Result.andThen_ok, hf, hn, hb, Bool.false_eq_true, if_false, Sem.run_pure]

/-- THE CONTRACT OF A FUNCTION OF VALUES: called with values that tell 'args' it hands back one of which R is so; all that was stays. -/
structure Fun (P : Program) (f : FuncId) (args : List AV) (R : AV → Prop) : Prop where
  enters : Enters P f
  calls : ∀ μ w (cargs : Array Value), MuOK μ w → cargs.size = args.length → (∀ i, i < args.length → VR μ w (ofL args i) (cargs.getD i undef)) →
    Calls P f cargs w (fun e w' => ∃ c r, e = .returned c ∧ R r ∧ r.val ∧ VR μ w' r c ∧ Below w.heap.size w w')

theorem Step.of_below {μ : Mu} {w w' : World} (_ : MuOK μ w) (hb : Below w.heap.size w w') : Step μ w μ w' where
  nx := Nat.le_refl _
  old := fun _ _ B e => .inr ⟨B, e, Nat.le_refl _, fun _ => rfl⟩
  vir := fun _ _ hv => hv
  ban := fun _ => Iff.rfl
  keep := fun g hg _ => hb.block g hg
  sld := fun _ hg => ⟨Nat.lt_of_lt_of_le hg.1 hb.size, hg.2⟩
  size := hb.size
  os := hb.os
  tape := hb.tape
  output := hb.output

theorem Sim.below {μ : Mu} {w w' : World} (s : Sim μ h w) (hb : Below w.heap.size w w') : Sim μ h w' where
  row := fun b r e => by
    rcases s.row b r e with hv | ⟨B, cs, hnv, h1, h2, h3, h4, h5, h6⟩
    · exact .inl hv
    refine .inr ⟨B, cs, hnv, h1, h2, (hb.block B.g (s.lt b B h1).2).trans h3, h4, h5, fun i hi => ?_⟩
    obtain ⟨u, hu, hv⟩ := h6 i hi
    exact ⟨u, hu, VR.mono (Step.of_below s.muok hb) _ _ hv⟩
  inj := s.inj
  lt := fun b B e => ⟨(s.lt b B e).1, Nat.lt_of_lt_of_le (s.lt b B e).2 hb.size⟩
  vlt := s.vlt
  noban := s.noban
  banlt := fun g hg => Nat.lt_of_lt_of_le (s.banlt g hg) hb.size

/-- A call's arguments. -/
def argsA (env : Env) (f : X) (xs : List X) : Option (FuncId × List AV) :=
  match (ev env f).2 with
  | .fn fid m cs => some (fid, (evs env xs).map (·.2) ++ (List.range m).map cs)
  | _ => none

theorem call_run {P : Program} {μ : Mu} {a : Act} {w : World} (s : SimA nt μ env h a w) {o : Oper} {f : X} {xs : List X} {fid : FuncId} {args : List AV} (ho : cookOp o.op = some (.call f xs))
    (ha : argsA env f xs = some (fid, args)) (hgf : (ev env f).1 = true) (hgx : allG (evs env xs)) (he : Enters P fid) :
    ∃ cargs : Array Value, (execOp a.eval o).run P w = .ok (.enter fid cargs) w ∧ cargs.size = args.length ∧ ∀ i, i < args.length → VR μ w (ofL args i) (cargs.getD i undef) := by
  unfold cookOp at ho
  split at ho <;> (try (simp at ho; done)) <;> (try (split at ho <;> simp at ho <;> done))
  case h_22 fo as ts hop =>
    split at ho
    case h_2 => simp at ho
    case h_1 f' xs' h1 h2 =>
      simp only [Option.some.injEq, I.call.injEq] at ho
      obtain ⟨rfl, rfl⟩ := ho
      unfold argsA at ha
      split at ha
      case h_2 => simp at ha
      case h_1 fid' m cs e =>
        simp only [Option.some.injEq, Prod.mk.injEq] at ha
        obtain ⟨rfl, rfl⟩ := ha
        have hv := ev_ok h1 s.env hgf
        rw [e] at hv
        obtain ⟨vs, he1, hm, hc⟩ := hv
        obtain ⟨hl, hx⟩ := evs_ok h2 s.env (allG_ok hgx)
        refine ⟨as.map a.eval ++ vs, ?_, ?_, ?_⟩
        · simp [execOp, hop, resolve, he1, Deferred.ofValue, invoke]
          exact he _ _
        · simp [evs_length, hm]; simpa using hl
        · intro i hi
          have hlen : as.size = xs'.length := by simpa using hl
          simp only [ofL]
          by_cases hlt : i < xs'.length
          · have := hx i hlt
            simp only [ofL] at this
            have h3 : (as.map a.eval ++ vs).getD i undef = (as.toList.map a.eval).getD i undef := by
              simp [Array.getD_eq_getD_getElem?, List.getD_eq_getElem?_getD, Array.getElem?_append, hlen, hlt]
            rw [h3]
            have h4 : ((evs env xs').map (·.2) ++ (List.range m).map cs).getD i .junk = ((evs env xs').map (·.2)).getD i .junk := by
              simp [List.getD_eq_getElem?_getD, List.getElem?_append, evs_length, hlt]
            rw [h4]
            exact this
          · have hi' : i - xs'.length < m := by
              simp [evs_length] at hi
              omega
            have := hc (i - xs'.length) hi'
            have h3 : (as.map a.eval ++ vs).getD i undef = vs.getD (i - xs'.length) undef := by
              simp [Array.getD_eq_getD_getElem?, Array.getElem?_append, hlen, hlt]
            rw [h3]
            have h4 : ((evs env xs').map (·.2) ++ (List.range m).map cs).getD i .junk = cs (i - xs'.length) := by
              simp [List.getD_eq_getElem?_getD, List.getElem?_append, evs_length, hlt, hi']
            rw [h4]
            exact this

theorem TL.under {P : Program} {ks : List KO} {d : Option Nat} {v v' : AV} (k : TL P nt ks K (putE d false v env) h) : TL P nt ks K (putE d false v' env) h := by
  intro os hl hz μ a w s
  refine k os hl hz μ a w ⟨s.sim, ?_, s.size, s.defers⟩
  intro t g u e
  cases d with
  | none => exact s.env t g u e
  | some d =>
    have s2 := s.env
    simp only [putE, lk] at e s2
    by_cases hdt : d = t
    · rw [if_pos hdt] at e
      simp only [Option.some.injEq, Prod.mk.injEq] at e
      obtain ⟨rfl, rfl⟩ := e
      exact ⟨fun hh => by simp at hh, (s2 t false v' (by simp [lk, hdt])).2⟩
    · rw [if_neg hdt] at e
      exact s2 t g u (by simp only [lk]; rw [if_neg hdt]; exact e)

/-- A call by contract. -/
theorem TL.call {P : Program} {k : KO} {ks : List KO} {f : X} {xs : List X} {gc : Bool} {fid : FuncId} {args : List AV} {R : AV → Prop} (hi : k.i = .call f xs) (hg : gcOf env k.g = some gc)
    (hd : ∀ d, k.d = some d → d < nt) (ha : argsA env f xs = some (fid, args)) (hgx : gc = true → (ev env f).1 = true ∧ allG (evs env xs)) (hf : gc = true → Fun P fid args R)
    (rest : ∀ r, (gc = true → R r ∧ r.val) → TL P nt ks K (putE k.d gc r env) h) : TL P nt (k :: ks) K env h := by
  refine TL.cons hg ?_ ?_
  · intro o μ a w ho hdst s hgc N hN
    rw [hi] at ho
    have F := hf hgc
    obtain ⟨cargs, hr, hsz, hv⟩ := call_run s ho ha (hgx hgc).1 (hgx hgc).2 F.enters
    unfold Oper.wp
    rw [hr]
    simp only [Oper.upon]
    refine (F.calls μ w cargs s.sim.muok hsz hv).mono ?_
    rintro e w' ⟨c, r, rfl, hR, hrval, hrv, hb⟩
    simp only
    rw [hdst]
    have st := Step.of_below s.sim.muok hb
    have s' : SimA nt μ env h a w' := ⟨s.sim.below hb, s.env.mono st, s.size, s.defers⟩
    have := rest r fun _ => ⟨hR, hrval⟩
    subst hgc
    exact hN μ _ h _ w' (s'.put hd (fun _ => hrv) (fun e => by simp at e)) st this
  · intro hgc
    have := rest .junk fun hh => by rw [hgc] at hh; cases hh
    subst hgc
    exact ⟨hd, this⟩

/-- A call that hands back what is told. -/
theorem TL.callv {P : Program} {k : KO} {ks : List KO} {f : X} {xs : List X} {gc : Bool} {fid : FuncId} {args : List AV} {r : AV} (hi : k.i = .call f xs) (hg : gcOf env k.g = some gc)
    (hd : ∀ d, k.d = some d → d < nt) (ha : argsA env f xs = some (fid, args)) (hgx : gc = true → (ev env f).1 = true ∧ allG (evs env xs)) (hf : gc = true → Fun P fid args (· = r))
    (rest : TL P nt ks K (putE k.d gc r env) h) : TL P nt (k :: ks) K env h := by
  refine TL.call hi hg hd ha hgx hf fun r' hr' => ?_
  cases gc with
  | true => rw [(hr' rfl).1]; exact rest
  | false => exact TL.under rest

/-- THE CONTRACT OF A FUNCTION THAT TURNS OWN ROWS. -/
structure TC (P : Program) (f : FuncId) (args : List AV) (h : Hp) (Q : AV → Hp → Prop) : Prop where
  enters : Enters P f
  calls : ∀ μ w (cargs : Array Value), Sim μ h w → cargs.size = args.length → (∀ i, i < args.length → VR μ w (ofL args i) (cargs.getD i undef)) →
    Calls P f cargs w (fun e w' => ∃ c r μ' h', e = .returned c ∧ Q r h' ∧ VR μ' w' r c ∧ Sim μ' h' w' ∧ Step μ w μ' w')

theorem TC.mono {P : Program} {f : FuncId} {args : List AV} {Q Q' : AV → Hp → Prop} (k : TC P f args h Q) (hq : ∀ r h', Q r h' → Q' r h') : TC P f args h Q' :=
  ⟨k.enters, fun μ w cargs s hs hv => (k.calls μ w cargs s hs hv).mono fun _ _ ⟨c, r, μ', h', e, q, x⟩ => ⟨c, r, μ', h', e, hq _ _ q, x⟩⟩

theorem Fun.tc {P : Program} {f : FuncId} {args : List AV} {R : AV → Prop} (k : Fun P f args R) : TC P f args h (fun r h' => R r ∧ h' = h) :=
  ⟨k.enters, fun μ w cargs s hs hv => (k.calls μ w cargs s.muok hs hv).mono fun _ _ ⟨c, r, e, q, _, hv, hb⟩ => ⟨c, r, μ, h, e, ⟨q, rfl⟩, hv, s.below hb, Step.of_below s.muok hb⟩⟩

/-- A call that turns own rows. -/
theorem TL.tc {P : Program} {k : KO} {ks : List KO} {f : X} {xs : List X} {fid : FuncId} {args : List AV} {Q : AV → Hp → Prop} (hi : k.i = .call f xs) (hg : gcOf env k.g = some true)
    (hd : ∀ d, k.d = some d → d < nt) (ha : argsA env f xs = some (fid, args)) (hgx : (ev env f).1 = true ∧ allG (evs env xs)) (hf : TC P fid args h Q)
    (rest : ∀ r h', Q r h' → TL P nt ks K (putE k.d true r env) h') : TL P nt (k :: ks) K env h := by
  refine TL.cons (gc := true) hg ?_ (fun e => by simp at e)
  intro o μ a w ho hdst s _ N hN
  rw [hi] at ho
  obtain ⟨cargs, hr, hsz, hv⟩ := call_run s ho ha hgx.1 hgx.2 hf.enters
  unfold Oper.wp
  rw [hr]
  simp only [Oper.upon]
  refine (hf.calls μ w cargs s.sim hsz hv).mono ?_
  rintro e w' ⟨c, r, μ', h', rfl, hQ, hrv, hs', st⟩
  simp only
  rw [hdst]
  have s' : SimA nt μ' env h' a w' := ⟨hs', s.env.mono st, s.size, s.defers⟩
  exact hN μ' _ h' _ w' (s'.put hd (fun _ => hrv) (fun e => by simp at e)) st (rest r h' hQ)

end
end Go.AM
