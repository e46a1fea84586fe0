import Derived.Test.YtpipaggkbiapjaaDoorXH
/- Steps of such a walk; a contract framed by rows that it does not see. -/
namespace Go.AX
open Go.AM Go.RowKit

section
variable {C : Cx} {P : Program} {nt : Nat} {env : Env} {h hS : Hp} {K : Env → Hp → Prop} {gc gx : Bool} {t : TypeId} {x : X} {u : AV} {α : Type} [Enc α]

theorem vok_p {i : I} {v : AV} (hp : PVok C h env i gc v) : gc = true → VOK C.P nt h env i v := fun hg => by
  obtain ⟨h1, h2⟩ := hp hg
  rw [← h1]
  exact VOK.pv h2
theorem vok_c {f : X} {xs : List X} {fid : FuncId} {args : List AV} {r : AV} (ha : argsA env f xs = some (fid, args)) (hgx : gc = true → (ev env f).1 = true ∧ allG (evs env xs)) (hf : gc = true → Fun P fid args (· = r)) :
    gc = true → VOK P nt h env (.call f xs) r := fun hg => VOK.call ha (hgx hg).1 (hgx hg).2 (hf hg)
theorem vok_look {f : X} {xs : List X} {fid : FuncId} {args : List AV} {r : AV} (ha : argsA env f xs = some (fid, args)) (hgx : gc = true → (ev env f).1 = true ∧ allG (evs env xs)) (hl : gc = true → allLook h args)
    (hf : gc = true → Fun P fid (args.map fun v => (lookV h v).1) (· = r)) (hr : r.closed) : gc = true → VOK P nt h env (.call f xs) r := fun hgc => by
  intro o μ a w ho s N hN
  have F := hf hgc
  obtain ⟨cargs, hr', hsz, hv⟩ := call_run s ho ha (hgx hgc).1 (hgx hgc).2 F.enters
  unfold Oper.wp
  rw [hr']
  simp only [Oper.upon]
  have hm : MuOK μ.flat w := ⟨(fun b B e => by cases e), s.sim.muok.2⟩
  refine (F.calls μ.flat w cargs hm (by simpa using hsz) (fun i hi => ?_)).mono ?_
  · have hi' : i < args.length := by simpa using hi
    obtain ⟨h1, h2⟩ := allLook_ok (hl hgc) i hi'
    rw [h2]
    exact lookV_ok s.sim h1 (hv i hi')
  rintro e w' ⟨c, r', rfl, rfl, hrval, hrv, hb⟩
  exact hN c w' (VR.closed _ _ hr hrv) hb

/-- A new block by value. -/
theorem vok_new {i : I} {v : AV} (hrun : ∀ (o : Oper) μ (a : Act) w, cookOp o.op = some i → SimA nt μ env h a w → ∃ (c : Value) (ob : Obj), (execOp a.eval o).run P w = .ok (.value c) { w with heap := w.heap.push ob } ∧ VR μ { w with heap := w.heap.push ob } v c) :
    VOK P nt h env i v := by
  intro o μ a w ho s N hN
  obtain ⟨c, ob, h1, h2⟩ := hrun o μ a w ho s
  unfold Oper.wp
  rw [h1]
  exact hN c _ h2 below_push

theorem vok_lit {n : Nat} {ps : List (Nat × X)} {e : TypeId} {ei : TI} (xs : List α) (hk : C.kd t = some (.slc e)) (he : C.ty e = some ei) (hs : ei.sz = Enc.sz α) (hl : LitL env 0 ps xs) (hn : n = xs.length) (hlim : Nat.ble (n * Enc.sz α) 16777216 = true) :
    gc = true → VOK C.P nt h env (.bsl t n ps) (L xs) := fun _ => by
  refine vok_new fun o μ a w ho s => ?_
  obtain ⟨l, S, h1, h2, h3, h4⟩ := litA_of (h := h) hl
  obtain ⟨out, hrun, o2, o3⟩ := bsl_run ho hk he (by rw [hs]; exact Nat.le_of_ble_eq_true hlim) (by rw [hs]; exact h1) h2 (by rw [h3, hn]) s
  refine ⟨_, _, hrun, ?_⟩
  have hb : Below w.heap.size w { w with heap := w.heap.push (.cells out e) } := below_push
  have st := Step.of_below s.sim.muok hb
  have hv : (AV.sl (catC ei.sz l) (n * ei.sz) n) = L xs := by
    unfold L VS
    rw [← hn, hs]
    congr 1
    have := VS_congr (e1 := fun (p : Nat → AV) => p) (l := l) (xs := xs) rfl h3 h4
    rw [← this]
    simp [rowL]
  rw [← hv]
  refine Or.inr ⟨_, n, rfl, Nat.le_refl _, fun _ => ⟨rfl, ?_⟩, fun j hj => ?_⟩
  · exact ⟨by simp, fun hban => Nat.lt_irrefl _ (s.sim.banlt _ hban), fun b B e hg => Nat.lt_irrefl _ (hg ▸ (s.sim.lt b B e).2)⟩
  · have hj' : j < out.size := by omega
    refine ⟨out.getD j undef, by simp [World.cell?, Array.getD, hj'], VR.mono st _ _ (o3 j hj)⟩

theorem vok_box {lu : List AV} (hx : ev env x = (true, u)) (hc : Cells h u lu) : gc = true → VOK C.P nt h env (.box t x) (.vref (ofL lu) lu.length 0) := fun _ => by
  refine vok_new fun o μ a w ho s => ?_
  obtain ⟨pc, S, h1, h2, h3, _⟩ := hc
  obtain ⟨ox, hop, hcx⟩ : ∃ ox, o.op = .box t ox ∧ cookX ox = some x := by
    unfold cookOp at ho
    split at ho <;> (try (simp at ho; done)) <;> (try (split at ho <;> simp at ho <;> done))
    case h_5 t' ox e =>
      obtain ⟨y, hy, e2⟩ := Option.map_eq_some_iff.1 ho
      simp only [I.box.injEq] at e2
      obtain ⟨rfl, rfl⟩ := e2
      exact ⟨ox, e, hy⟩
  have vx := ev_ok hcx s.env (by rw [hx])
  rw [hx] at vx
  obtain ⟨c1, c2⟩ := cellsA_ok s.sim vx h1 h2
  refine ⟨.pointer (some ⟨w.heap.size, 0, none⟩), .cells (a.eval ox).cells t, by simp [execOp, hop, Instr.box, newVar, newRow], ?_⟩
  have hb : Below w.heap.size w { w with heap := w.heap.push (.cells (a.eval ox).cells t) } := below_push
  have st := Step.of_below s.sim.muok hb
  refine ⟨w.heap.size, 0, by simp, ⟨by simp, fun hban => Nat.lt_irrefl _ (s.sim.banlt _ hban), fun b B e hg => Nat.lt_irrefl _ (hg ▸ (s.sim.lt b B e).2)⟩, fun i hi => ?_⟩
  have hi' : i < (a.eval ox).cells.size := by rw [c1]; exact hi
  refine ⟨(a.eval ox).cells.getD i undef, by simp [World.cell?, Array.getD, hi'], ?_⟩
  rw [← h3 i hi]
  exact VR.mono st _ _ (c2 i hi)
end

/-! ### steps -/
section
variable {P : Program} {nt : Nat} {env : Env} {h : Hp} {ks : List KO} {K : Env → Hp → Prop}
theorem HSub_nil (h : Hp) : HSub [] h := fun _ _ e => by cases e
theorem TL.monoK {K' : Env → Hp → Prop} (k : TL P nt ks K env h) (hk : ∀ env h, K env h → K' env h) : TL P nt ks K' env h := by
  intro os ho hz μ a w s
  refine TL.cons.wpK_mono ?_ _ _ _ (k os ho hz μ a w s)
  rintro a' w' ⟨μ2, env2, h2, q, s2, st2⟩
  exact ⟨μ2, env2, h2, hk _ _ q, s2, st2⟩
end
section
variable {P : Program} {nt : Nat} {env : Env} {h hS : Hp} {ks : List KO} {K : Env → Hp → Prop} {r : List (Nat × Nat)} {i : Nat}
theorem DR0 {d : Nat} {g : Option (Nat × Bool)} {I' : I} {gc : Bool} {v : AV} (hk : ks[i]? = some ⟨some d, g, I'⟩) (hv : gc = true → VOK P nt hS (keepE (readsK ⟨some d, g, I'⟩) env) I' v) (hg : gcOf env g = some gc) (hd : Nat.ble (d + 1) nt = true)
    (rest : DRun P nt hS ks K r ((d, gc, v) :: env) h) : DRun P nt hS ks K ((0, i) :: r) env h := ⟨_, hk, gc, d, v, hg, rfl, Nat.le_of_ble_eq_true hd, hv, rest⟩
theorem DR1 {d : Nat} {g : Option (Nat × Bool)} {I' : I} {gc : Bool} {v : AV} (hk : ks[i]? = some ⟨some d, g, I'⟩) (hv : gc = true → VOK P nt (h ++ hS) (keepE (readsK ⟨some d, g, I'⟩) env) I' v) (hg : gcOf env g = some gc) (hd : Nat.ble (d + 1) nt = true)
    (rest : DRun P nt hS ks K r ((d, gc, v) :: env) h) : DRun P nt hS ks K ((1, i) :: r) env h := ⟨_, hk, gc, d, v, hg, rfl, Nat.le_of_ble_eq_true hd, hv, rest⟩
theorem DR2 {d : Nat} {I' : I} (hk : ks[i]? = some ⟨some d, none, I'⟩) (hd : Nat.ble (d + 1) nt = true)
    (ht : TL P nt [⟨some d, none, I'⟩] (fun env' h' => ∃ v hE, env' = (d, true, v) :: keepE (readsK ⟨some d, none, I'⟩) env ∧ h' = hE ++ hS ∧ HSub hS (hE ++ hS) ∧ DRun P nt hS ks K r ((d, true, v) :: env) hE) (keepE (readsK ⟨some d, none, I'⟩) env) (h ++ hS)) :
    DRun P nt hS ks K ((2, i) :: r) env h := ⟨_, hk, rfl, fun d' e => by injection e with e; subst e; exact Nat.le_of_ble_eq_true hd, TL.monoK ht fun env' h' ⟨v, hE, q1, q2, q3, q4⟩ => ⟨v, hE, hS, fun _ => rfl, q1, q2, q3, q4⟩⟩
theorem DR2n {I' : I} (hk : ks[i]? = some ⟨none, none, I'⟩)
    (ht : TL P nt [⟨none, none, I'⟩] (fun env' h' => ∃ (_ : AV) (hE : Hp), env' = keepE (readsK ⟨none, none, I'⟩) env ∧ h' = hE ++ hS ∧ HSub hS (hE ++ hS) ∧ DRun P nt hS ks K r env hE) (keepE (readsK ⟨none, none, I'⟩) env) (h ++ hS)) :
    DRun P nt hS ks K ((2, i) :: r) env h := ⟨_, hk, rfl, (fun d e => by cases e), TL.monoK ht fun env' h' ⟨v, hE, q1, q2, q3, q4⟩ => ⟨v, hE, hS, fun _ => rfl, q1, q2, q3, q4⟩⟩
theorem DR3 {d : Nat} {I' : I} (hk : ks[i]? = some ⟨some d, none, I'⟩) (hd : Nat.ble (d + 1) nt = true)
    (ht : TL P nt [⟨some d, none, I'⟩] (fun env' h' => ∃ v, env' = (d, true, v) :: keepE (readsK ⟨some d, none, I'⟩) env ∧ DRun P nt [] ks K r ((d, true, v) :: env) h') (keepE (readsK ⟨some d, none, I'⟩) env) (h ++ hS)) :
    DRun P nt hS ks K ((3, i) :: r) env h := ⟨_, hk, rfl, fun d' e => by injection e with e; subst e; exact Nat.le_of_ble_eq_true hd, TL.monoK ht fun env' h' ⟨v, q1, q4⟩ => ⟨v, h', [], (fun e => by cases e), q1, (List.append_nil _).symm, HSub_nil _, q4⟩⟩
theorem DR3n {I' : I} (hk : ks[i]? = some ⟨none, none, I'⟩)
    (ht : TL P nt [⟨none, none, I'⟩] (fun env' h' => env' = keepE (readsK ⟨none, none, I'⟩) env ∧ DRun P nt [] ks K r env h') (keepE (readsK ⟨none, none, I'⟩) env) (h ++ hS)) :
    DRun P nt hS ks K ((3, i) :: r) env h := ⟨_, hk, rfl, (fun d e => by cases e), TL.monoK ht fun env' h' ⟨q1, q4⟩ => ⟨.nilp, h', [], (fun e => by cases e), q1, (List.append_nil _).symm, HSub_nil _, q4⟩⟩
theorem DRend (hK : K env (h ++ hS)) : DRun P nt hS ks K [] env h := hK
end

theorem get_app {a b : Hp} {x : Nat} : Hp.get (a ++ b) x = (Hp.get a x).or (Hp.get b x) := by
  induction a with
  | nil => simp [Hp.get]
  | cons p a ih =>
    obtain ⟨y, q⟩ := p
    simp only [List.cons_append, Hp.get]
    by_cases h : y = x
    · rw [if_pos h, if_pos h]; rfl
    · rw [if_neg h, if_neg h, ih]
theorem HSub_app {a b : Hp} (nd : Nd (a ++ b)) : HSub b (a ++ b) := fun x r e => by
  rw [get_app]
  have : Hp.get a x = none := by
    rw [Hp.get_none]
    intro hx
    unfold Nd at nd
    rw [List.map_append] at nd
    have hb : x ∈ b.map (·.1) := by
      by_cases hh : x ∈ b.map (·.1)
      · exact hh
      · rw [Hp.get_none.2 hh] at e; cases e
    exact (List.nodup_append.1 nd).2.2 x hx x hb rfl
  rw [this, e]; rfl

/-! ### frames -/
/-- All rows that are told of in it lie in h. -/
def inH (h : Hp) : AV → Prop
  | .ref b _ _ => h.get b ≠ none
  | .rs b _ _ _ _ => h.get b ≠ none
  | .vref cells m _ => ∀ i, i < m → inH h (cells i)
  | .sl cells m _ => ∀ i, i < m → inH h (cells i)
  | .agg m cs => ∀ i, i < m → inH h (cs i)
  | .tup m cs => ∀ i, i < m → inH h (cs i)
  | .fn _ m cs => ∀ i, i < m → inH h (cs i)
  | _ => True
theorem inH_val {h : Hp} {v : AV} (hv : v.val) : inH h v := by
  induction v with
  | ref => exact hv.elim
  | rs => exact hv.elim
  | vref cells m off ih => exact fun i hi => ih i (hv i hi)
  | sl cells m n ih => exact fun i hi => ih i (hv i hi)
  | agg m cs ih => exact fun i hi => ih i (hv i hi)
  | tup m cs ih => exact fun i hi => ih i (hv i hi)
  | fn f m cs ih => exact fun i hi => ih i (hv i hi)
  | _ => trivial
/-- The rows tell of rows among them alone. -/
def clH (h : Hp) : Prop := ∀ b r, h.get b = some r → ∀ i, i < r.m → inH h (r.cells i)

theorem VR.weak {μ μ' : Mu} {w : World} (hnx : μ.nx ≤ μ'.nx) (hf : ∀ b B, μ'.f b = some B → μ.f b = some B) (hv : ∀ b, μ'.vir b → μ.vir b) (hs : ∀ g, Sealed μ w g → Sealed μ' w g) : ∀ (a : AV) (v : Value), VR μ w a v → VR μ' w a v := by
  intro a
  induction a with
  | ref b off st =>
    rintro v ⟨h1, h2, h3⟩
    exact ⟨Nat.lt_of_lt_of_le h1 hnx, fun h => h2 (hv b h), fun B e => h3 B (hf b B e)⟩
  | rs b off len st sz =>
    rintro v ⟨h1, h2, h3, h4⟩
    exact ⟨Nat.lt_of_lt_of_le h1 hnx, h2, fun h => h3 (hv b h), fun B e => h4 B (hf b B e)⟩
  | vref cells m off ih =>
    rintro v ⟨g, o, e, hse, hc⟩
    refine ⟨g, o, e, hs g hse, fun i hi => ?_⟩
    obtain ⟨u, hu, hv⟩ := hc i hi
    exact ⟨u, hu, ih i u hv⟩
  | sl cells m n ih =>
    rintro v (h0 | ⟨a, cap, e, hn, hse, hc⟩)
    · exact .inl h0
    refine .inr ⟨a, cap, e, hn, fun hm => ⟨(hse hm).1, hs _ (hse hm).2⟩, fun i hi => ?_⟩
    obtain ⟨u, hu, hv⟩ := hc i hi
    exact ⟨u, hu, ih i u hv⟩
  | agg m cs ih =>
    rintro v ⟨vs, e, hm, hc⟩
    exact ⟨vs, e, hm, fun i hi => ih i _ (hc i hi)⟩
  | tup m cs ih =>
    rintro v ⟨vs, e, hm, hc⟩
    exact ⟨vs, e, hm, fun i hi => ih i _ (hc i hi)⟩
  | fn f m cs ih =>
    rintro v ⟨vs, e, hm, hc⟩
    exact ⟨vs, e, hm, fun i hi => ih i _ (hc i hi)⟩
  | _ => exact fun v hv => hv

theorem VR.inH {μ μ' : Mu} {w : World} {h : Hp} (hnx : μ.nx ≤ μ'.nx) (hf : ∀ b, h.get b ≠ none → μ'.f b = μ.f b ∧ (μ'.vir b ↔ μ.vir b)) (hs : ∀ g, Sealed μ w g → Sealed μ' w g) : ∀ (a : AV) (v : Value), AX.inH h a → VR μ w a v → VR μ' w a v := by
  intro a
  induction a with
  | ref b off st =>
    rintro v hb ⟨h1, h2, h3⟩
    obtain ⟨e1, e2⟩ := hf b hb
    exact ⟨Nat.lt_of_lt_of_le h1 hnx, fun h => h2 (e2.1 h), fun B e => h3 B (by rw [← e1]; exact e)⟩
  | rs b off len st sz =>
    rintro v hb ⟨h1, h2, h3, h4⟩
    obtain ⟨e1, e2⟩ := hf b hb
    exact ⟨Nat.lt_of_lt_of_le h1 hnx, h2, fun h => h3 (e2.1 h), fun B e => h4 B (by rw [← e1]; exact e)⟩
  | vref cells m off ih =>
    rintro v hb ⟨g, o, e, hse, hc⟩
    refine ⟨g, o, e, hs g hse, fun i hi => ?_⟩
    obtain ⟨u, hu, hv⟩ := hc i hi
    exact ⟨u, hu, ih i u (hb i hi) hv⟩
  | sl cells m n ih =>
    rintro v hb (h0 | ⟨a, cap, e, hn, hse, hc⟩)
    · exact .inl h0
    refine .inr ⟨a, cap, e, hn, fun hm => ⟨(hse hm).1, hs _ (hse hm).2⟩, fun i hi => ?_⟩
    obtain ⟨u, hu, hv⟩ := hc i hi
    exact ⟨u, hu, ih i u (hb i hi) hv⟩
  | agg m cs ih =>
    rintro v hb ⟨vs, e, hm, hc⟩
    exact ⟨vs, e, hm, fun i hi => ih i _ (hb i hi) (hc i hi)⟩
  | tup m cs ih =>
    rintro v hb ⟨vs, e, hm, hc⟩
    exact ⟨vs, e, hm, fun i hi => ih i _ (hb i hi) (hc i hi)⟩
  | fn f m cs ih =>
    rintro v hb ⟨vs, e, hm, hc⟩
    exact ⟨vs, e, hm, fun i hi => ih i _ (hb i hi) (hc i hi)⟩
  | _ => exact fun v _ hv => hv

open Classical in
/-- A contract, beside rows that it does not see. -/
theorem TC.frame {P : Program} {f : FuncId} {args : List AV} {F rest : Hp} {Q : AV → Hp → Prop} (k : TC P f args F Q) (nd : Nd (F ++ rest)) (hcl : ∀ r h', Q r h' → Nd h' ∧ inH h' r ∧ clH h') :
    TC P f args (F ++ rest) (fun r h' => ∃ F', Q r F' ∧ h' = F' ++ rest ∧ Nd (F' ++ rest)) := by
  refine ⟨k.enters, fun μ w cargs s hsz hargs => ?_⟩
  have hsubR := HSub_app nd
  have hgetF : ∀ b r, F.get b = some r → (F ++ rest).get b = some r := fun b r e => by rw [get_app, e]; rfl
  let inF : Nat → Prop := fun b => F.get b ≠ none
  let μ0 : Mu := { f := fun b => if inF b then μ.f b else none, nx := μ.nx, ban := fun g => μ.ban g ∨ ∃ b B, ¬ inF b ∧ μ.f b = some B ∧ B.g = g, vir := fun b => inF b ∧ μ.vir b }
  have hf0 : ∀ b B, μ0.f b = some B → inF b ∧ μ.f b = some B := by
    intro b B e
    simp only [μ0] at e
    by_cases hb : inF b
    · rw [if_pos hb] at e; exact ⟨hb, e⟩
    · rw [if_neg hb] at e; cases e
  have hse0 : ∀ w' g, Sealed μ w' g → Sealed μ0 w' g := fun w' g hs => ⟨hs.1, fun hb => by
    rcases hb with hb | ⟨b, B, _, e, he⟩
    · exact hs.2.1 hb
    · exact hs.2.2 b B e he, fun b B e => hs.2.2 b B (hf0 b B e).2⟩
  have weak0 : ∀ a v, VR μ w a v → VR μ0 w a v := fun a v hv => VR.weak (μ := μ) (μ' := μ0) (Nat.le_refl _) (fun b B e => (hf0 b B e).2) (fun b h => h.2) (hse0 w) a v hv
  have s0 : Sim μ0 F w := by
    refine ⟨fun b r e => ?_, fun b b' B B' e e' hg => s.inj b b' B B' (hf0 b B e).2 (hf0 b' B' e').2 hg, fun b B e => s.lt b B (hf0 b B e).2, fun b hb => s.vlt b hb.2, fun b B e hban => ?_, fun g hg => ?_⟩
    · have hb : inF b := by show F.get b ≠ none; rw [e]; simp
      rcases s.row b r (hgetF b r e) with ⟨h1, h2, h3⟩ | ⟨B, cs, h0, h1, h2, h3, h4, h5, h6⟩
      · exact .inl ⟨⟨hb, h1⟩, by simp only [μ0]; rw [if_pos hb]; exact h2, h3⟩
      · refine .inr ⟨B, cs, fun h => h0 h.2, by simp only [μ0]; rw [if_pos hb]; exact h1, h2, h3, h4, h5, fun i hi => ?_⟩
        obtain ⟨u, hu, hv⟩ := h6 i hi
        exact ⟨u, hu, weak0 _ _ hv⟩
    · obtain ⟨hb, e1⟩ := hf0 b B e
      rcases hban with hban | ⟨b', B', hb', e', hg⟩
      · exact s.noban b B e1 hban
      · exact hb' (s.inj b' b B' B e' e1 hg ▸ hb)
    · rcases hg with hg | ⟨b, B, _, e, rfl⟩
      · exact s.banlt g hg
      · exact (s.lt b B e).2
  refine (k.calls μ0 w cargs s0 hsz (fun i hi => weak0 _ _ (hargs i hi))).mono ?_
  rintro e w' ⟨c, r, μ1, F', rfl, hQ, hr, s1, st⟩
  obtain ⟨ndF, hin, hcl'⟩ := hcl r F' hQ
  -- the places put together
  let out : Nat → Prop := fun b => b < μ.nx ∧ ¬ inF b
  let μ' : Mu := { f := fun b => if out b then μ.f b else μ1.f b, nx := μ1.nx, ban := μ.ban, vir := fun b => if out b then μ.vir b else μ1.vir b }
  have hnx : μ.nx ≤ μ1.nx := st.nx
  have hold : ∀ b, out b → μ1.f b = none ∧ ¬ μ1.vir b := by
    intro b hb
    have h0 : μ0.f b = none := by simp only [μ0]; rw [if_neg hb.2]
    refine ⟨?_, fun hv => hb.2 (st.vir b hb.1 hv).1⟩
    cases hq : μ1.f b with
    | none => rfl
    | some B =>
      rcases st.old b hb.1 B hq with ⟨hv, _⟩ | ⟨B', e', _⟩
      · exact (hb.2 hv.1).elim
      · rw [h0] at e'; cases e'
  have hF'out : ∀ b, F'.get b ≠ none → ¬ out b := by
    intro b hb ho
    obtain ⟨q, hq⟩ := Option.ne_none_iff_exists'.1 hb
    rcases s1.row b q hq with ⟨hv, _⟩ | ⟨B, cs, _, e1, _⟩
    · exact (hold b ho).2 hv
    · rw [(hold b ho).1] at e1; cases e1
  have hrest : ∀ b q, rest.get b = some q → out b := by
    intro b q e
    have h1 := hsubR b q e
    have hnF : ¬ inF b := by
      intro hb
      obtain ⟨q', hq'⟩ := Option.ne_none_iff_exists'.1 hb
      unfold Nd at nd
      rw [List.map_append] at nd
      have m1 : b ∈ F.map (·.1) := by
        by_cases hh : b ∈ F.map (·.1)
        · exact hh
        · rw [Hp.get_none.2 hh] at hq'; cases hq'
      have m2 : b ∈ rest.map (·.1) := by
        by_cases hh : b ∈ rest.map (·.1)
        · exact hh
        · rw [Hp.get_none.2 hh] at e; cases e
      exact (List.nodup_append.1 nd).2.2 b m1 b m2 rfl
    refine ⟨?_, hnF⟩
    rcases s.row b q h1 with ⟨hv, _⟩ | ⟨B, cs, _, e1, _⟩
    · exact s.vlt b hv
    · exact (s.lt b B e1).1
  have hban1 : ∀ g, μ1.ban g ↔ (μ.ban g ∨ ∃ b B, ¬ inF b ∧ μ.f b = some B ∧ B.g = g) := fun g => st.ban g
  have hout_in : ∀ b B, out b → μ.f b = some B → μ1.ban B.g := fun b B ho e => (hban1 _).2 (.inr ⟨b, B, ho.2, e, rfl⟩)
  have hfspec : ∀ b B, μ'.f b = some B → (out b ∧ μ.f b = some B) ∨ (¬ out b ∧ μ1.f b = some B) := by
    intro b B e
    simp only [μ'] at e
    by_cases ho : out b
    · rw [if_pos ho] at e; exact .inl ⟨ho, e⟩
    · rw [if_neg ho] at e; exact .inr ⟨ho, e⟩
  have hseal1 : ∀ g, Sealed μ1 w' g → Sealed μ' w' g := fun g hs => ⟨hs.1, fun hb => hs.2.1 ((hban1 g).2 (.inl hb)), fun b B e hg => by
    rcases hfspec b B e with ⟨ho, e1⟩ | ⟨_, e1⟩
    · exact hs.2.1 (hg ▸ hout_in b B ho e1)
    · exact hs.2.2 b B e1 hg⟩
  have hblk : ∀ b B, out b → μ.f b = some B → w'.heap[B.g]? = w.heap[B.g]? := fun b B ho e =>
    st.keep B.g (s.lt b B e).2 (.inl (.inr ⟨b, B, ho.2, e, rfl⟩))
  have stt : Step μ w μ' w' := by
    refine ⟨hnx, fun b hb B' e => ?_, fun b hb hv => ?_, fun g => Iff.rfl, fun g hg hk => ?_, fun g hg => ?_, st.size, st.os, st.tape, st.output⟩
    · rcases hfspec b B' e with ⟨_, e1⟩ | ⟨hno, e1⟩
      · exact .inr ⟨B', e1, Nat.le_refl _, fun _ => rfl⟩
      · rcases st.old b hb B' e1 with ⟨hv, hp⟩ | ⟨B, e2, h2, h3⟩
        · exact .inl ⟨hv.2, hp⟩
        · exact .inr ⟨B, (hf0 b B e2).2, h2, h3⟩
    · simp only [μ'] at hv
      by_cases ho : out b
      · rw [if_pos ho] at hv; exact hv
      · rw [if_neg ho] at hv; exact (st.vir b hb hv).2
    · refine st.keep g hg ?_
      rcases hk with hk | hk
      · exact .inl (.inl hk)
      · exact .inr (hse0 w g hk)
    · have h1 := st.sld g (hse0 w g hg)
      exact hseal1 g h1
  have ndAll : Nd (F' ++ rest) := by
    unfold Nd at nd ndF ⊢
    rw [List.map_append] at nd ⊢
    refine List.nodup_append.2 ⟨ndF, (List.nodup_append.1 nd).2.1, fun a ha b hb hab => ?_⟩
    subst hab
    have h1 : F'.get a ≠ none := fun hh => Hp.get_none.1 hh ha
    have h2 : rest.get a ≠ none := fun hh => Hp.get_none.1 hh hb
    obtain ⟨q, hq⟩ := Option.ne_none_iff_exists'.1 h2
    exact hF'out a h1 (hrest a q hq)
  have in1 : ∀ a v, inH F' a → VR μ1 w' a v → VR μ' w' a v := fun a v hi hv => VR.inH (μ := μ1) (μ' := μ') (Nat.le_refl _) (fun b hb => by
    have := hF'out b hb
    simp only [μ']
    rw [if_neg this, if_neg this]
    exact ⟨rfl, Iff.rfl⟩) hseal1 a v hi hv
  refine ⟨c, r, μ', F' ++ rest, rfl, ⟨F', hQ, rfl, ndAll⟩, in1 _ _ hin hr, ?_, stt⟩
  refine ⟨fun b q e => ?_, fun b b' B B' e e' hg => ?_, fun b B e => ?_, fun b hb => ?_, fun b B e => ?_, fun g hg => Nat.lt_of_lt_of_le (s.banlt g hg) st.size⟩
  · rw [get_app] at e
    cases hq : F'.get b with
    | some q' =>
      rw [hq] at e
      have e : some q' = some q := e
      injection e with e
      subst e
      have hno := hF'out b (by rw [hq]; simp)
      rcases s1.row b q' hq with ⟨h1, h2, h3⟩ | ⟨B, cs, h0, h1, h2, h3, h4, h5, h6⟩
      · exact .inl ⟨by simp only [μ']; rw [if_neg hno]; exact h1, by simp only [μ']; rw [if_neg hno]; exact h2, h3⟩
      · refine .inr ⟨B, cs, by simp only [μ']; rw [if_neg hno]; exact h0, by simp only [μ']; rw [if_neg hno]; exact h1, h2, h3, h4, h5, fun i hi => ?_⟩
        obtain ⟨u, hu, hv⟩ := h6 i hi
        exact ⟨u, hu, in1 _ _ (hcl' b q' hq i hi) hv⟩
    | none =>
      rw [hq] at e
      have e : rest.get b = some q := e
      have ho := hrest b q e
      rcases s.row b q (hsubR b q e) with ⟨h1, h2, h3⟩ | ⟨B, cs, h0, h1, h2, h3, h4, h5, h6⟩
      · exact .inl ⟨by simp only [μ']; rw [if_pos ho]; exact h1, by simp only [μ']; rw [if_pos ho]; exact h2, h3⟩
      · refine .inr ⟨B, cs, by simp only [μ']; rw [if_pos ho]; exact h0, by simp only [μ']; rw [if_pos ho]; exact h1, h2, (hblk b B ho h1).trans h3, h4, h5, fun i hi => ?_⟩
        obtain ⟨u, hu, hv⟩ := h6 i hi
        exact ⟨u, hu, VR.mono stt _ _ hv⟩
  · rcases hfspec b B e with ⟨ho, e1⟩ | ⟨hn, e1⟩ <;> rcases hfspec b' B' e' with ⟨ho', e2⟩ | ⟨hn', e2⟩
    · exact s.inj b b' B B' e1 e2 hg
    · exact (s1.noban b' B' e2 (hg ▸ hout_in b B ho e1)).elim
    · exact (s1.noban b B e1 (hg ▸ hout_in b' B' ho' e2)).elim
    · exact s1.inj b b' B B' e1 e2 hg
  · rcases hfspec b B e with ⟨ho, e1⟩ | ⟨_, e1⟩
    · have := s.lt b B e1; exact ⟨Nat.lt_of_lt_of_le this.1 hnx, Nat.lt_of_lt_of_le this.2 st.size⟩
    · exact s1.lt b B e1
  · simp only [μ'] at hb
    by_cases ho : out b
    · exact Nat.lt_of_lt_of_le ho.1 hnx
    · rw [if_neg ho] at hb; exact s1.vlt b hb
  · rcases hfspec b B e with ⟨ho, e1⟩ | ⟨_, e1⟩
    · exact s.noban b B e1
    · exact fun hban => s1.noban b B e1 ((hban1 _).2 (.inl hban))
end Go.AX
