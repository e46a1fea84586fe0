import Derived.Test.YtpipaggkbiapjaaDoorAmP
/- The rule for regions whose order is open. -/
namespace Go.AM
open Go.RowKit

/-- The operation yields 'v', and turns nothing that is. -/
def VOK (P : Program) (nt : Nat) (h : Hp) (env : Env) (i : I) (v : AV) : Prop := ∀ (o : Oper) μ (a : Act) w, cookOp o.op = some i → SimA nt μ env h a w →
  ∀ N : Act → World → Prop, (∀ c w', VR μ w' v c → Below w.heap.size w w' → N (a.put o.dst c) w') → o.wp P a w N (fun _ _ _ => False)

theorem SimA.sub {nt : Nat} {μ : Mu} {env env' : Env} {h : Hp} {a : Act} {w : World} (s : SimA nt μ env h a w) (hs : Sub env' env) : SimA nt μ env' h a w :=
  ⟨s.sim, fun t g v e => s.env t g v (hs t g v e), s.size, s.defers⟩

theorem VOK.pv {C : Cx} {nt : Nat} {h : Hp} {env : Env} {i : I} (hs : (pv C h env i).2) : VOK C.P nt h env i (pv C h env i).1 := by
  intro o μ a w ho s N hN
  obtain ⟨c, hr, hv⟩ := pv_ok s ho hs
  unfold Oper.wp
  rw [hr]
  exact hN c w hv (Below.refl _ _)

theorem VOK.call {P : Program} {nt : Nat} {h : Hp} {env : Env} {f : X} {xs : List X} {fid : FuncId} {args : List AV} {r : AV} (ha : argsA env f xs = some (fid, args)) (hg : (ev env f).1 = true) (hx : allG (evs env xs))
    (hf : Fun P fid args (· = r)) : VOK P nt h env (.call f xs) r := by
  intro o μ a w ho s N hN
  obtain ⟨cargs, hr, hsz, hv⟩ := call_run s ho ha hg hx hf.enters
  unfold Oper.wp
  rw [hr]
  simp only [Oper.upon]
  refine (hf.calls μ w cargs s.sim.muok hsz hv).mono ?_
  rintro e w' ⟨c, r', rfl, rfl, _, hrv, hb⟩
  exact hN c w' hrv hb

theorem lk_keepE : ∀ (ts : List Nat) (e : Env) (t : Nat), lk (keepE ts e) t = if t ∈ ts then lk e t else none
  | [], e, t => by simp [keepE, lk]
  | x :: r, e, t => by
    have ih := lk_keepE r e t
    unfold keepE
    cases hx : lk e x with
    | none =>
      simp only [ih]
      by_cases htx : t = x
      · subst htx; simp [hx]
      · simp [htx]
    | some p =>
      obtain ⟨g, v⟩ := p
      simp only [lk, ih]
      by_cases htx : x = t
      · subst htx; simp [hx]
      · rw [if_neg htx]
        have htx' : ¬ t = x := fun e => htx e.symm
        simp [htx']

theorem same_keepE {ts : List Nat} {e : Env} : Same ts (keepE ts e) e := fun t ht => by rw [lk_keepE, if_pos ht]

theorem gcOf_same {e e' : Env} {k : KO} (h : Same (readsK k) e e') : gcOf e k.g = gcOf e' k.g := by
  unfold gcOf
  cases hg : k.g with
  | none => rfl
  | some p =>
    obtain ⟨d, w⟩ := p
    simp only
    rw [h d (by simp [readsK, hg])]

/-- The operations one behind the other, each with what it yields. -/
inductive Chain (P : Program) (nt : Nat) (h : Hp) : List KO → Env → Env → Prop
  | nil {env : Env} : Chain P nt h [] env env
  | cons {k : KO} {ks : List KO} {env env' : Env} {gc : Bool} {d : Nat} {v : AV} (hg : gcOf env k.g = some gc) (hd : k.d = some d ∧ d < nt) (hv : gc = true → VOK P nt h (keepE (readsK k) env) k.i v)
      (rest : Chain P nt h ks ((d, gc, v) :: env) env') : Chain P nt h (k :: ks) env env'

/-- What the walk over them reads. -/
def DL (C : Cx) (nt : Nat) (K : Env → Hp → Prop) (ks : List KO) (env : Env) (h : Hp) : Prop := ∃ env', Chain C.P nt h ks env env' ∧ K env' h

section
variable {C : Cx} {nt : Nat} {env : Env} {h : Hp} {K : Env → Hp → Prop}

theorem DL.nil (hK : K env h) : DL C nt K [] env h := ⟨env, .nil, hK⟩

theorem DL.pure {k : KO} {ks : List KO} {gc : Bool} {d : Nat} (hg : gcOf env k.g = some gc) (hd : k.d = some d ∧ d < nt) (hs : gc = true → (Go.AM.pv C h env k.i).2)
    (rest : DL C nt K ks ((d, gc, (Go.AM.pv C h env k.i).1) :: env) h) : DL C nt K (k :: ks) env h := by
  obtain ⟨env', hc, hK⟩ := rest
  have hsame : Same (readsI k.i) (keepE (readsK k) env) env := fun t ht => same_keepE t (by simp [readsK, ht])
  have e := pv_same (C := C) (hp := h) hsame
  refine ⟨env', .cons hg hd (fun hgc => ?_) hc, hK⟩
  rw [← e]
  exact VOK.pv (by rw [e]; exact hs hgc)

theorem DL.call {k : KO} {ks : List KO} {f : X} {xs : List X} {gc : Bool} {d : Nat} {fid : FuncId} {args : List AV} {r : AV} (hi : k.i = .call f xs) (hg : gcOf env k.g = some gc) (hd : k.d = some d ∧ d < nt)
    (ha : argsA env f xs = some (fid, args)) (hgx : gc = true → (ev env f).1 = true ∧ allG (evs env xs)) (hf : gc = true → Fun C.P fid args (· = r))
    (rest : DL C nt K ks ((d, gc, r) :: env) h) : DL C nt K (k :: ks) env h := by
  obtain ⟨env', hc, hK⟩ := rest
  have hsame : Same (readsX f ++ readsXs xs) (keepE (readsK k) env) env := fun t ht => same_keepE t (by simp [readsK, hi, readsI]; simp at ht; rcases ht with ht | ht <;> simp [ht])
  have e1 := ev_same (x := f) hsame.left
  have e2 := evs_same (xs := xs) hsame.right
  refine ⟨env', .cons hg hd (fun hgc => ?_) hc, hK⟩
  rw [hi]
  refine VOK.call (fid := fid) (args := args) ?_ (by rw [e1]; exact (hgx hgc).1) (by rw [e2]; exact (hgx hgc).2) (hf hgc)
  unfold argsA at ha ⊢
  rw [e1, e2]
  exact ha

/-- The operations ahead that turn nothing. -/
def RD (C : Cx) (nt : Nat) (K : Env → Hp → Prop) : List KO → Env → Hp → Prop
  | [], env, h => K env h
  | k :: ks, env, h => if isPure k.i = true then
      match gcOf env k.g, k.d with
      | some gc, some d => (d < nt ∧ (gc = true → (pv C h env k.i).2)) ∧ RD C nt K ks ((d, gc, (pv C h env k.i).1) :: env) h
      | _, _ => False
    else DL C nt K (k :: ks) env h

theorem RD.ok : ∀ (ks : List KO) (env : Env), RD C nt K ks env h → DL C nt K ks env h
  | [], env, hh => DL.nil hh
  | k :: ks, env, hh => by
    unfold RD at hh
    split at hh
    · split at hh
      case h_2 => exact hh.elim
      case h_1 gc d e1 e2 =>
        obtain ⟨⟨h1, h2⟩, h3⟩ := hh
        exact DL.pure e1 ⟨e2, h1⟩ h2 (RD.ok ks _ h3)
    · exact hh
end

/-- The order may be open: whoever reads a slot stands, told so, ahead of or behind whoever writes it. -/
def okDrw (ops : Array Oper) (ks : List KO) : Bool :=
  (List.range ops.size).all fun j => match ops[j]?, ks[j]? with
    | some o, some k => o.after.all (fun e => !Region.binds .any e || decide (e.on < j)) && (List.range ops.size).all fun i => match ops[i]?, ks[i]? with
        | some o', some k' => match k'.d with
          | some t => (i == j || k.d != some t) &&
              (i == j || !(readsK k).contains t || (decide (i < j) && o.after.any (fun e => Region.binds .any e && e.on == i)) || (decide (j < i) && o'.after.any fun e => Region.binds .any e && e.on == j))
          | none => false
        | _, _ => false
    | _, _ => false

theorem Chain.list {P : Program} {nt : Nat} {h : Hp} : ∀ {ks : List KO} {env env' : Env}, Chain P nt h ks env env' → ∃ es : Env, es.length = ks.length ∧ env' = es.reverse ++ env ∧
    ∀ (j : Nat) (k : KO), ks[j]? = some k → ∃ d gc v, es[j]? = some (d, gc, v) ∧ k.d = some d ∧ d < nt ∧ gcOf ((es.take j).reverse ++ env) k.g = some gc ∧ (gc = true → VOK P nt h (keepE (readsK k) ((es.take j).reverse ++ env)) k.i v) := by
  intro ks env env' hc
  induction hc with
  | nil => exact ⟨[], rfl, rfl, fun j k hj => by simp at hj⟩
  | @cons k ks env env' gc d v hg hd hv rest ih =>
    obtain ⟨es, h1, h2, h3⟩ := ih
    refine ⟨(d, gc, v) :: es, by simp [h1], by simp [h2], fun j k' hj => ?_⟩
    cases j with
    | zero =>
      simp only [List.getElem?_cons_zero, Option.some.injEq] at hj
      subst hj
      exact ⟨d, gc, v, rfl, hd.1, hd.2, by simpa using hg, by simpa using hv⟩
    | succ j =>
      obtain ⟨d', gc', v', e1, e2, e3, e4, e5⟩ := h3 j k' (by simpa using hj)
      exact ⟨d', gc', v', by simpa using e1, e2, e3, by simpa using e4, by simpa using e5⟩

theorem lk_append : ∀ (l e : Env) (t : Nat), lk (l ++ e) t = (lk l t).or (lk e t)
  | [], e, t => by simp [lk]
  | (x, g, v) :: l, e, t => by
    simp only [List.cons_append, lk]
    by_cases hx : x = t
    · simp [hx]
    · simp [hx, lk_append l e t]

theorem lk_none : ∀ {l : Env} {t : Nat}, (∀ g v, (t, g, v) ∉ l) → lk l t = none
  | [], _, _ => rfl
  | (x, g, v) :: l, t, h => by
    simp only [lk]
    have hx : ¬ x = t := by rintro rfl; exact h g v (by simp)
    rw [if_neg hx]
    exact lk_none fun g v hm => h g v (by simp [hm])

theorem lk_mem : ∀ {l : Env} {t : Nat} {g : Bool} {v : AV}, lk l t = some (g, v) → (t, g, v) ∈ l
  | (x, g', v') :: l, t, g, v, h => by
    simp only [lk] at h
    by_cases hx : x = t
    · rw [if_pos hx] at h
      simp only [Option.some.injEq, Prod.mk.injEq] at h
      obtain ⟨rfl, rfl⟩ := h
      subst hx
      simp
    · rw [if_neg hx] at h
      simp [lk_mem h]

section
variable {P : Program} {nt : Nat} {Q : Post} {env : Env} {h : Hp}

/-- A slot tells its value. -/
def Told (μ : Mu) (w : World) (a : Act) (t : Nat) (g : Bool) (v : AV) : Prop := (g = true → VR μ w v (a.tmps.getD t undef)) ∧ (g = false → a.tmps.getD t undef = undef)

theorem Told.mono {μ : Mu} {w w' : World} {a : Act} {t : Nat} {g : Bool} {v : AV} (k : Told μ w a t g v) (st : Step μ w μ w') : Told μ w' a t g v := ⟨fun hg => VR.mono st _ _ (k.1 hg), k.2⟩

theorem Told.put {μ : Mu} {w : World} {a : Act} {t d : Nat} {g : Bool} {v : AV} {c : Value} (k : Told μ w a t g v) (hne : d ≠ t) : Told μ w (a.put (some d) c) t g v := by
  have : (a.put (some d) c).tmps.getD t undef = a.tmps.getD t undef := by
    simp [Act.put, Array.getD_eq_getD_getElem?, Array.getElem?_setIfInBounds_ne hne]
  unfold Told
  rw [this]
  exact k

theorem TK.drw {ops : Array Oper} {ks : List KO} (hm : P.follows .mixedOrders = true) (hck : okDrw ops ks = true)
    (k : ∃ env', Chain P nt h ks env env' ∧ Q .normal env' h) : TK P nt (.drw ops ks) Q env h := by
  obtain ⟨env', hch, hQ⟩ := k
  obtain ⟨es, hlen, rfl, hes⟩ := hch.list
  intro c hc μ a0 w0 hs
  cases c <;> (try simp [cookC] at hc)
  case seq x y => split at hc <;> simp at hc
  case cond x y z => split at hc <;> simp at hc
  case region id ops' dr =>
    cases dr with
    | false => simp [cookC] at hc
    | true =>
      simp only [cookC, Option.map_eq_some_iff] at hc
      obtain ⟨ks', h1, h2⟩ := hc
      injection h2 with h2a h2b
      subst h2a h2b
      obtain ⟨hl, hz⟩ := cookL_at h1
      have hlk : ks'.length = ops'.size := by simpa using hl.symm
      have hops : ∀ (j : Nat) (o : Oper), ops'[j]? = some o → ∃ k, ks'[j]? = some k ∧ cookOp o.op = some k.i ∧ o.dst = k.d ∧ cookG ops' o.guard = some k.g := by
        intro j o ho
        obtain ⟨hj, rfl⟩ := Array.getElem?_eq_some_iff.1 ho
        have hj' : j < ks'.length := by omega
        refine ⟨ks'[j], by simp [hj'], ?_⟩
        refine cookO_at (hz (ops'[j], ks'[j]) ?_)
        rw [List.mem_iff_getElem]
        exact ⟨j, by simp only [List.length_zip, Array.length_toList]; omega, by simp⟩
      -- the check, read
      have chk : ∀ (j : Nat) (o : Oper) (kj : KO), ops'[j]? = some o → ks'[j]? = some kj → (∀ e ∈ o.after, Region.binds .any e = true → e.on < j) ∧
          ∀ (i : Nat) (o' : Oper) (ki : KO) (t : Nat), ops'[i]? = some o' → ks'[i]? = some ki → ki.d = some t → i ≠ j → kj.d ≠ some t ∧
            (t ∈ readsK kj → (i < j ∧ ∃ e ∈ o.after, Region.binds .any e = true ∧ e.on = i) ∨ (j < i ∧ ∃ e ∈ o'.after, Region.binds .any e = true ∧ e.on = j)) := by
        intro j o kj ho hk
        have hj : j < ops'.size := (Array.getElem?_eq_some_iff.1 ho).1
        have := List.all_eq_true.1 hck j (List.mem_range.2 hj)
        rw [ho, hk] at this
        simp only [Bool.and_eq_true, List.all_eq_true, List.mem_range] at this
        refine ⟨fun e he hb => ?_, fun i o' ki t ho' hk' ht hne => ?_⟩
        · have := Array.all_eq_true_iff_forall_mem.1 this.1 e he
          simpa [hb] using this
        · have hi : i < ops'.size := (Array.getElem?_eq_some_iff.1 ho').1
          have h3 := this.2 i hi
          rw [ho', hk'] at h3
          simp only [ht, Bool.and_eq_true, Bool.or_eq_true, beq_iff_eq, hne, false_or, bne_iff_ne, ne_eq, Bool.not_eq_true', decide_eq_true_eq] at h3
          refine ⟨h3.1, fun hr => ?_⟩
          rcases h3.2 with (h4 | h4) | h4
          · exfalso
            rw [List.contains_iff_mem.2 hr] at h4
            cases h4
          · obtain ⟨e, he, hb⟩ := Array.any_eq_true'.1 h4.2
            simp only [Bool.and_eq_true, beq_iff_eq] at hb
            exact .inl ⟨h4.1, e, he, hb.1, hb.2⟩
          · obtain ⟨e, he, hb⟩ := Array.any_eq_true'.1 h4.2
            simp only [Bool.and_eq_true, beq_iff_eq] at hb
            exact .inr ⟨h4.1, e, he, hb.1, hb.2⟩
      have entry : ∀ (j : Nat) d gc v, es[j]? = some (d, gc, v) → ∃ (o : Oper) (kj : KO), ops'[j]? = some o ∧ ks'[j]? = some kj ∧ kj.d = some d := by
        intro j d gc v he
        have hj : j < es.length := (List.getElem?_eq_some_iff.1 he).1
        have hj1 : j < ks'.length := by omega
        have hj2 : j < ops'.size := by omega
        obtain ⟨d', gc', v', e1, e2, _⟩ := hes j ks'[j] (by simp [hj1])
        rw [he] at e1
        simp only [Option.some.injEq, Prod.mk.injEq] at e1
        obtain ⟨rfl, _, _⟩ := e1
        exact ⟨ops'[j], ks'[j], by simp [hj2], by simp [hj1], e2⟩
      have uniq : ∀ (i j : Nat) d gc v gc' v', es[i]? = some (d, gc, v) → es[j]? = some (d, gc', v') → i = j := by
        intro i j d gc v gc' v' hi hj
        obtain ⟨o, ki, a1, a2, a3⟩ := entry i _ _ _ hi
        obtain ⟨o', kj, b1, b2, b3⟩ := entry j _ _ _ hj
        by_cases hij : i = j
        · exact hij
        · exact ((((chk j o' kj b1 b2).2 i o ki d a1 a2 a3 hij).1) b3).elim
      -- the states on the way
      let Inv : Array Bool → Act → World → Prop := fun listed a w =>
        listed.size = ops'.size ∧ Sim μ h w ∧ a.tmps.size = nt ∧ a.defers = [] ∧ Step μ w0 μ w ∧
        (∀ i, listed.getD i false = true → ∀ o, ops'[i]? = some o → ∀ e ∈ o.after, Region.binds .any e = true → listed.getD e.on false = true) ∧
        (∀ i d gc v, listed.getD i false = true → es[i]? = some (d, gc, v) → Told μ w a d gc v) ∧
        (∀ t g v, (∀ i d gc v, listed.getD i false = true → es[i]? = some (d, gc, v) → d ≠ t) → lk env t = some (g, v) → Told μ w a t g v)
      have fin : ∀ listed a w, Inv listed a w → (∀ i, i < ops'.size → listed.getD i false = true) → SimA nt μ (es.reverse ++ env) h a w := by
        rintro listed a w ⟨i1, i2, i3, i4, i5, i6, i7, i8⟩ hall
        refine ⟨i2, fun t g v e => ?_, i3, i4⟩
        rw [lk_append] at e
        cases hlkv : lk es.reverse t with
        | some p =>
          rw [hlkv] at e
          have e : some p = some (g, v) := e
          injection e with e
          subst e
          have hmem := lk_mem hlkv
          rw [List.mem_reverse] at hmem
          obtain ⟨i, hi, he⟩ := List.getElem_of_mem hmem
          have he' : es[i]? = some (t, g, v) := by rw [List.getElem?_eq_getElem hi, he]
          exact i7 i t g v (hall i (by omega)) he'
        | none =>
          rw [hlkv] at e
          have e : lk env t = some (g, v) := e
          refine i8 t g v (fun i d gc v' hl he hdt => ?_) e
          subst hdt
          have hmem : (d, gc, v') ∈ es.reverse := by rw [List.mem_reverse]; exact List.mem_of_getElem? he
          clear e
          have : ∀ {l : Env}, (d, gc, v') ∈ l → lk l d ≠ none := by
            intro l
            induction l with
            | nil => intro hm; cases hm
            | cons x l ih =>
              obtain ⟨x1, x2, x3⟩ := x
              intro hm
              simp only [lk]
              by_cases hx : x1 = d
              · rw [if_pos hx]; simp
              · rw [if_neg hx]
                rcases List.mem_cons.1 hm with hm | hm
                · simp only [Prod.mk.injEq] at hm; exact (hx hm.1.symm).elim
                · exact ih hm
          exact this hmem hlkv
      have main : ∀ (fuel : Nat) (listed : Array Bool) (a : Act) (w : World), Inv listed a w → listed.toList.count false ≤ fuel →
          wpAny P .any ops' (fun e a' w' => ∃ μ' env' h', Q e env' h' ∧ SimA nt μ' env' h' a' w' ∧ Step μ w0 μ' w') fuel listed a w := by
        intro fuel
        induction fuel with
        | zero =>
          intro listed a w hI hcnt
          have hall : ∀ i, i < ops'.size → listed.getD i false = true := by
            intro i hi
            have hi' : i < listed.size := by rw [hI.1]; exact hi
            have h0 : listed.toList.count false = 0 := by omega
            rw [List.count_eq_zero] at h0
            cases hb : listed.getD i false with
            | true => rfl
            | false =>
              exfalso
              apply h0
              have : listed[i] = false := by simpa [Array.getD, hi'] using hb
              rw [← this]
              simp
          refine ⟨?_, μ, _, h, hQ, fin _ _ _ hI hall, hI.2.2.2.2.1⟩
          cases hr : Region.ready .any ops' listed with
          | nil => rfl
          | cons j r =>
            exfalso
            have hj : j ∈ Region.ready .any ops' listed := by rw [hr]; simp
            obtain ⟨hun, o, ho, _⟩ := mem_ready.1 hj
            have hlt := (Array.getElem?_eq_some_iff.1 ho).1
            have h3 := hall j hlt
            have hlt' : j < listed.size := by rw [hI.1]; exact hlt
            simp [Array.getD, hlt'] at h3 hun
            rw [hun] at h3
            cases h3
        | succ fuel ih =>
          intro listed a w hI hcnt
          refine ⟨fun hr => ?_, fun j hj => ?_⟩
          · have hall : ∀ i, i < ops'.size → listed.getD i false = true := by
              intro i
              induction i using Nat.strongRecOn with
              | _ i ihi =>
                intro hi
                have hi' : i < listed.size := by rw [hI.1]; exact hi
                cases hb : listed.getD i false with
                | true => rfl
                | false =>
                  exfalso
                  have hmem : i ∈ Region.ready .any ops' listed := by
                    rw [mem_ready]
                    refine ⟨by simpa [Array.getD, hi'] using hb, ops'[i], by simp [hi], fun e he hbd => ?_⟩
                    obtain ⟨ki, hki, _⟩ := hops i ops'[i] (by simp [hi])
                    have hlt := (chk i ops'[i] ki (by simp [hi]) hki).1 e he hbd
                    exact ihi e.on hlt (by omega)
                  rw [hr] at hmem
                  cases hmem
            exact ⟨μ, _, h, hQ, fin _ _ _ hI hall, hI.2.2.2.2.1⟩
          · obtain ⟨hun, o, ho, hafter⟩ := mem_ready.1 hj
            obtain ⟨i1, i2, i3, i4, i5, i6, i7, i8⟩ := hI
            have hlt := (Array.getElem?_eq_some_iff.1 ho).1
            have hlt' : j < listed.size := by rw [i1]; exact hlt
            have hunF : listed.getD j false = false := by simpa [Array.getD, hlt'] using hun
            obtain ⟨kj, hkj, hop, hdst, hguard⟩ := hops j o ho
            obtain ⟨d, gc, v, he, hkd, hdn, hgc, hvok⟩ := hes j kj hkj
            obtain ⟨ck1, ck2⟩ := chk j o kj ho hkj
            -- what it reads is told
            have reads : ∀ t g' v', t ∈ readsK kj → lk ((es.take j).reverse ++ env) t = some (g', v') → Told μ w a t g' v' := by
              intro t g' v' ht hlkt
              rw [lk_append] at hlkt
              cases hlkv : lk (es.take j).reverse t with
              | some p =>
                rw [hlkv] at hlkt
                have hlkt : some p = some (g', v') := hlkt
                injection hlkt with hlkt
                subst hlkt
                have hmem := lk_mem hlkv
                rw [List.mem_reverse] at hmem
                obtain ⟨i, hi, hei⟩ := List.getElem_of_mem hmem
                have hij : i < j := by simp at hi; omega
                have hei' : es[i]? = some (t, g', v') := by
                  rw [List.getElem_take] at hei
                  rw [List.getElem?_eq_getElem (by simp at hi; omega), hei]
                obtain ⟨oi, ki, q1, q2, q3⟩ := entry i _ _ _ hei'
                rcases (ck2 i oi ki t q1 q2 q3 (by omega)).2 ht with ⟨_, e, he1, he2, he3⟩ | ⟨hji, _⟩
                · subst he3
                  exact i7 _ _ _ _ (hafter e he1 he2) hei'
                · omega
              | none =>
                rw [hlkv] at hlkt
                have hlkt : lk env t = some (g', v') := hlkt
                refine i8 t g' v' (fun i d' gc'' v'' hli hei hdt => ?_) hlkt
                subst hdt
                obtain ⟨oi, ki, q1, q2, q3⟩ := entry i _ _ _ hei
                have hne : i ≠ j := by rintro rfl; rw [hunF] at hli; cases hli
                rcases (ck2 i oi ki d' q1 q2 q3 hne).2 ht with ⟨hij, _⟩ | ⟨_, e, he1, he2, he3⟩
                · have hmem : (d', gc'', v'') ∈ (es.take j).reverse := by
                    rw [List.mem_reverse, List.mem_iff_getElem?]
                    exact ⟨i, by rw [List.getElem?_take, if_pos hij, hei]⟩
                  have : ∀ {l : Env}, (d', gc'', v'') ∈ l → lk l d' ≠ none := by
                    intro l
                    induction l with
                    | nil => intro hm; cases hm
                    | cons x l ih =>
                      obtain ⟨x1, x2, x3⟩ := x
                      intro hm
                      simp only [lk]
                      by_cases hx : x1 = d'
                      · rw [if_pos hx]; simp
                      · rw [if_neg hx]
                        rcases List.mem_cons.1 hm with hm | hm
                        · simp only [Prod.mk.injEq] at hm; exact (hx hm.1.symm).elim
                        · exact ih hm
                  exact this hmem hlkv
                · have := i6 i hli oi q1 e he1 he2
                  rw [he3, hunF] at this
                  cases this
            have hS : SimA nt μ (keepE (readsK kj) ((es.take j).reverse ++ env)) h a w := by
              refine ⟨i2, fun t g' v' e => ?_, i3, i4⟩
              rw [lk_keepE] at e
              by_cases ht : t ∈ readsK kj
              · rw [if_pos ht] at e; exact reads t g' v' ht e
              · rw [if_neg ht] at e; cases e
            have hgc' : gcOf (keepE (readsK kj) ((es.take j).reverse ++ env)) kj.g = some gc := by rw [gcOf_same same_keepE]; exact hgc
            have hsays := gc_ok hS hgc'
            have hwant : Region.wanted o (yielded ops' a.tmps) = gc := by
              rw [wanted_of hguard]
              cases hkg : kj.g with
              | none => rw [hkg] at hsays; simp only [GcSays] at hsays; simp [wantG, hsays]
              | some p =>
                obtain ⟨dg, want⟩ := p
                rw [hkg] at hsays
                simp only [GcSays] at hsays
                simp only [wantG]
                cases hgcv : gc with
                | true => rw [hsays.1 hgcv]; simp
                | false =>
                  have hne := hsays.2 hgcv
                  split
                  · rename_i b hb; simpa using hne b hb
                  · rfl
            -- behind it
            have after : ∀ c w', (gc = true → VR μ w' v c) → (gc = false → c = undef) → Step μ w μ w' → Sim μ h w' → Inv (listed.setIfInBounds j true) (a.put o.dst c) w' := by
              intro c w' hc1 hc2 st hsim
              rw [hdst, hkd]
              have hgetd : (a.put (some d) c).tmps.getD d undef = c := by
                have : d < a.tmps.size := by rw [i3]; exact hdn
                simp [Act.put, this]
              have getj : ∀ i, (listed.setIfInBounds j true).getD i false = true → i = j ∨ listed.getD i false = true := by
                intro i hi
                by_cases hij : i = j
                · exact .inl hij
                · right
                  rw [getD_set_ne false (fun e => hij e.symm)] at hi
                  exact hi
              refine ⟨by simp [i1], hsim, by rw [put_size]; exact i3, by rw [put_defers]; exact i4, i5.trans st, fun i hi oi hoi e he hb => ?_, fun i d' gc' v' hi hei => ?_, fun t g' v' hno hlkt => ?_⟩
              · rcases getj i hi with rfl | hi
                · rw [ho] at hoi
                  injection hoi with hoi
                  subst hoi
                  exact getD_set_true (hafter e he hb)
                · exact getD_set_true (i6 i hi oi hoi e he hb)
              · rcases getj i hi with rfl | hi'
                · rw [he] at hei
                  simp only [Option.some.injEq, Prod.mk.injEq] at hei
                  obtain ⟨rfl, rfl, rfl⟩ := hei
                  unfold Told
                  rw [hgetd]
                  exact ⟨hc1, hc2⟩
                · have hne : d ≠ d' := by
                    rintro rfl
                    have := uniq _ _ _ _ _ _ _ he hei
                    subst this
                    rw [hunF] at hi'
                    cases hi'
                  exact ((i7 i d' gc' v' hi' hei).mono st).put hne
              · have hne : d ≠ t := by
                  refine hno j d gc v ?_ he
                  simp [Array.getD, hlt']
                refine ((i8 t g' v' (fun i d' gc' v'' hi hei => hno i d' gc' v'' (getD_set_true hi) hei) hlkt).mono st).put hne
            have hcnt' : (listed.setIfInBounds j true).toList.count false ≤ fuel := by
              have hlj : listed.toList[j]'(by simpa using hlt') = false := by simpa [Array.getD, hlt'] using hunF
              have hc0 : 0 < listed.toList.count false := by
                rw [List.count_pos_iff]
                rw [← hlj]
                exact List.getElem_mem _
              refine Nat.le_trans (Nat.le_of_eq (show _ = listed.toList.count false - 1 from ?_)) (by omega)
              rw [Array.toList_setIfInBounds, List.count_set (by simpa using hlt'), hlj]
              rfl
            unfold wpOp
            rw [ho]
            simp only [hwant]
            cases hgcv : gc with
            | false =>
              simp only [Bool.false_eq_true, if_false]
              exact ih _ _ _ (after undef w (fun e => by rw [hgcv] at e; cases e) (fun _ => rfl) (Step.refl _ _) i2) hcnt'
            | true =>
              simp only [if_true]
              left
              refine Oper.wp_mono' (fun _ _ hh => hh) (fun _ _ _ hf => hf.elim) (hvok hgcv o μ a w hop hS _ fun c w' hcv hb => ?_)
              exact ih _ _ _ (after c w' (fun _ => hcv) (fun e => by rw [hgcv] at e; cases e) (Step.of_below i2.muok hb) (i2.below hb)) hcnt'
      refine wp_region_any hm ?_
      have hb0 : Below w0.heap.size w0 { w0 with drawn := w0.drawn + 1 } := ⟨rfl, rfl, rfl, Nat.le_refl _, fun _ _ => rfl⟩
      have st0 := Step.of_below hs.sim.muok hb0
      refine main ops'.size _ a0 _ ⟨by simp, hs.sim.below hb0, hs.size, hs.defers, st0, fun i hi => ?_, fun i d gc v hi => ?_, fun t g v _ hlkt => ?_⟩ ?_
      · exfalso
        by_cases hlt : i < ops'.size <;> simp [Array.getD, hlt] at hi
      · exfalso
        by_cases hlt : i < ops'.size <;> simp [Array.getD, hlt] at hi
      · exact Told.mono (hs.env t g v hlkt) st0
      · simp

end

attribute [simp] RD

/-- A region of open order, and what is behind it. -/
theorem TK.rund {C : Cx} {nt : Nat} {Q : Post} {env : Env} {h : Hp} {ops : Array Oper} {ks : List KO} {y : KC} (hm : C.P.follows .mixedOrders = true) (hck : okDrw ops ks = true)
    (k : ∀ K : Env → Hp → Prop, (∀ env h, TK C.P nt y Q env h → K env h) → RD C nt K ks env h) : TK C.P nt (.seq (.drw ops ks) y) Q env h :=
  TK.seq_k fun K hK => TK.drw hm hck (RD.ok _ _ (k K hK))
end Go.AM
