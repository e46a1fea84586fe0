import Derived.Test.YtpipaggkbiapjaaDoorXG
/- The rule for such regions. -/
namespace Go.AX
open Go.AM Go.RowKit

theorem nextE_spec {sc : List (Nat × Nat)} {p e : Nat} (hpe : p < e) (he : e < sc.length) (hk : kindAt sc e = 2) : ∃ q, nextE sc p = some q ∧ p < q ∧ q ≤ e ∧ kindAt sc q = 2 := by
  unfold nextE
  cases hf : (List.range sc.length).find? fun q => decide (p < q) && kindAt sc q == 2 with
  | none =>
    exfalso
    have := List.find?_eq_none.1 hf e (List.mem_range.2 he)
    simp [hpe, hk] at this
  | some q =>
    have h1 := List.find?_some hf
    simp only [Bool.and_eq_true, decide_eq_true_eq, beq_iff_eq] at h1
    refine ⟨q, rfl, h1.1, ?_, h1.2⟩
    rcases Nat.lt_or_ge e q with hlt | hge
    · exfalso
      obtain ⟨hq1, as, bs, hab, hno⟩ := List.find?_eq_some_iff_append.1 hf
      have hem : e ∈ as := by
        have he2 : e ∈ List.range sc.length := List.mem_range.2 he
        rw [hab] at he2
        rcases List.mem_append.1 he2 with h | h
        · exact h
        · exfalso
          have hs : (List.range sc.length).Pairwise (· < ·) := List.pairwise_lt_range
          rw [hab] at hs
          have h3 := (List.pairwise_append.1 hs).2.1
          rcases List.mem_cons.1 h with rfl | h
          · omega
          · have := (List.pairwise_cons.1 h3).1 e h
            omega
      have := hno e hem
      simp [hpe, hk] at this
    · exact hge

section
variable {P : Program} {nt : Nat} {Q : Post} {env : Env} {h hS : Hp}

structure Inv (P : Program) (nt : Nat) (hS : Hp) (env : Env) (ks : List KO) (sc : List (Nat × Nat)) (n : Nat) (ops : Array Oper) (K : Env → Hp → Prop) (μ0 : Mu) (w0 : World) (listed : Array Bool) (a : Act) (w : World) (R : List Ent) (h1 : Hp) (μ : Mu) : Prop where
  al : ∀ pre x post, R = pre ++ x :: post → sc[post.length]? = some (x.kd, x.i)
  run : DRun P nt hS ks K (sc.drop R.length) (envOf R env) h1
  size : listed.size = n
  sim : Sim μ (h1 ++ hS) w
  hsub : HSub hS (h1 ++ hS)
  tmps : a.tmps.size = nt
  defers : a.defers = []
  step : Step μ0 w0 μ w
  clo : ∀ i, listed.getD i false = true → ∀ o, ops[i]? = some o → ∀ e ∈ o.after, Region.binds .any e = true → listed.getD e.on false = true
  sub : ∀ i, listed.getD i false = true → ∃ x ∈ R, x.i = i
  facts : Facts P nt hS env ks (fun i => listed.getD i false) h1 R
  told : ∀ x ∈ R, listed.getD x.i false = true → ∀ d, x.d = some d → AM.Told μ w a d x.gc x.v
  base : ∀ t g v, (∀ x ∈ R, listed.getD x.i false = true → x.d ≠ some t) → lk env t = some (g, v) → AM.Told μ w a t g v

theorem told_mono {μ μ' : Mu} {w w' : World} {a : Act} {t : Nat} {g : Bool} {v : AV} (k : AM.Told μ w a t g v) (st : Step μ w μ' w') : AM.Told μ' w' a t g v := ⟨fun hg => VR.mono st _ _ (k.1 hg), k.2⟩
theorem pos_at {sc : List (Nat × Nat)} {p kd i : Nat} (h : sc[p]? = some (kd, i)) : p < sc.length ∧ ixAt sc p = i ∧ kindAt sc p = min kd 2 := by
  refine ⟨(List.getElem?_eq_some_iff.1 h).1, ?_, ?_⟩
  · unfold ixAt; rw [h]
  · unfold kindAt; rw [h]
theorem suf_at {R pre post : List Ent} {z : Ent} (e : R = pre ++ z :: post) : R.reverse[post.length]? = some z := by
  rw [e, List.reverse_append, List.reverse_cons, List.append_assoc, List.getElem?_append_right (by simp)]
  simp
theorem suf_mem {R pre pre3 post post3 : List Ent} {x z : Ent} (e1 : R = pre ++ x :: post) (e3 : R = pre3 ++ z :: post3) (h : post3.length < post.length) : z ∈ post := by
  have h1 := suf_at e3
  rw [e1, List.reverse_append, List.reverse_cons, List.append_assoc, List.getElem?_append_left (by simpa using h)] at h1
  have := List.mem_of_getElem? h1
  simpa using this

variable {ks : List KO} {sc : List (Nat × Nat)} {ops : Array Oper} {K : Env → Hp → Prop} {μ0 : Mu} {w0 : World}

/-- An operation that is not told of stands behind. -/
theorem Inv.fresh {n : Nat} {listed : Array Bool} {a : Act} {w : World} {R : List Ent} {h1 : Hp} {μ : Mu} (S : SchedOK ops ks sc) (V : Inv P nt hS env ks sc n ops K μ0 w0 listed a w R h1 μ) {p : Nat} (hp : p < sc.length) (hR : R.length ≤ p) :
    listed.getD (ixAt sc p) false = false := by
  cases hb : listed.getD (ixAt sc p) false with
  | false => rfl
  | true =>
    exfalso
    obtain ⟨x, hx, hxi⟩ := V.sub _ hb
    obtain ⟨pre, post, e⟩ := List.append_of_mem hx
    obtain ⟨h1, h2, _⟩ := pos_at (V.al pre x post e)
    have hlt : post.length < R.length := by rw [e]; simp; omega
    exact S.inj p post.length hp h1 (by omega) (by rw [h2]; exact hxi)

/-- What only reads is revealed. -/
theorem Inv.unroll {n : Nat} {listed : Array Bool} {a : Act} {w : World} (S : SchedOK ops ks sc) : ∀ (m : Nat) (R : List Ent) (h1 : Hp) (μ : Mu), sc.length - R.length ≤ m → Inv P nt hS env ks sc n ops K μ0 w0 listed a w R h1 μ →
    ∃ R', Inv P nt hS env ks sc n ops K μ0 w0 listed a w R' h1 μ ∧ ∀ x, sc[R'.length]? = some x → 2 ≤ x.1
  | 0, R, h1, μ, hm, V => ⟨R, V, fun x hx => by have := (List.getElem?_eq_some_iff.1 hx).1; omega⟩
  | m + 1, R, h1, μ, hm, V => by
    cases hx : sc[R.length]? with
    | none => exact ⟨R, V, fun x h => by rw [hx] at h; cases h⟩
    | some x =>
      obtain ⟨kd, i⟩ := x
      by_cases h2 : 2 ≤ kd
      · exact ⟨R, V, fun x h => by rw [hx] at h; injection h with h; subst h; exact h2⟩
      · have hlt := (List.getElem?_eq_some_iff.1 hx).1
        have hdrop : sc.drop R.length = (kd, i) :: sc.drop (R.length + 1) := by
          rw [List.drop_eq_getElem_cons hlt, (List.getElem?_eq_some_iff.1 hx).2]
        have hrun := V.run
        rw [hdrop] at hrun
        have hfr := V.fresh S hlt (Nat.le_refl _)
        have hix : ixAt sc R.length = i := (pos_at hx).2.1
        rw [hix] at hfr
        have key : ∃ k, ks[i]? = some k ∧ ∃ gc d v, gcOf (envOf R env) k.g = some gc ∧ k.d = some d ∧ d < nt ∧ (kd = 0 → gc = true → VOK P nt hS (keepE (readsK k) (envOf R env)) k.i v) ∧
            (kd = 1 → gc = true → VOK P nt (h1 ++ hS) (keepE (readsK k) (envOf R env)) k.i v) ∧ DRun P nt hS ks K (sc.drop (R.length + 1)) ((d, gc, v) :: envOf R env) h1 := by
          match kd, h2, hrun with
          | 0, _, ⟨k, q1, gc, d, v, q2, q3, q4, q5, q6⟩ => exact ⟨k, q1, gc, d, v, q2, q3, q4, fun _ => q5, (fun e => by cases e), q6⟩
          | 1, _, ⟨k, q1, gc, d, v, q2, q3, q4, q5, q6⟩ => exact ⟨k, q1, gc, d, v, q2, q3, q4, (fun e => by cases e), fun _ => q5, q6⟩
          | k + 2, h2, _ => exact (h2 (by omega)).elim
        obtain ⟨k, q1, gc, d, v, q2, q3, q4, q5, q6, q7⟩ := key
        refine Inv.unroll S m (⟨kd, i, some d, gc, v⟩ :: R) h1 μ (by simp; omega) ⟨?_, ?_, V.size, V.sim, V.hsub, V.tmps, V.defers, V.step, V.clo, ?_, ⟨⟨k, q1, q3.symm, fun d' hd' => ?_, fun _ => by rw [q3]; simp, q2, fun h _ => q5 h, fun h _ => q6 h, fun h => absurd h h2⟩, V.facts⟩, ?_, ?_⟩
        · intro pre x post e
          cases pre with
          | nil => simp only [List.nil_append, List.cons.injEq] at e; obtain ⟨rfl, rfl⟩ := e; exact hx
          | cons y pre => simp only [List.cons_append, List.cons.injEq] at e; exact V.al pre x post e.2
        · exact q7
        · intro j hj
          obtain ⟨x, hx1, hx2⟩ := V.sub j hj
          exact ⟨x, List.mem_cons_of_mem _ hx1, hx2⟩
        · rw [q3] at hd'; injection hd' with hd'; omega
        · intro x hx1 hx2 d' hd'
          rcases List.mem_cons.1 hx1 with rfl | hx1
          · rw [hfr] at hx2; cases hx2
          · exact V.told x hx1 hx2 d' hd'
        · intro t g u hno hl
          exact V.base t g u (fun x hx1 => hno x (List.mem_cons_of_mem _ hx1)) hl

theorem TK.drwX {ops : Array Oper} {ks : List KO} (sc : List (Nat × Nat)) (hm : P.follows .mixedOrders = true) (hck : okSched ops ks sc = true)
    (hsub : HSub hS (h ++ hS)) (hrun : DRun P nt hS ks (fun env h => Q .normal env h) sc env h) : TK P nt (.drw ops ks) Q env (h ++ hS) := by
  have S := okSched_ok hck
  intro c hc μ0 a0 w0 hs
  cases c <;> (try simp [cookC] at hc)
  case seq x y => split at hc <;> simp at hc
  case cond x y z => split at hc <;> simp at hc
  case region id ops' dr =>
    cases dr with
    | false => simp [cookC] at hc
    | true =>
      simp only [cookC, Option.map_eq_some_iff] at hc
      obtain ⟨ks', h1, h2⟩ := hc
      injection h2 with h2a h2b
      subst h2a h2b
      obtain ⟨hl, hz⟩ := cookL_at h1
      have hlk : ks'.length = ops'.size := by simpa using hl.symm
      have hops : ∀ (j : Nat) (o : Oper), ops'[j]? = some o → ∃ k, ks'[j]? = some k ∧ cookOp o.op = some k.i ∧ o.dst = k.d ∧ cookG ops' o.guard = some k.g := by
        intro j o ho
        obtain ⟨hj, rfl⟩ := Array.getElem?_eq_some_iff.1 ho
        have hj' : j < ks'.length := by omega
        refine ⟨ks'[j], by simp [hj'], ?_⟩
        refine cookO_at (hz (ops'[j], ks'[j]) ?_)
        rw [List.mem_iff_getElem]
        exact ⟨j, by simp only [List.length_zip, Array.length_toList]; omega, by simp⟩
      have done : ∀ listed a w R h1 μ hS, Inv P nt hS env ks' sc ops'.size ops' (fun env h => Q .normal env h) μ0 w0 listed a w R h1 μ → (∀ i, i < ops'.size → listed.getD i false = true) →
          ∃ μ' env' h', Q .normal env' h' ∧ SimA nt μ' env' h' a w ∧ Step μ0 w0 μ' w := by
        intro listed a w R h1 μ hS V hall
        have hend : sc.length ≤ R.length := by
          rcases Nat.lt_or_ge R.length sc.length with hlt | hge
          · exfalso
            obtain ⟨o, k, ho, _⟩ := S.deps R.length hlt
            have := V.fresh S hlt (Nat.le_refl _)
            rw [hall _ (Array.getElem?_eq_some_iff.1 ho).1] at this
            cases this
          · exact hge
        have hq := V.run
        rw [List.drop_eq_nil_of_le hend] at hq
        refine ⟨μ, envOf R env, h1 ++ hS, hq, ⟨V.sim, fun t g v e => ?_, V.tmps, V.defers⟩, V.step⟩
        have ex : ∀ x ∈ R, listed.getD x.i false = true := by
          intro x hx
          obtain ⟨pre, post, e⟩ := List.append_of_mem hx
          obtain ⟨q1, q2, _⟩ := pos_at (V.al pre x post e)
          obtain ⟨o, k, ho, _⟩ := S.deps post.length q1
          have := hall _ (Array.getElem?_eq_some_iff.1 ho).1
          rw [q2] at this
          exact this
        rcases envOf_lk e with ⟨x, hx, hd, rfl, rfl⟩ | ⟨hno, hl⟩
        · exact V.told x hx (ex x hx) t hd
        · exact V.base t g v (fun x hx _ => hno x hx) hl
      have main : ∀ (fuel : Nat) (listed : Array Bool) (a : Act) (w : World) (R : List Ent) (h1 : Hp) (μ : Mu) (hS : Hp), Inv P nt hS env ks' sc ops'.size ops' (fun env h => Q .normal env h) μ0 w0 listed a w R h1 μ → listed.toList.count false ≤ fuel →
          wpAny P .any ops' (fun e a' w' => ∃ μ' env' h', Q e env' h' ∧ SimA nt μ' env' h' a' w' ∧ Step μ0 w0 μ' w') fuel listed a w := by
        intro fuel
        induction fuel with
        | zero =>
          intro listed a w R h1 μ hS V hcnt
          have hall : ∀ i, i < ops'.size → listed.getD i false = true := by
            intro i hi
            have hi' : i < listed.size := by rw [V.size]; exact hi
            have h0 : listed.toList.count false = 0 := by omega
            rw [List.count_eq_zero] at h0
            cases hb : listed.getD i false with
            | true => rfl
            | false =>
              exfalso
              apply h0
              have : listed[i] = false := by simpa [Array.getD, hi'] using hb
              rw [← this]
              simp
          refine ⟨?_, done _ _ _ _ _ _ _ V hall⟩
          cases hr : Region.ready .any ops' listed with
          | nil => rfl
          | cons j r =>
            exfalso
            have hj : j ∈ Region.ready .any ops' listed := by rw [hr]; simp
            obtain ⟨hun, o, ho, _⟩ := mem_ready.1 hj
            have hlt := (Array.getElem?_eq_some_iff.1 ho).1
            have h3 := hall j hlt
            have hlt' : j < listed.size := by rw [V.size]; exact hlt
            simp [Array.getD, hlt'] at h3 hun
            rw [hun] at h3
            cases h3
        | succ fuel ih =>
          intro listed a w R0 h1 μ hS V0 hcnt
          refine ⟨fun hr => ?_, fun j hj => ?_⟩
          · have hall : ∀ p, p < sc.length → listed.getD (ixAt sc p) false = true := by
              intro p
              induction p using Nat.strongRecOn with
              | _ p ihp =>
                intro hp
                obtain ⟨o, k, ho, hk, hdep⟩ := S.deps p hp
                have hi := (Array.getElem?_eq_some_iff.1 ho).1
                have hi' : ixAt sc p < listed.size := by rw [V0.size]; exact hi
                cases hb : listed.getD (ixAt sc p) false with
                | true => rfl
                | false =>
                  exfalso
                  have hmem : ixAt sc p ∈ Region.ready .any ops' listed := by
                    rw [mem_ready]
                    refine ⟨by simpa [Array.getD, hi'] using hb, o, ho, fun e he hbd => ?_⟩
                    obtain ⟨q, hq, hqe⟩ := hdep e he hbd
                    rw [← hqe]
                    exact ihp q hq (by omega)
                  rw [hr] at hmem
                  cases hmem
            refine done _ _ _ _ _ _ _ V0 fun i hi => ?_
            obtain ⟨p, hp, rfl⟩ := S.sur i hi
            exact hall p hp
          · obtain ⟨R, V, hnext⟩ := Inv.unroll S _ R0 h1 μ (Nat.le_refl _) V0
            clear V0 R0
            obtain ⟨hun, o, ho, hafter⟩ := mem_ready.1 hj
            have hlt := (Array.getElem?_eq_some_iff.1 ho).1
            have hlt' : j < listed.size := by rw [V.size]; exact hlt
            have hunF : listed.getD j false = false := by simpa [Array.getD, hlt'] using hun
            obtain ⟨kj, hkj, hop, hdst, hguard⟩ := hops j o ho
            have getj : ∀ i, (listed.setIfInBounds j true).getD i false = true → i = j ∨ listed.getD i false = true := by
              intro i hi
              by_cases hij : i = j
              · exact .inl hij
              · right
                rw [getD_set_ne false (fun e => hij e.symm)] at hi
                exact hi
            have setj : (listed.setIfInBounds j true).getD j false = true := by simp [Array.getD, hlt']
            have hcnt' : (listed.setIfInBounds j true).toList.count false ≤ fuel := by
              have hlj : listed.toList[j]'(by simpa using hlt') = false := by simpa [Array.getD, hlt'] using hunF
              have hc0 : 0 < listed.toList.count false := by
                rw [List.count_pos_iff]
                rw [← hlj]
                exact List.getElem_mem _
              refine Nat.le_trans (Nat.le_of_eq (show _ = listed.toList.count false - 1 from ?_)) (by omega)
              rw [Array.toList_setIfInBounds, List.count_set (by simpa using hlt'), hlj]
              rfl
            have hclo : ∀ i, (listed.setIfInBounds j true).getD i false = true → ∀ o, ops'[i]? = some o → ∀ e ∈ o.after, Region.binds .any e = true → (listed.setIfInBounds j true).getD e.on false = true := by
              intro i hi oi hoi e he hb
              rcases getj i hi with rfl | hi
              · rw [ho] at hoi
                injection hoi with hoi
                subst hoi
                exact getD_set_true (hafter e he hb)
              · exact getD_set_true (V.clo i hi oi hoi e he hb)
            by_cases hin : ∃ x ∈ R, x.i = j
            · -- what was revealed
              obtain ⟨x, hx, hxj⟩ := hin
              obtain ⟨pre, post, eR⟩ := List.append_of_mem hx
              obtain ⟨p1, p2, p3⟩ := pos_at (V.al pre x post eR)
              obtain ⟨k, f1, f2, f3, f4, f5, f6, f7, f8⟩ := V.facts.at eR
              rw [hxj, hkj] at f1
              injection f1 with f1
              subst f1
              have hkd : x.kd < 2 := by
                rcases Nat.lt_or_ge x.kd 2 with h | h
                · exact h
                · have := f8 h; rw [hxj, hunF] at this; cases this
              obtain ⟨d, hd⟩ := Option.ne_none_iff_exists'.1 (f4 hkd)
              have hvok : x.gc = true → VOK P nt (h1 ++ hS) (keepE (readsK kj) (envOf post env)) kj.i x.v := by
                intro hg
                rcases Nat.lt_or_ge x.kd 1 with h | h
                · exact AX.VOK.sub (f6 (by omega) (by rw [hxj]; exact hunF) hg) V.hsub
                · exact f7 (by omega) (by rw [hxj]; exact hunF) hg
              have reads : ∀ t g' v', t ∈ readsK kj → lk (envOf post env) t = some (g', v') → AM.Told μ w a t g' v' := by
                intro t g' v' ht hl
                have hkx : ks'[ixAt sc post.length]? = some kj := by rw [p2, hxj]; exact hkj
                have ho' : ops'[ixAt sc post.length]? = some o := by rw [p2, hxj]; exact ho
                rcases envOf_lk hl with ⟨y, hy, hyd, rfl, rfl⟩ | ⟨hno, hl⟩
                · obtain ⟨pre2, post2, e2⟩ := List.append_of_mem hy
                  have eR2 : R = (pre ++ x :: pre2) ++ y :: post2 := by rw [eR, e2]; simp
                  obtain ⟨y1, y2, _⟩ := pos_at (V.al _ _ _ eR2)
                  have hlen : post2.length < post.length := by rw [e2]; simp; omega
                  obtain ⟨ky, g1, g2, _⟩ := V.facts.at eR2
                  rcases (S.rw post.length post2.length p1 y1 (by omega) kj ky t hkx (by rw [y2]; exact g1) (by rw [← g2]; exact hyd)).2 ht with ⟨_, he⟩ | ⟨hlt2, _⟩
                  · obtain ⟨e, he1, he2, he3⟩ := edge_of he ho'
                    refine V.told y (by rw [eR2]; simp) ?_ t hyd
                    have := hafter e he1 he2
                    rw [he3, y2] at this
                    exact this
                  · omega
                · refine V.base t g' v' (fun z hz hzl hzd => ?_) hl
                  obtain ⟨pre3, post3, e3⟩ := List.append_of_mem hz
                  obtain ⟨z1, z2, _⟩ := pos_at (V.al _ _ _ e3)
                  obtain ⟨kz, g1, g2, _⟩ := V.facts.at e3
                  have hne : post3.length ≠ post.length := by
                    intro hh
                    have : z.i = x.i := by rw [← z2, ← p2, hh]
                    rw [this, hxj, hunF] at hzl; cases hzl
                  have hnp : z ∉ post := fun hzp => hno z hzp hzd
                  have hge : post.length ≤ post3.length := by
                    rcases Nat.lt_or_ge post3.length post.length with h5 | h5
                    · exact (hnp (suf_mem eR e3 h5)).elim
                    · exact h5
                  rcases (S.rw post.length post3.length p1 z1 (by omega) kj kz t hkx (by rw [z2]; exact g1) (by rw [← g2]; exact hzd)).2 ht with ⟨h5, _⟩ | ⟨_, he⟩
                  · omega
                  · obtain ⟨oz, kz2, hoz, _⟩ := S.deps post3.length z1
                    obtain ⟨e, he1, he2, he3⟩ := edge_of he hoz
                    have := V.clo (ixAt sc post3.length) (by rw [z2]; exact hzl) oz hoz e he1 he2
                    rw [he3, p2, hxj, hunF] at this
                    cases this
              have hSA : SimA nt μ (keepE (readsK kj) (envOf post env)) (h1 ++ hS) a w := by
                refine ⟨V.sim, fun t g' v' e => ?_, V.tmps, V.defers⟩
                rw [lk_keepE] at e
                by_cases ht : t ∈ readsK kj
                · rw [if_pos ht] at e; exact reads t g' v' ht e
                · rw [if_neg ht] at e; cases e
              have hgc' : gcOf (keepE (readsK kj) (envOf post env)) kj.g = some x.gc := by rw [gcOf_same same_keepE]; exact f5
              have hsays := gc_ok hSA hgc'
              have hwant : Region.wanted o (yielded ops' a.tmps) = x.gc := by
                rw [wanted_of hguard]
                cases hkg : kj.g with
                | none => rw [hkg] at hsays; simp only [GcSays] at hsays; simp [wantG, hsays]
                | some p =>
                  obtain ⟨dg, want⟩ := p
                  rw [hkg] at hsays
                  simp only [GcSays] at hsays
                  simp only [wantG]
                  cases hgcv : x.gc with
                  | true => rw [hsays.1 hgcv]; simp
                  | false =>
                    have hne := hsays.2 hgcv
                    split
                    · rename_i b hb; simpa using hne b hb
                    · rfl
              have hdn : d < nt := f3 d hd
              have after : ∀ c w', (x.gc = true → VR μ w' x.v c) → (x.gc = false → c = undef) → Step μ w μ w' → Sim μ (h1 ++ hS) w' →
                  Inv P nt hS env ks' sc ops'.size ops' (fun env h => Q .normal env h) μ0 w0 (listed.setIfInBounds j true) (a.put o.dst c) w' R h1 μ := by
                intro c w' hc1 hc2 st hsim
                rw [hdst, hd]
                have hgetd : (a.put (some d) c).tmps.getD d undef = c := by
                  have : d < a.tmps.size := by rw [V.tmps]; exact hdn
                  simp [Act.put, this]
                refine ⟨V.al, V.run, by simp [V.size], hsim, V.hsub, by rw [put_size]; exact V.tmps, by rw [put_defers]; exact V.defers, V.step.trans st, hclo, fun i hi => ?_, ?_, fun y hy hyl d' hd' => ?_, fun t g' v' hno hlkt => ?_⟩
                · rcases getj i hi with rfl | hi
                  · exact ⟨x, hx, hxj⟩
                  · exact V.sub i hi
                · exact V.facts.mono (fun y _ hy => getD_set_true hy) (fun _ _ _ _ => rfl)
                · rcases getj y.i hyl with hyj | hyl
                  · -- the operation itself
                    obtain ⟨pre4, post4, e4⟩ := List.append_of_mem hy
                    obtain ⟨y1, y2, _⟩ := pos_at (V.al _ _ _ e4)
                    have hpp : post4.length = post.length := by
                      by_cases hh : post4.length = post.length
                      · exact hh
                      · exact (S.inj post.length post4.length p1 y1 (fun e => hh e.symm) (by rw [y2, p2, hyj, hxj])).elim
                    have hyx : y = x := by
                      have h5 : R[pre4.length]? = some y := by rw [e4]; simp
                      have h6 : R[pre.length]? = some x := by rw [eR]; simp
                      have h7 : pre4.length = pre.length := by
                        have q1 := congrArg List.length e4
                        have q2 := congrArg List.length eR
                        simp at q1 q2
                        omega
                      rw [h7, h6] at h5
                      injection h5 with h5
                      exact h5.symm
                    subst hyx
                    rw [f2, hd] at hd'
                    injection hd' with hd'
                    subst hd'
                    unfold AM.Told
                    rw [hgetd]
                    exact ⟨hc1, hc2⟩
                  · have hne : d ≠ d' := by
                      rintro rfl
                      obtain ⟨pre4, post4, e4⟩ := List.append_of_mem hy
                      obtain ⟨y1, y2, _⟩ := pos_at (V.al _ _ _ e4)
                      obtain ⟨ky, g1, g2, _⟩ := V.facts.at e4
                      have hpp : post.length ≠ post4.length := by
                        intro hh
                        have : y.i = x.i := by rw [← y2, ← p2, hh]
                        rw [this, hxj, hunF] at hyl; cases hyl
                      exact (S.rw post.length post4.length p1 y1 hpp kj ky d (by rw [p2, hxj]; exact hkj) (by rw [y2]; exact g1) (by rw [← g2]; exact hd')).1 hd
                    exact ((V.told y hy hyl d' hd').mono st).put hne
                · have hne : d ≠ t := by
                    rintro rfl
                    exact hno x hx (by rw [hxj]; exact setj) (by rw [f2]; exact hd)
                  exact ((V.base t g' v' (fun y hy hyl => hno y hy (getD_set_true hyl)) hlkt).mono st).put hne
              unfold wpOp
              rw [ho]
              simp only [hwant]
              cases hgcv : x.gc with
              | false =>
                simp only [Bool.false_eq_true, if_false]
                exact ih _ _ _ _ _ _ _ (after undef w (fun e => by rw [hgcv] at e; cases e) (fun _ => rfl) (Step.refl _ _) V.sim) hcnt'
              | true =>
                simp only [if_true]
                left
                refine Oper.wp_mono' (fun _ _ hh => hh) (fun _ _ _ hf => hf.elim) (hvok hgcv o μ a w hop hSA _ fun c w' hcv hb => ?_)
                exact ih _ _ _ _ _ _ _ (after c w' (fun _ => hcv) (fun e => by rw [hgcv] at e; cases e) (Step.of_below V.sim.muok hb) (V.sim.below hb)) hcnt'
            · -- what turns rows
              obtain ⟨p, hp, hpj⟩ := S.sur j hlt
              have hpR : R.length ≤ p := by
                rcases Nat.lt_or_ge p R.length with h5 | h5
                · exfalso
                  have h6 : R.length - 1 - p < R.length := by omega
                  have eR : R = R.take (R.length - 1 - p) ++ R[R.length - 1 - p] :: R.drop (R.length - 1 - p + 1) := by
                    rw [← List.drop_eq_getElem_cons h6, List.take_append_drop]
                  obtain ⟨_, q2, _⟩ := pos_at (V.al _ _ _ eR)
                  have h7 : (R.drop (R.length - 1 - p + 1)).length = p := by simp; omega
                  rw [h7] at q2
                  exact hin ⟨_, List.getElem_mem h6, by rw [← q2, hpj]⟩
                · exact h5
              have hlast : R.length < sc.length := by omega
              obtain ⟨kd, hkdx⟩ : ∃ kd, sc[R.length]? = some (kd, ixAt sc R.length) := by
                refine ⟨sc[R.length].1, ?_⟩
                rw [List.getElem?_eq_getElem hlast]
                simp [ixAt, List.getElem?_eq_getElem hlast]
              have hkd2 := hnext _ hkdx
              simp only at hkd2
              have hkE : kindAt sc R.length = 2 := by rw [(pos_at hkdx).2.2]; omega
              have hpe : p = R.length := by
                rcases Nat.eq_or_lt_of_le hpR with h5 | h5
                · exact h5.symm
                · exfalso
                  obtain ⟨r, r1, r2, r3⟩ := S.aft p R.length hp h5 hkE
                  rw [hpj] at r3
                  obtain ⟨e, he1, he2, he3⟩ := edge_of r3 ho
                  have := hafter e he1 he2
                  rw [he3, V.fresh S (by omega) r1] at this
                  cases this
              subst hpe
              have hdrop : sc.drop R.length = (kd, j) :: sc.drop (R.length + 1) := by
                rw [List.drop_eq_getElem_cons hlast, (List.getElem?_eq_some_iff.1 hkdx).2, hpj]
              have hrun' := V.run
              rw [hdrop] at hrun'
              obtain ⟨kd', rfl⟩ : ∃ kd', kd = kd' + 2 := ⟨kd - 2, by omega⟩
              obtain ⟨k, e1, e2, e3, e4⟩ := hrun'
              rw [hkj] at e1
              injection e1 with e1
              subst e1
              have ones : ∀ (m : Nat) (pre : List Ent) (x : Ent) (post : List Ent), R.length - post.length ≤ m → R = pre ++ x :: post → x.kd = 1 → listed.getD x.i false = true := by
                intro m
                induction m with
                | zero => intro pre x post hm eR _; rw [eR] at hm; simp at hm; omega
                | succ m ihm =>
                  intro pre x post hm eR hk1
                  obtain ⟨p1, p2, p3⟩ := pos_at (V.al pre x post eR)
                  have hlenR : post.length < R.length := by rw [eR]; simp; omega
                  have hk1' : kindAt sc post.length = 1 := by rw [p3]; omega
                  obtain ⟨q, hq, hq1, hq2, hq3⟩ := nextE_spec hlenR hlast hkE
                  obtain ⟨r, r1, r2, r3, r4⟩ := S.one post.length p1 hk1' q hq
                  have hrdone : (∀ o', ops'[ixAt sc r]? = some o' → ∀ e ∈ o'.after, Region.binds .any e = true → listed.getD e.on false = true) := by
                    intro o' ho' e he hb
                    rcases Nat.lt_or_ge r R.length with h5 | h5
                    · have h6 : R.length - 1 - r < R.length := by omega
                      have eR' : R = R.take (R.length - 1 - r) ++ R[R.length - 1 - r] :: R.drop (R.length - 1 - r + 1) := by
                        rw [← List.drop_eq_getElem_cons h6, List.take_append_drop]
                      have h7 : (R.drop (R.length - 1 - r + 1)).length = r := by simp; omega
                      obtain ⟨_, s2, s3⟩ := pos_at (V.al _ _ _ eR')
                      rw [h7] at s2 s3
                      refine V.clo (ixAt sc r) ?_ o' ho' e he hb
                      rw [s2]
                      rcases r3 with hr1 | rfl
                      · refine ihm _ _ _ (by rw [h7]; omega) eR' ?_
                        rw [hr1] at s3
                        omega
                      · obtain ⟨_, _, _, _, _, _, _, _, f8⟩ := V.facts.at eR'
                        refine f8 ?_
                        rw [hq3] at s3
                        omega
                    · have hrR : r = R.length := by omega
                      subst hrR
                      rw [hpj, ho] at ho'
                      injection ho' with ho'
                      subst ho'
                      exact hafter e he hb
                  have hr_lt : r < sc.length := by omega
                  obtain ⟨o', k', ho', _⟩ := S.deps r hr_lt
                  obtain ⟨e, he1, he2, he3⟩ := edge_of r4 ho'
                  have := hrdone o' ho' e he1 he2
                  rw [he3, p2] at this
                  exact this
              have reads : ∀ t g' v', t ∈ readsK kj → lk (envOf R env) t = some (g', v') → AM.Told μ w a t g' v' := by
                intro t g' v' ht hl
                have hkx : ks'[ixAt sc R.length]? = some kj := by rw [hpj]; exact hkj
                have ho' : ops'[ixAt sc R.length]? = some o := by rw [hpj]; exact ho
                rcases envOf_lk hl with ⟨y, hy, hyd, rfl, rfl⟩ | ⟨hno, hl⟩
                · obtain ⟨pre2, post2, e2'⟩ := List.append_of_mem hy
                  obtain ⟨y1, y2, _⟩ := pos_at (V.al _ _ _ e2')
                  have hlen : post2.length < R.length := by rw [e2']; simp; omega
                  obtain ⟨ky, g1, g2, _⟩ := V.facts.at e2'
                  rcases (S.rw R.length post2.length hp y1 (by omega) kj ky t hkx (by rw [y2]; exact g1) (by rw [← g2]; exact hyd)).2 ht with ⟨_, he⟩ | ⟨hlt2, _⟩
                  · obtain ⟨e, he1, he2, he3⟩ := edge_of he ho'
                    refine V.told y hy ?_ t hyd
                    have := hafter e he1 he2
                    rw [he3, y2] at this
                    exact this
                  · omega
                · exact V.base t g' v' (fun z hz _ hzd => hno z hz hzd) hl
              have hSA : SimA nt μ (keepE (readsK kj) (envOf R env)) (h1 ++ hS) a w := by
                refine ⟨V.sim, fun t g' v' e => ?_, V.tmps, V.defers⟩
                rw [lk_keepE] at e
                by_cases ht : t ∈ readsK kj
                · rw [if_pos ht] at e; exact reads t g' v' ht e
                · rw [if_neg ht] at e; cases e
              have hwant : Region.wanted o (yielded ops' a.tmps) = true := by rw [wanted_of hguard, e2]; rfl
              have hTL := e4 [o] rfl (fun p hp => by simp at hp; subst hp; exact ⟨hop, hdst⟩) μ a w hSA
              simp only [List.zip_cons_cons, List.zip_nil_right, wpK, e2] at hTL
              unfold wpOp
              rw [ho]
              simp only [hwant, if_true]
              left
              refine Oper.wp_mono' ?_ (fun _ _ _ hf => hf.elim) (wp_put (fun a' w' hh => by obtain ⟨_, _, _, _, s, _⟩ := hh; exact s.defers) hTL)
              rintro a' w' ⟨⟨μ', env', h', ⟨v, hE, hT, hTe, rfl, rfl, hsubE, hDR⟩, s', st⟩, c, rfl⟩
              refine ih _ _ _ (⟨kd' + 2, j, kj.d, true, v⟩ :: R) hE μ' hT ⟨?_, hDR, by simp [V.size], s'.sim, hsubE, s'.size, s'.defers, V.step.trans st, hclo, fun i hi => ?_, ⟨⟨kj, hkj, rfl, e3, fun h => by simp at h; omega, by rw [e2]; rfl, fun h => by simp at h, fun h => by simp at h, fun _ => setj⟩, ?_⟩, fun y hy hyl d' hd' => ?_, fun t g' v' hno hlkt => ?_⟩ hcnt'
              · intro pre x post e
                cases pre with
                | nil => simp only [List.nil_append, List.cons.injEq] at e; obtain ⟨rfl, rfl⟩ := e; rw [hkdx, hpj]
                | cons y pre => simp only [List.cons_append, List.cons.injEq] at e; exact V.al pre x post e.2
              · rcases getj i hi with rfl | hi
                · exact ⟨⟨kd' + 2, _, kj.d, true, v⟩, List.mem_cons_self, rfl⟩
                · obtain ⟨x, hx1, hx2⟩ := V.sub i hi
                  exact ⟨x, List.mem_cons_of_mem _ hx1, hx2⟩
              · cases kd' with
                | zero =>
                  rw [hTe rfl]
                  refine V.facts.mono (fun y _ hy => getD_set_true hy) (fun y hy hk1 hyl => ?_)
                  exfalso
                  obtain ⟨pre, post, eR⟩ := List.append_of_mem hy
                  have h5 := ones _ pre y post (Nat.le_refl _) eR hk1
                  have h6 := getD_set_true (i := j) h5
                  rw [hyl] at h6
                  cases h6
                | succ kd' =>
                  refine V.facts.all fun y hy => getD_set_true ?_
                  obtain ⟨pre, post, eR⟩ := List.append_of_mem hy
                  obtain ⟨_, y2, _⟩ := pos_at (V.al _ _ _ eR)
                  have hlen : post.length < R.length := by rw [eR]; simp; omega
                  have he := S.all3 R.length _ hkdx (by simp) post.length hlen
                  rw [hpj] at he
                  obtain ⟨e, he1, he2, he3⟩ := edge_of he ho
                  have := hafter e he1 he2
                  rw [he3, y2] at this
                  exact this
              · rcases List.mem_cons.1 hy with rfl | hy
                · simp only at hd' ⊢
                  have h5 := s'.env d' true v (by rw [hd']; simp [putE, lk])
                  exact h5
                · have hyl' : listed.getD y.i false = true := by
                    rcases getj y.i hyl with hyj | hyl
                    · exact (hin ⟨y, hy, hyj⟩).elim
                    · exact hyl
                  have hne : ∀ dd, kj.d = some dd → dd ≠ d' := by
                    rintro dd hdd rfl
                    obtain ⟨pre4, post4, e4'⟩ := List.append_of_mem hy
                    obtain ⟨y1, y2, _⟩ := pos_at (V.al _ _ _ e4')
                    obtain ⟨ky, g1, g2, _⟩ := V.facts.at e4'
                    have hlen : post4.length < R.length := by rw [e4']; simp; omega
                    exact (S.rw R.length post4.length hp y1 (by omega) kj ky dd (by rw [hpj]; exact hkj) (by rw [y2]; exact g1) (by rw [← g2]; exact hd')).1 hdd
                  have h5 := told_mono (V.told y hy hyl' d' hd') st
                  rw [hdst]
                  cases hkd5 : kj.d with
                  | none => exact h5
                  | some dd => exact h5.put (hne dd hkd5)
              · have h5 := told_mono (V.base t g' v' (fun y hy hyl => hno y (List.mem_cons_of_mem _ hy) (getD_set_true hyl)) hlkt) st
                rw [hdst]
                cases hkd5 : kj.d with
                | none => exact h5
                | some dd =>
                  refine h5.put ?_
                  rintro rfl
                  exact hno ⟨kd' + 2, j, kj.d, true, v⟩ (by simp) setj hkd5
      refine wp_region_any hm ?_
      have hb0 : Below w0.heap.size w0 { w0 with drawn := w0.drawn + 1 } := ⟨rfl, rfl, rfl, Nat.le_refl _, fun _ _ => rfl⟩
      have st0 := Step.of_below hs.sim.muok hb0
      refine main ops'.size _ a0 _ [] h μ0 hS ⟨(fun pre x post e => by cases pre <;> cases e), ?_, by simp, hs.sim.below hb0, hsub, hs.size, hs.defers, st0, fun i hi => ?_, fun i hi => ?_, trivial, (fun x hx => by cases hx), fun t g v _ hlkt => ?_⟩ ?_
      · exact hrun
      · exfalso
        by_cases hlt : i < ops'.size <;> simp [Array.getD, hlt] at hi
      · exfalso
        by_cases hlt : i < ops'.size <;> simp [Array.getD, hlt] at hi
      · exact AM.Told.mono (hs.env t g v hlkt) st0
      · simp
end
end Go.AX
