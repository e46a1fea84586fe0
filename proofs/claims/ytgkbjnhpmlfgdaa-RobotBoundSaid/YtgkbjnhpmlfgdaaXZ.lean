import Derived.Test.YtgkbjnhpmlfgdaaXY
/- Lists of lists that grow: begun with nil, longer by a nil, and turned in regions of open order. -/
namespace Go.AX
open Go.AM Go.RowKit

section
variable {C : Cx} {P : Program} {nt : Nat} {env : Env} {h : Hp} {K : Env → Hp → Prop} {Q : Post} {t : TypeId} {x y : X} {α : Type} [Enc α]

theorem grid_nil {b : Nat} {ty : TypeId} {nd : Nd h} (hb : h.get b = none) : Nd ((b, RV ty []) :: h) := nd.cons _ hb
theorem TK.ownG {c : KC} (t : Nat) (ty : TypeId) {v : AV} (nd : Nd h) (hl : lk env t = some (true, v)) (hv : v = .nils ∨ v = .z0)
    (k : ∀ b, Nd ((b, RV ty []) :: h) → TK P nt c Q ((t, true, OL b ([] : List (List α))) :: env) ((b, RV ty []) :: h)) : TK P nt c Q env h :=
  TK.own t ty 1 (ofL []) hl hv fun b hb => k b (nd.cons _ hb)
theorem TL.ownG {ks : List KO} (t : Nat) (ty : TypeId) {v : AV} (nd : Nd h) (hl : lk env t = some (true, v)) (hv : v = .nils ∨ v = .z0)
    (k : ∀ b, Nd ((b, RV ty []) :: h) → TL P nt ks K ((t, true, OL b ([] : List (List α))) :: env) ((b, RV ty []) :: h)) : TL P nt ks K env h :=
  TL.own0 t ty 1 (ofL []) hl hv fun b hb => k b (nd.cons _ hb)

/-- []T{nil}, as it is. -/
theorem TL.lit1 {d : Nat} {e : TypeId} {ei : TI} {ks : List KO} {z : X} (hk : C.kd t = some (.slc e)) (he : C.ty e = some ei) (hs : ei.sz = 1) (hz : ev env z = (true, .nils)) (hd : Nat.ble (d + 1) nt = true)
    (rest : TL C.P nt ks K ((d, true, .sl (ofL [.nils]) 1 1) :: env) h) : TL C.P nt (⟨some d, none, .bsl t 1 [(0, z)]⟩ :: ks) K env h := by
  refine TL.bslv (l := [fun _ => .nils]) (S := (0 = 0 ∧ (ev env z).1 = true ∧ True ∧ 1 = ei.sz) ∧ True) (gc := true) rfl rfl (dlt hd) hk he (by rw [hs]; omega) (by simp only [litA, hz, cellsA]) (fun _ => ⟨⟨rfl, by rw [hz], trivial, hs.symm⟩, trivial⟩) rfl ?_
  have e1 : catC ei.sz [fun _ => AV.nils] = ofL [.nils] := by
    funext j
    rw [hs]
    cases j with
    | zero => rfl
    | succ j => simp [catC, ofL, List.getD_eq_getElem?_getD]
  rw [e1, hs]
  exact rest

theorem HSub_nil (h : Hp) : HSub [] h := fun _ _ e => by cases e

/-- A list of lists that grow is longer by a nil. -/
theorem TL.appGN {d b : Nat} {t' e e' : TypeId} {ei : TI} {xss : List (List α)} {cs : List AV} {ks : List KO} {F T : Hp} (nd : Nd (F ++ T)) (hk : C.kd t = some (.slc e)) (hk' : bytesOK C t') (he : C.ty e = some ei) (hs : ei.sz = 1) (hx : ev env x = (true, OL b xss))
    {j : Nat} (hj : F[j]? = some (b, RV e cs)) (hG : Grid e' T cs xss) (hy : ev env y = (true, .sl (ofL [.nils]) 1 1)) (hby : 0 < ei.by') (hlim : (xss.length + 1) * ei.by' ≤ 140737488355328) (hd : Nat.ble (d + 1) nt = true)
    (rest : ∀ b', Nd (F.set j (b, RV e (cs ++ [OL b' ([] : List α)])) ++ (T ++ [(b', RL e' ([] : List α))])) → TL C.P nt ks K ((d, true, OL b (xss ++ [([] : List α)])) :: env) (F.set j (b, RV e (cs ++ [OL b' ([] : List α)])) ++ (T ++ [(b', RL e' ([] : List α))]))) :
    TL C.P nt (⟨some d, none, .bi .append [t, t'] [x, y]⟩ :: ks) K env (F ++ T) := by
  have hl := hG.len.2
  have hjl : j < F.length := (List.getElem?_eq_some_iff.1 hj).1
  have hj' : (F ++ T)[j]? = some (b, RV e cs) := by rw [List.getElem?_append_left hjl]; exact hj
  have hx' : ev env x = (true, .rs b 0 xss.length (RV e cs).m ei.sz) := by rw [hx, hs]; simp only [OL, RV, Enc.sz, hl, Nat.mul_one]
  refine TL.app (n := 1) (pc := ofL [.nils]) (S := 1 * ei.sz ≤ 1) (r := RV e cs) rfl rfl (dlt hd) hk hk' he hx' (nd.get hj') rfl (by rw [hs]; simp [RV, hl]) (by rw [hy]) (by rw [hy]; simp only [srcA]) (by rw [hs]; omega) (by omega) hby hlim (fun k hk => ?_) ?_
  · rw [hs] at hk
    obtain rfl : k = 0 := by omega
    trivial
  · refine TL.setrow (q := ⟨e, (RV e cs).m + 1 * ei.sz, appC (RV e cs).cells (RV e cs).m (ofL [.nils]) (1 * ei.sz)⟩) (q' := RV e (cs ++ [.nils])) nd hj' rfl (by simp [RV, hs]) (fun i hi => ?_) fun nd1 => ?_
    · simp only [RV, hs] at hi ⊢
      unfold appC
      by_cases h1 : i < cs.length
      · rw [if_pos h1]
        simp [ofL, List.getD_eq_getElem?_getD, List.getElem?_append_left h1]
      · have : i = cs.length := by omega
        subst this
        rw [if_neg (by omega), if_pos (by omega), Nat.sub_self]
        simp [ofL, List.getD_eq_getElem?_getD]
    · have hj1 : ((F ++ T).set j (b, RV e (cs ++ [.nils])))[j]? = some (b, RV e (cs ++ [.nils])) := List.getElem?_set_self (List.getElem?_eq_some_iff.1 hj').1
      refine TL.ownC (α := α) nd1 hj1 cs.length e' (.inl (by simp)) fun b' nd2 => ?_
      have e1 : (cs ++ [AV.nils]).set cs.length (OL b' ([] : List α)) = cs ++ [OL b' ([] : List α)] := by
        rw [List.set_append_right _ _ (Nat.le_refl _), Nat.sub_self]; rfl
      rw [List.set_set, e1, List.set_append_left _ _ hjl] at nd2 ⊢
      have hsub : HSub (F.set j (b, RV e (cs ++ [OL b' ([] : List α)])) ++ (T ++ [(b', RL e' ([] : List α))])) ((b', RL e' ([] : List α)) :: (F.set j (b, RV e (cs ++ [OL b' ([] : List α)])) ++ T)) :=
        HSub_perm nd2 fun p hp => by
          simp only [List.mem_cons, List.mem_append, List.not_mem_nil, or_false] at hp ⊢
          rcases hp with h1 | h1 | h1
          · exact .inr (.inl h1)
          · exact .inr (.inr h1)
          · exact .inl h1
      have nd3 : Nd (F.set j (b, RV e (cs ++ [OL b' ([] : List α)])) ++ (T ++ [(b', RL e' ([] : List α))])) := by
        unfold Nd at nd2 ⊢
        refine (List.Perm.nodup_iff ?_).1 nd2
        simp only [List.map_cons, List.map_append, List.map_nil]
        rw [← List.append_assoc]
        exact (List.perm_append_singleton _ _).symm
      refine TL.subH hsub ?_
      have := rest b' nd3
      have e2 : OL b (xss ++ [([] : List α)]) = .rs b 0 (xss.length + 1) ((RV e cs).m + 1 * ei.sz) ei.sz := by rw [hs]; simp only [OL, RV, Enc.sz, List.length_append, List.length_singleton, hl, Nat.mul_one]
      rw [e2] at this
      exact this
end

section
variable {P : Program} {nt : Nat} {env : Env} {h : Hp} {ks : List KO} {K : Env → Hp → Prop} {r : List (Nat × Nat)} {i : Nat}
theorem TL.monoK {K' : Env → Hp → Prop} (k : TL P nt ks K env h) (hk : ∀ env h, K env h → K' env h) : TL P nt ks K' env h := by
  intro os ho hz μ a w s
  refine TL.cons.wpK_mono ?_ _ _ _ (k os ho hz μ a w s)
  rintro a' w' ⟨μ2, env2, h2, q, s2, st2⟩
  exact ⟨μ2, env2, h2, hk _ _ q, s2, st2⟩
theorem DR1e {d : Nat} {g : Option (Nat × Bool)} {I' : I} {gc : Bool} {v : AV} (hk : ks[i]? = some ⟨some d, g, I'⟩) (hv : gc = true → VOK P nt h (keepE (readsK ⟨some d, g, I'⟩) env) I' v) (hg : gcOf env g = some gc) (hd : Nat.ble (d + 1) nt = true)
    (rest : DRun P nt [] ks K r ((d, gc, v) :: env) h) : DRun P nt [] ks K ((1, i) :: r) env h := DR1 hk (by rw [List.append_nil]; exact hv) hg hd rest
theorem DR2e {d : Nat} {I' : I} (hk : ks[i]? = some ⟨some d, none, I'⟩) (hd : Nat.ble (d + 1) nt = true)
    (ht : TL P nt [⟨some d, none, I'⟩] (fun env' h' => ∃ v, env' = (d, true, v) :: keepE (readsK ⟨some d, none, I'⟩) env ∧ DRun P nt [] ks K r ((d, true, v) :: env) h') (keepE (readsK ⟨some d, none, I'⟩) env) h) :
    DRun P nt [] ks K ((2, i) :: r) env h := DR2 hk hd (by
  rw [List.append_nil]
  exact TL.monoK ht fun env' h' ⟨v, e, hr⟩ => ⟨v, h', e, (List.append_nil _).symm, HSub_nil _, hr⟩)
theorem DR2en {I' : I} (hk : ks[i]? = some ⟨none, none, I'⟩)
    (ht : TL P nt [⟨none, none, I'⟩] (fun env' h' => env' = keepE (readsK ⟨none, none, I'⟩) env ∧ DRun P nt [] ks K r env h') (keepE (readsK ⟨none, none, I'⟩) env) h) :
    DRun P nt [] ks K ((2, i) :: r) env h := DR2n hk (by
  rw [List.append_nil]
  exact TL.monoK ht fun env' h' ⟨e, hr⟩ => ⟨.nilp, h', e, (List.append_nil _).symm, HSub_nil _, hr⟩)
theorem DRende (hK : K env h) : DRun P nt [] ks K [] env h := DRend (by rw [List.append_nil]; exact hK)
theorem TK.drwXe {Q : Post} {ops : Array Oper} (sc : List (Nat × Nat)) (hm : P.follows .mixedOrders = true) (hck : okSched ops ks sc = true)
    (hrun : DRun P nt [] ks (fun env h => Q .normal env h) sc env h) : TK P nt (.drw ops ks) Q env h := by
  have := TK.drwX (hS := []) (h := h) sc hm hck (HSub_nil _) hrun
  rw [List.append_nil] at this
  exact this
end
end Go.AX
