import Derived.Test.YtpipaggkbiapjaaDoorXE
/- Small words of the printed texts. -/
namespace Go.AX
open Go.AM
theorem Nd_nil : Nd [] := by simp [Nd]
theorem HSub.trans {a b c : Hp} (h1 : HSub a b) (h2 : HSub b c) : HSub a c := fun x r e => h2 x r (h1 x r e)
theorem keepE_keepE : ∀ {s1 s2 : List Nat} {env : Env}, (∀ t ∈ s1, t ∈ s2) → keepE s1 (keepE s2 env) = keepE s1 env
  | [], _, _, _ => rfl
  | t :: r, s2, env, hs => by
    have ih := keepE_keepE (s1 := r) (s2 := s2) (env := env) fun t' ht' => hs t' (by simp [ht'])
    simp only [keepE]
    rw [lk_keepE, if_pos (hs t (by simp)), ih]
theorem keep_of {s1 s2 : List Nat} {env e1 e2 : Env} (h : keepE s2 env = e2) (h1 : keepE s1 e2 = e1) (hs : (s1.all fun t => s2.contains t) = true) : keepE s1 env = e1 := by
  rw [← h1, ← h, keepE_keepE]
  intro t ht
  have := List.all_eq_true.1 hs t ht
  simpa using this
section
variable {P : Program} {nt : Nat} {Q : Post} {env : Env} {h : Hp} {α : Type} [Enc α]
theorem TL.cvX {K : Env → Hp → Prop} {d : Nat} {g : Option (Nat × Bool)} {f : X} {xs : List X} {gc : Bool} {fid : FuncId} {args : List AV} {r : AV} {ks : List KO} (hg : gcOf env g = some gc) (hd : Nat.ble (d + 1) nt = true)
    (ha : argsA env f xs = some (fid, args)) (hgx : gc = true → (ev env f).1 = true ∧ allG (evs env xs)) (hf : gc = true → Fun P fid args (· = r)) (rest : TL P nt ks K ((d, gc, r) :: env) h) : TL P nt (⟨some d, g, .call f xs⟩ :: ks) K env h :=
  TL.callv rfl hg (dlt hd) ha hgx hf rest
theorem TK.ownL {c : KC} (t : Nat) (ty : TypeId) {v : AV} (nd : Nd h) (hl : lk env t = some (true, v)) (hv : v = .nils ∨ v = .z0)
    (k : ∀ b, Nd ((b, RL ty ([] : List α)) :: h) → TK P nt c Q ((t, true, OL b ([] : List α)) :: env) ((b, RL ty ([] : List α)) :: h)) : TK P nt c Q env h :=
  TK.own t ty (Enc.sz α) (rowL (Enc.sz α) ec ([] : List α)) hl hv fun b hb => by
    have := k b (nd.cons _ hb)
    simpa [OL, RL] using this
end
def allOne1 : List AV → Prop
  | [] => True
  | v :: r => AV1 v ∧ allOne1 r
theorem allOne1.mem : ∀ {l : List AV}, allOne1 l → ∀ v ∈ l, AV1 v
  | _ :: _, hh, v, hv => by
    rcases List.mem_cons.1 hv with rfl | hv
    · exact hh.1
    · exact allOne1.mem hh.2 v hv
theorem vref_val {l : List AV} {n o : Nat} (hn : n = l.length) (hl : allVal l) : (AV.vref (ofL l) n o).val := fun i hi => by
  subst hn
  simp only [ofL, List.getD_eq_getElem?_getD, List.getElem?_eq_getElem hi, Option.getD_some]
  exact allVal.mem hl _ (List.getElem_mem hi)
theorem caps_val {l : List AV} {n : Nat} (hn : n = l.length) (hl : allVal l) : ∀ i, i < n → (ofL l i).val := fun i hi => by
  subst hn
  simp only [ofL, List.getD_eq_getElem?_getD, List.getElem?_eq_getElem hi, Option.getD_some]
  exact allVal.mem hl _ (List.getElem_mem hi)
theorem str_eq {a b : Str} : a = b ↔ a.l = b.l := ⟨fun h => by rw [h], fun h => by cases a; cases b; simp_all⟩
theorem ba_inj {a b : Str} : a.ba = b.ba ↔ a = b := ⟨fun h => by rw [str_eq, ← ba_toList a, ← ba_toList b, h], fun h => by rw [h]⟩
end Go.AX
