import Derived.Test.YtpipaggkbiapjaaDoorXA
/- Lists, texts, structs and pointers: what operations give. -/
namespace Go.AX
open Go.AM

/-! ### own rows -/
/-- Distinct rows. -/
def Nd (h : Hp) : Prop := (h.map (·.1)).Nodup

def RL {α : Type} [Enc α] (ty : TypeId) (xs : List α) : Row := ⟨ty, xs.length * Enc.sz α, rowL (Enc.sz α) ec xs⟩
def RV (ty : TypeId) (l : List AV) : Row := ⟨ty, l.length, ofL l⟩
/-- A whole own list. -/
def OL {α : Type} [Enc α] (b : Nat) (xs : List α) : AV := .rs b 0 xs.length (xs.length * Enc.sz α) (Enc.sz α)
/-- A pointer to element i of an own list, from cell o on. -/
def OP {α : Type} [Enc α] (b : Nat) (xs : List α) (i : Int) (o : Nat) : AV := .ref b (i.toNat * Enc.sz α + o) (xs.length * Enc.sz α)

theorem Nd.get {h : Hp} (nd : Nd h) {j b : Nat} {r : Row} (hi : h[j]? = some (b, r)) : h.get b = some r := by
  induction h generalizing j with
  | nil => simp at hi
  | cons p h ih =>
    obtain ⟨x, q⟩ := p
    simp only [Nd, List.map_cons, List.nodup_cons] at nd
    cases j with
    | zero =>
      simp only [List.getElem?_cons_zero, Option.some.injEq, Prod.mk.injEq] at hi
      obtain ⟨rfl, rfl⟩ := hi
      simp [Hp.get]
    | succ j =>
      simp only [List.getElem?_cons_succ] at hi
      have : x ≠ b := by
        rintro rfl
        exact nd.1 (List.mem_map.2 ⟨_, List.mem_of_getElem? hi, rfl⟩)
      simp only [Hp.get, if_neg this]
      exact ih nd.2 hi

theorem Hp.get_none {h : Hp} {b : Nat} : h.get b = none ↔ b ∉ h.map (·.1) := by
  induction h with
  | nil => simp [Hp.get]
  | cons p h ih =>
    obtain ⟨x, q⟩ := p
    simp only [Hp.get, List.map_cons, List.mem_cons, not_or]
    by_cases hx : x = b
    · subst hx; simp
    · rw [if_neg hx, ih]
      constructor
      · intro h1; exact ⟨fun e => hx e.symm, h1⟩
      · intro h1; exact h1.2

theorem Nd.cons {h : Hp} (nd : Nd h) {b : Nat} (r : Row) (hb : h.get b = none) : Nd ((b, r) :: h) := by
  simp only [Nd, List.map_cons, List.nodup_cons]
  exact ⟨Hp.get_none.1 hb, nd⟩

theorem Nd.upd {h : Hp} (nd : Nd h) {j b : Nat} {r r' : Row} (hi : h[j]? = some (b, r)) : h.upd b r' = h.set j (b, r') ∧ Nd (h.set j (b, r')) := by
  induction h generalizing j with
  | nil => simp at hi
  | cons p h ih =>
    obtain ⟨x, q⟩ := p
    have nd0 := nd
    simp only [Nd, List.map_cons, List.nodup_cons] at nd
    cases j with
    | zero =>
      simp only [List.getElem?_cons_zero, Option.some.injEq, Prod.mk.injEq] at hi
      obtain ⟨rfl, rfl⟩ := hi
      exact ⟨by simp [Hp.upd], by simpa [Nd] using nd⟩
    | succ j =>
      simp only [List.getElem?_cons_succ] at hi
      have : x ≠ b := by
        rintro rfl
        exact nd.1 (List.mem_map.2 ⟨_, List.mem_of_getElem? hi, rfl⟩)
      obtain ⟨h1, h2⟩ := ih nd.2 hi
      refine ⟨by simp only [Hp.upd, if_neg this, List.set_cons_succ, h1], ?_⟩
      simp only [Nd, List.set_cons_succ, List.map_cons, List.nodup_cons]
      refine ⟨?_, h2⟩
      have e : (h.set j (b, r')).map (·.1) = h.map (·.1) := by
        rw [List.map_set]
        apply List.ext_getElem?
        intro k
        by_cases hk : j = k
        · subst hk
          have hlt : j < h.length := (List.getElem?_eq_some_iff.1 hi).1
          have hlt' : j < (h.map (·.1)).length := by simpa using hlt
          rw [List.getElem?_set_self hlt', List.getElem?_map, hi]
          rfl
        · rw [List.getElem?_set_ne hk]
      rw [e]; exact nd.1

/-- Some rows, by their places. -/
def pick (h : Hp) : List Nat → Hp
  | [] => []
  | i :: r => match h[i]? with
    | some p => p :: pick h r
    | none => pick h r

theorem pick_mem {h : Hp} : ∀ {is : List Nat} {p : Nat × Row}, p ∈ pick h is → ∃ i ∈ is, h[i]? = some p
  | i :: r, p, hp => by
    unfold pick at hp
    split at hp
    · rename_i q e
      rcases List.mem_cons.1 hp with rfl | hp
      · exact ⟨i, by simp, e⟩
      · obtain ⟨k, h1, h2⟩ := pick_mem hp
        exact ⟨k, by simp [h1], h2⟩
    · obtain ⟨k, h1, h2⟩ := pick_mem hp
      exact ⟨k, by simp [h1], h2⟩

theorem Nd.inj {h : Hp} (nd : Nd h) {i j b : Nat} {r q : Row} (hi : h[i]? = some (b, r)) (hj : h[j]? = some (b, q)) : i = j := by
  have h1 : i < (h.map (·.1)).length := by simpa using (List.getElem?_eq_some_iff.1 hi).1
  have h2 : j < (h.map (·.1)).length := by simpa using (List.getElem?_eq_some_iff.1 hj).1
  have e1 := (List.getElem?_eq_some_iff.1 hi).2
  have e2 := (List.getElem?_eq_some_iff.1 hj).2
  have key : (h.map (·.1))[i] = (h.map (·.1))[j] := by
    simp only [List.getElem_map]
    rw [e1, e2]
  have pw := List.pairwise_iff_getElem.1 nd
  rcases Nat.lt_trichotomy i j with h3 | h3 | h3
  · exact (pw i j h1 h2 h3 key).elim
  · exact h3
  · exact (pw j i h2 h1 h3 key.symm).elim

theorem Nd.pick {h : Hp} (nd : Nd h) : ∀ {is : List Nat}, is.Nodup → Nd (pick h is)
  | [], _ => by simp [Nd, AX.pick]
  | i :: r, hd => by
    have hd' := List.nodup_cons.1 hd
    unfold AX.pick
    split
    · rename_i p e
      obtain ⟨b, q⟩ := p
      simp only [Nd, List.map_cons, List.nodup_cons]
      refine ⟨fun hm => ?_, nd.pick hd'.2⟩
      obtain ⟨p', h1, h2⟩ := List.mem_map.1 hm
      obtain ⟨b', q'⟩ := p'
      simp only at h2
      subst h2
      obtain ⟨k, hk, hk2⟩ := pick_mem h1
      have := nd.inj e hk2
      subst this
      exact hd'.1 hk
    · exact nd.pick hd'.2

theorem Sim.sub {μ : Mu} {h h' : Hp} {w : World} (s : Sim μ h w) (hs : ∀ b r, h'.get b = some r → h.get b = some r) : Sim μ h' w :=
  ⟨fun b r e => s.row b r (hs b r e), s.inj, s.lt, s.vlt, s.noban, s.banlt⟩

theorem get_pick {h : Hp} (nd : Nd h) {is : List Nat} (hd : is.Nodup) {b : Nat} {r : Row} (e : (pick h is).get b = some r) : h.get b = some r := by
  have nd' := nd.pick hd
  have hm : (b, r) ∈ pick h is := by
    generalize pick h is = g at e
    clear nd'
    induction g with
    | nil => simp [Hp.get] at e
    | cons p g ih =>
      obtain ⟨x, q⟩ := p
      simp only [Hp.get] at e
      by_cases hx : x = b
      · rw [if_pos hx] at e; injection e with e; subst e hx; simp
      · rw [if_neg hx] at e; simp [ih e]
  obtain ⟨i, _, hi⟩ := pick_mem hm
  exact nd.get hi

section
variable {P : Program} {nt : Nat} {Q : Post} {env : Env} {h : Hp} {K : Env → Hp → Prop}

theorem TK.subH {c : KC} {h' : Hp} (hs : ∀ b r, h'.get b = some r → h.get b = some r) (k : TK P nt c Q env h') : TK P nt c Q env h :=
  fun c' hc μ a w s => k c' hc μ a w ⟨Sim.sub s.sim hs, s.env, s.size, s.defers⟩
theorem TL.subH {ks : List KO} {h' : Hp} (hs : ∀ b r, h'.get b = some r → h.get b = some r) (k : TL P nt ks K env h') : TL P nt ks K env h :=
  fun os hl hz μ a w s => k os hl hz μ a w ⟨Sim.sub s.sim hs, s.env, s.size, s.defers⟩

/-- Only these rows are told on. -/
theorem TK.pick {c : KC} (is : List Nat) (nd : Nd h) (hd : is.Nodup) (k : Nd (AX.pick h is) → TK P nt c Q env (AX.pick h is)) : TK P nt c Q env h :=
  TK.subH (fun _ _ e => get_pick nd hd e) (k (nd.pick hd))
theorem TL.pick {ks : List KO} (is : List Nat) (nd : Nd h) (hd : is.Nodup) (k : Nd (AX.pick h is) → TL P nt ks K env (AX.pick h is)) : TL P nt ks K env h :=
  TL.subH (fun _ _ e => get_pick nd hd e) (k (nd.pick hd))
end

/-! ### texts -/
theorem ba_app (s t : Str) : s.ba ++ t.ba = Str.ba ⟨s.l ++ t.l⟩ := by
  apply ByteArray.ext
  simp [Str.ba]
theorem ba_size (s : Str) : s.ba.size = s.l.length := by simp [Str.ba, ByteArray.size]
theorem bytes_toList (b : ByteArray) : b.toList = b.data.toList := by
  have hsz : b.size = b.data.toList.length := rfl
  have key : ∀ n i r, b.size - i = n → i ≤ b.size → ByteArray.toList.loop b i r = r.reverse ++ b.data.toList.drop i := by
    intro n
    induction n with
    | zero =>
      intro i r hn hi
      have : i = b.size := by omega
      subst this
      unfold ByteArray.toList.loop
      rw [if_neg (Nat.lt_irrefl _), hsz, List.drop_length, List.append_nil]
    | succ n ih =>
      intro i r hn hi
      unfold ByteArray.toList.loop
      have hlt : i < b.size := by omega
      have hlt' : i < b.data.toList.length := by omega
      rw [if_pos hlt, ih (i + 1) _ (by omega) (by omega), List.drop_eq_getElem_cons hlt', List.reverse_cons, List.append_assoc]
      have : b.get! i = b.data.toList[i] := by
        show b.data[i]! = _
        rw [getElem!_pos b.data i hlt']
        rfl
      rw [this]
      rfl
  unfold ByteArray.toList
  rw [key _ 0 [] rfl (by omega)]
  rfl
theorem ba_toList (s : Str) : s.ba.toList = s.l := by rw [bytes_toList]; rfl

def slc {α : Type} (xs : List α) (l k : Int) : List α := (xs.drop l.toNat).take (k - l).toNat

theorem ba_extract (s : Str) {l k : Int} (h0 : 0 ≤ l) (hlk : l ≤ k) : s.ba.extract l.toNat k.toNat = Str.ba ⟨slc s.l l k⟩ := by
  apply ByteArray.ext
  simp only [ByteArray.data_extract, Str.ba, slc]
  apply Array.toList_inj.1
  simp
  have : (k - l).toNat = k.toNat - l.toNat := by omega
  rw [this]

end Go.AX
