import Derived.Test.YtpipaggkbiapjaaDoorAmS
import GoSem.ClaimJoined
/- Arguments of any shape, taken as values. -/
namespace Go.AM
open Go.RowKit Go.ChangeShapes

theorem weights_all {H : Type} {P : Program} {e : TypeId} {d : DataW H} {n : Nat} : ∀ {l : List (DataW H)}, d ∈ l → n ∈ d.weights P e → n ∈ DataW.weightsAll P e l
  | a :: r, hd, hn => by
    rw [DataW.weightsAll, List.mem_append]
    rcases List.mem_cons.1 hd with rfl | h
    · exact .inl hn
    · exact .inr (weights_all h hn)
theorem weights_each {H : Type} {P : Program} {t : TypeId} {d : DataW H} {n : Nat} : ∀ {ts : List TypeId} {ds : List (DataW H)} {i : Nat}, ts[i]? = some t → ds[i]? = some d → n ∈ d.weights P t → n ∈ DataW.weightsEach P ts ds
  | a :: ts, b :: ds, 0, h1, h2, hn => by
    simp only [List.getElem?_cons_zero, Option.some.injEq] at h1 h2
    subst h1; subst h2
    rw [DataW.weightsEach, List.mem_append]
    exact .inl hn
  | a :: ts, b :: ds, i + 1, h1, h2, hn => by
    simp only [List.getElem?_cons_succ] at h1 h2
    rw [DataW.weightsEach, List.mem_append]
    exact .inr (weights_each h1 h2 hn)

/-- What was read at a type tells a value of a Lean type, cell by cell. -/
def Opens (P : Program) (t : TypeId) (sz : Nat) {α : Type} (enc : α → Nat → AV) (ok : α → Prop) : Prop :=
  ∀ {H : Type} (en : TypeId × Value → H) (w : World) (base : Nat) (held : Bool) (fuel : Nat) (cs : List Value) (x : DataW H × List MemPlace), DataW.trod en P w base (fun _ => true) held fuel t cs = some x → (∀ n ∈ x.1.weights P t, n ≤ reachBytes) →
    ∃ v : α, cs.length = sz ∧ ok v ∧ ∀ d, d < sz → VR flat0 w (enc v d) (cs.getD d undef)

section
variable {P : Program} {t e : TypeId} {k : IntKind}

theorem Opens.int (ht : P.underlying t = some (.int k)) : Opens P t 1 (encI k) (fun n => (Lit.int k n).wf = true) := by
  intro H en w base held fuel cs x h _
  cases fuel with
  | zero => simp [DataW.trod] at h
  | succ n =>
    rcases cs with _ | ⟨c, _ | ⟨c2, r⟩⟩
    · simp [DataW.trod, ht] at h
    · cases c <;> simp [DataW.trod, ht] at h
      obtain ⟨⟨rfl, hw⟩, _⟩ := h
      exact ⟨_, rfl, hw, fun d hd => by obtain rfl : d = 0 := by omega
                                        rfl⟩
    · simp [DataW.trod, ht] at h

theorem Opens.bool (ht : P.underlying t = some .bool) : Opens P t 1 encB (fun _ => True) := by
  intro H en w base held fuel cs x h _
  cases fuel with
  | zero => simp [DataW.trod] at h
  | succ n =>
    rcases cs with _ | ⟨c, _ | ⟨c2, r⟩⟩
    · simp [DataW.trod, ht] at h
    · cases c <;> simp [DataW.trod, ht] at h
      exact ⟨_, rfl, trivial, fun d hd => by obtain rfl : d = 0 := by omega
                                             rfl⟩
    · simp [DataW.trod, ht] at h

theorem Opens.str (ht : P.underlying t = some .string) : Opens P t 1 encS (fun s => s.size ≤ maxLen ∧ s.size ≤ reachBytes) := by
  intro H en w base held fuel cs x h hw
  cases fuel with
  | zero => simp [DataW.trod] at h
  | succ n =>
    rcases cs with _ | ⟨c, _ | ⟨c2, r⟩⟩
    · simp [DataW.trod, ht] at h
    · cases c <;> simp [DataW.trod, ht] at h
      refine ⟨_, rfl, ⟨h.1, ?_⟩, fun d hd => by obtain rfl : d = 0 := by omega
                                                rfl⟩
      rw [← h.2] at hw
      simp only [DataW.weights, List.mem_singleton, forall_eq] at hw
      simpa using hw
    · simp [DataW.trod, ht] at h

theorem Opens.map {sz : Nat} {α β : Type} {enc : α → Nat → AV} {enc' : β → Nat → AV} {ok : α → Prop} {ok' : β → Prop} (h : Opens P t sz enc ok) (f : α → β) (he : ∀ v d, d < sz → enc' (f v) d = enc v d) (ho : ∀ v, ok v → ok' (f v)) :
    Opens P t sz enc' ok' := by
  intro H en w base held fuel cs x hx hw
  obtain ⟨v, h1, h2, h3⟩ := h en w base held fuel cs x hx hw
  exact ⟨f v, h1, ho v h2, fun d hd => by rw [he v d hd]; exact h3 d hd⟩

theorem cells_at {w : World} {base n : Nat} {a : Addr} {cs : List Value} (h : w.cells? base a n = some cs) : cs.length = n ∧ ∀ d, d < n → w.cell? ⟨a.block, a.off + d, none⟩ = some (cs.getD d undef) ∧ a.block < w.heap.size ∧ (d = 0 → a.spot = none) := by
  obtain ⟨_, hl, hc⟩ := World.cells?_some h
  refine ⟨hl, fun d hd => ?_⟩
  have h1 := hc d hd
  have hd' : d < cs.length := by omega
  have h2 : w.cell? (a.add d) = some (cs.getD d undef) := by
    rw [h1]
    simp [hd']
  have h3 := cell_lt h2
  obtain ⟨ab, ao, as⟩ := a
  by_cases h0 : d = 0
  · subst h0
    simp only [Addr.add, if_true] at h2 h3
    obtain ⟨h4, h5⟩ := h3
    have h5' : as = none := h5
    subst h5'
    exact ⟨by simpa using h2, h4, fun _ => rfl⟩
  · simp only [Addr.add, if_neg h0] at h2 h3
    exact ⟨h2, h3.1, fun e => (h0 e).elim⟩

theorem exists_list {α : Type} {p : Nat → α → Prop} : ∀ n, (∀ i, i < n → ∃ v, p i v) → ∃ xs : List α, xs.length = n ∧ ∀ i v, xs[i]? = some v → p i v
  | 0, _ => ⟨[], rfl, fun i v h => by simp at h⟩
  | n + 1, h => by
    obtain ⟨xs, h1, h2⟩ := exists_list n fun i hi => h i (by omega)
    obtain ⟨v, hv⟩ := h n (by omega)
    refine ⟨xs ++ [v], by simp [h1], fun i u hu => ?_⟩
    by_cases hi : i < xs.length
    · rw [List.getElem?_append_left hi] at hu
      exact h2 i u hu
    · rw [List.getElem?_append_right (by omega)] at hu
      have : i - xs.length = 0 := by
        rcases Nat.eq_zero_or_pos (i - xs.length) with h3 | h3
        · exact h3
        · rw [List.getElem?_eq_none (by simp; omega)] at hu; cases hu
      rw [this] at hu
      simp at hu
      subst hu
      have : i = n := by omega
      subst this
      exact hv

theorem Opens.slice {sz : Nat} {α : Type} {enc : α → Nat → AV} {ok : α → Prop} (ht : P.underlying t = some (.slice e)) (hc : P.cellsOf e = sz) (h0 : 0 < sz) (hby : 1 ≤ P.bytesOf e) (ho : Opens P e sz enc ok) :
    Opens P t 1 (encV sz enc) (fun xs => xs.length ≤ reachBytes ∧ ∀ y ∈ xs, ok y) := by
  intro H en w base held fuel cs x h hw
  rcases DataW.trod_slice ht h with ⟨rfl, _⟩ | ⟨a, len, cap, elems, rest, n, rfl, rfl, rfl, hb, hl, hm, hlen, hel, _⟩
  · refine ⟨([] : List α), rfl, ⟨Nat.zero_le _, fun y hy => by cases hy⟩, fun d hd => ?_⟩
    obtain rfl : d = 0 := by omega
    exact Or.inl ⟨rfl, by simp, rfl⟩
  · rw [hc] at hel
    have each : ∀ i, i < len → ∃ v : α, ok v ∧ ∀ d, d < sz → (∃ u, w.cell? ⟨a.block, a.off + (i * sz + d), none⟩ = some u ∧ VR flat0 w (enc v d) u) ∧ a.block < w.heap.size ∧ (i = 0 → d = 0 → a.spot = none) := by
      intro i hi
      have h1 := hel i hi
      have hi' : i < elems.length := by omega
      rw [List.getElem?_eq_getElem hi'] at h1
      obtain ⟨cs', h2, h3⟩ := Option.bind_eq_some_iff.1 h1
      obtain ⟨v, h4, h5, h6⟩ := ho en w base held n cs' _ h3 fun k hk => hw k (by
        simp only [DataW.weights, ht]
        refine List.mem_cons_of_mem _ (List.mem_append_left _ (weights_all (List.mem_map_of_mem (List.getElem_mem hi')) hk)))
      obtain ⟨h7, h8⟩ := cells_at h2
      have hblk : (a.add (i * sz)).block = a.block := by unfold Addr.add; split <;> rfl
      have hoff : (a.add (i * sz)).off = a.off + i * sz := by
        unfold Addr.add
        split
        · rename_i hz; rw [hz]; rfl
        · rfl
      refine ⟨v, h5, fun d hd => ⟨⟨_, ?_, h6 d hd⟩, ?_⟩⟩
      · have := (h8 d hd).1
        rw [hblk, hoff] at this
        rw [← Nat.add_assoc]
        exact this
      · have h9 := h8 d hd
        rw [hblk] at h9
        refine ⟨h9.2.1, fun e1 e2 => ?_⟩
        subst e1
        have := h9.2.2 e2
        simpa [Addr.add] using this
    obtain ⟨xs, hx1, hx2⟩ := exists_list len each
    refine ⟨xs, rfl, ⟨?_, fun y hy => ?_⟩, fun d hd => ?_⟩
    · have := hw _ (by simp only [DataW.weights, ht]; exact List.mem_cons_self)
      simp only [List.length_map] at this
      have h4 : (elems.length + rest.length) * 1 ≤ (elems.length + rest.length) * P.bytesOf e := Nat.mul_le_mul_left _ hby
      omega
    · obtain ⟨i, hi, rfl⟩ := List.getElem_of_mem hy
      exact (hx2 i _ (List.getElem?_eq_getElem hi)).1
    · obtain rfl : d = 0 := by omega
      refine Or.inr ⟨a, cap, by rw [hx1]; rfl, by rw [hx1]; exact hl, fun hpos => ?_, fun j hj => ?_⟩
      · have hlen0 : 0 < xs.length := by
          rcases Nat.eq_zero_or_pos xs.length with h | h
          · rw [h] at hpos; simp at hpos
          · exact h
        have := (hx2 0 _ (List.getElem?_eq_getElem hlen0)).2 0 h0
        exact ⟨this.2.2 rfl rfl, sealed0 this.2.1⟩
      · have hq : j / sz < xs.length := Nat.div_lt_of_lt_mul (by rw [Nat.mul_comm]; exact hj)
        obtain ⟨⟨u, hu1, hu2⟩, _⟩ := (hx2 _ _ (List.getElem?_eq_getElem hq)).2 (j % sz) (Nat.mod_lt _ h0)
        refine ⟨u, ?_, ?_⟩
        · rw [← hu1, Nat.mul_comm, Nat.div_add_mod]
        · rw [rowL_split h0, List.getElem?_eq_getElem hq]
          exact hu2

/-- Fields, one behind the other. -/
def OpensF (P : Program) (fs : List Field) (o sz : Nat) {α : Type} (enc : α → Nat → AV) (ok : α → Prop) : Prop :=
  ∀ {H : Type} (en : TypeId × Value → H) (w : World) (base : Nat) (held : Bool) (fuel : Nat) (cs : List Value),
    (∀ f ∈ fs, ∃ y, DataW.trod en P w base (fun _ => true) held fuel f.type ((cs.drop f.offset).take (P.cellsOf f.type)) = some y ∧ ∀ n ∈ y.1.weights P f.type, n ≤ reachBytes) → ∃ v : α, ok v ∧ ∀ d, d < sz → VR flat0 w (enc v d) (cs.getD (o + d) undef)

def encC {α β : Type} (s : Nat) (ea : α → Nat → AV) (eb : β → Nat → AV) (p : α × β) : Nat → AV := fun d => if d < s then ea p.1 d else eb p.2 (d - s)

theorem OpensF.nil {o : Nat} : OpensF P [] o 0 (fun (_ : Unit) _ => .junk) (fun _ => True) := by
  intro H en w base held fuel cs h
  exact ⟨(), trivial, fun d hd => by omega⟩

theorem OpensF.cons {f : Field} {fs : List Field} {o s sz : Nat} {α β : Type} {ea : α → Nat → AV} {eb : β → Nat → AV} {oa : α → Prop} {ob : β → Prop} (ho : f.offset = o) (hc : P.cellsOf f.type = s)
    (ha : Opens P f.type s ea oa) (hb : OpensF P fs (o + s) sz eb ob) : OpensF P (f :: fs) o (s + sz) (encC s ea eb) (fun p => oa p.1 ∧ ob p.2) := by
  intro H en w base held fuel cs h
  obtain ⟨y, h1, hwy⟩ := h f (by simp)
  rw [ho, hc] at h1
  obtain ⟨va, h3, h4, h5⟩ := ha en w base held fuel _ y h1 hwy
  obtain ⟨vb, h6, h7⟩ := hb en w base held fuel cs fun f' hf' => h f' (by simp [hf'])
  refine ⟨(va, vb), ⟨h4, h6⟩, fun d hd => ?_⟩
  unfold encC
  by_cases hds : d < s
  · rw [if_pos hds]
    have := h5 d hds
    have e : ((cs.drop o).take s).getD d undef = cs.getD (o + d) undef := by
      simp only [List.getD_eq_getElem?_getD, List.getElem?_take, if_pos hds, List.getElem?_drop]
    rw [e] at this
    exact this
  · rw [if_neg hds]
    have := h7 (d - s) (by omega)
    rw [show o + s + (d - s) = o + d by omega] at this
    exact this

theorem Opens.struct {fields : Array Field} {sz : Nat} {α : Type} {enc : α → Nat → AV} {ok : α → Prop} (ht : P.underlying t = some (.struct fields)) (hc : P.cellsOf t = sz) (h : OpensF P fields.toList 0 sz enc ok) : Opens P t sz enc ok := by
  intro H en w base held fuel cs x hx hw
  obtain ⟨xs, n, _, rfl, hl, hlen, hf⟩ := DataW.trod_struct ht hx
  obtain ⟨v, h2, h3⟩ := h en w base held n cs fun f hm => by
    obtain ⟨i, hi, rfl⟩ := List.getElem_of_mem hm
    have hi' : i < fields.size := by simpa using hi
    have hx' : i < xs.length := by omega
    refine ⟨xs[i], by rw [hf i _ (by simp [hi']), List.getElem?_eq_getElem hx'], fun k hk => hw k ?_⟩
    simp only [DataW.weights, ht]
    exact weights_each (i := i) (by simp [hi']) (by simp [hx']) hk
  exact ⟨v, by omega, h2, fun d hd => by have := h3 d hd; rw [Nat.zero_add] at this; exact this⟩

/-- An argument's value. -/
theorem Opens.one {α : Type} {enc : α → Nat → AV} {ok : α → Prop} (ho : Opens P t 1 enc ok) {H : Type} {en : TypeId × Value → H} {w : World} {base : Nat} {held : Bool} {v : Value} {d : DataW H} {ps : List MemPlace}
    (hv : v.cells = #[v]) (h : DataW.Trod en P w base (fun _ => true) held t v d ps) (hw : ∀ n ∈ d.weights P t, n ≤ reachBytes) : ∃ a : α, ok a ∧ VR flat0 w (enc a 0) v := by
  obtain ⟨fuel, hf⟩ := h
  obtain ⟨a, _, h2, h3⟩ := ho en w base held fuel _ _ hf hw
  refine ⟨a, h2, ?_⟩
  have := h3 0 (by omega)
  rw [hv] at this
  exact this
end
end Go.AM
