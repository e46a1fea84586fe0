import Derived.Test.YtpipaggkbiapjaaDoorXL
/- Arguments: structs, and slices with the bytes that they take. -/
namespace Go.AM
open Go.RowKit Go.ChangeShapes
section
variable {P : Program} {t e : TypeId} {k : IntKind}
theorem Opens.sliceB {sz : Nat} {α : Type} {enc : α → Nat → AV} {ok : α → Prop} (ht : P.underlying t = some (.slice e)) (hc : P.cellsOf e = sz) (h0 : 0 < sz) {by' : Nat} (hby : P.bytesOf e = by') (ho : Opens P e sz enc ok) :
    Opens P t 1 (encV sz enc) (fun xs => xs.length * by' ≤ reachBytes ∧ ∀ y ∈ xs, ok y) := by
  intro H en w base held fuel cs x h hw
  rcases DataW.trod_slice ht h with ⟨rfl, _⟩ | ⟨a, len, cap, elems, rest, n, rfl, rfl, rfl, hb, hl, hm, hlen, hel, _⟩
  · refine ⟨([] : List α), rfl, ⟨by simp, fun y hy => by cases hy⟩, fun d hd => ?_⟩
    obtain rfl : d = 0 := by omega
    exact Or.inl ⟨rfl, by simp, rfl⟩
  · rw [hc] at hel
    have each : ∀ i, i < len → ∃ v : α, ok v ∧ ∀ d, d < sz → (∃ u, w.cell? ⟨a.block, a.off + (i * sz + d), none⟩ = some u ∧ VR flat0 w (enc v d) u) ∧ a.block < w.heap.size ∧ (i = 0 → d = 0 → a.spot = none) := by
      intro i hi
      have h1 := hel i hi
      have hi' : i < elems.length := by omega
      rw [List.getElem?_eq_getElem hi'] at h1
      obtain ⟨cs', h2, h3⟩ := Option.bind_eq_some_iff.1 h1
      obtain ⟨v, h4, h5, h6⟩ := ho en w base held n cs' _ h3 fun k hk => hw k (by
        simp only [DataW.weights, ht]
        refine List.mem_cons_of_mem _ (List.mem_append_left _ (weights_all (List.mem_map_of_mem (List.getElem_mem hi')) hk)))
      obtain ⟨h7, h8⟩ := cells_at h2
      have hblk : (a.add (i * sz)).block = a.block := by unfold Addr.add; split <;> rfl
      have hoff : (a.add (i * sz)).off = a.off + i * sz := by
        unfold Addr.add
        split
        · rename_i hz; rw [hz]; rfl
        · rfl
      refine ⟨v, h5, fun d hd => ⟨⟨_, ?_, h6 d hd⟩, ?_⟩⟩
      · have := (h8 d hd).1
        rw [hblk, hoff] at this
        rw [← Nat.add_assoc]
        exact this
      · have h9 := h8 d hd
        rw [hblk] at h9
        refine ⟨h9.2.1, fun e1 e2 => ?_⟩
        subst e1
        have := h9.2.2 e2
        simpa [Addr.add] using this
    obtain ⟨xs, hx1, hx2⟩ := exists_list len each
    refine ⟨xs, rfl, ⟨?_, fun y hy => ?_⟩, fun d hd => ?_⟩
    · have := hw _ (by simp only [DataW.weights, ht]; exact List.mem_cons_self)
      simp only [List.length_map] at this
      rw [hby] at this
      have h4 : xs.length * by' ≤ (elems.length + rest.length) * by' := Nat.mul_le_mul_right _ (by omega)
      omega
    · obtain ⟨i, hi, rfl⟩ := List.getElem_of_mem hy
      exact (hx2 i _ (List.getElem?_eq_getElem hi)).1
    · obtain rfl : d = 0 := by omega
      refine Or.inr ⟨a, cap, by rw [hx1]; rfl, by rw [hx1]; exact hl, fun hpos => ?_, fun j hj => ?_⟩
      · have hlen0 : 0 < xs.length := by
          rcases Nat.eq_zero_or_pos xs.length with h | h
          · rw [h] at hpos; simp at hpos
          · exact h
        have := (hx2 0 _ (List.getElem?_eq_getElem hlen0)).2 0 h0
        exact ⟨this.2.2 rfl rfl, sealed0 this.2.1⟩
      · have hq : j / sz < xs.length := Nat.div_lt_of_lt_mul (by rw [Nat.mul_comm]; exact hj)
        obtain ⟨⟨u, hu1, hu2⟩, _⟩ := (hx2 _ _ (List.getElem?_eq_getElem hq)).2 (j % sz) (Nat.mod_lt _ h0)
        refine ⟨u, ?_, ?_⟩
        · rw [← hu1, Nat.mul_comm, Nat.div_add_mod]
        · rw [rowL_split h0, List.getElem?_eq_getElem hq]
          exact hu2
end
end Go.AM
namespace Go.AX
open Go.AM Go.RowKit Go.ChangeShapes
section
variable {P : Program} {t e : TypeId} {α : Type} [Enc α]
theorem OpX.sliceB {ok : α → Prop} {by' : Nat} (ht : P.underlying t = some (.slice e)) (hc : P.cellsOf e = Enc.sz α) (hby : P.bytesOf e = by') (ho : OpX P e α ok) : OpX P t (List α) (fun xs => xs.length * by' ≤ reachBytes ∧ ∀ y ∈ xs, ok y) := by
  intro H en w base held fuel cs x h hw
  obtain ⟨v, h1, h2, h3⟩ := Opens.sliceB ht hc Enc.pos hby ho en w base held fuel cs x h hw
  exact ⟨v, h1, h2, fun d hd => by obtain rfl : d = 0 := by simpa [Enc.sz] using hd
                                   exact h3 0 (by omega)⟩
theorem OpX.oneA {ok : α → Prop} (ho : OpX P t α ok) (hs : Enc.agg α = true) {H : Type} {en : TypeId × Value → H} {w : World} {base : Nat} {held : Bool} {v : Value} {d : DataW H} {ps : List MemPlace} {vs : Array Value}
    (hv : v = .agg vs) (h : DataW.Trod en P w base (fun _ => true) held t v d ps) (hw : ∀ n ∈ d.weights P t, n ≤ reachBytes) : ∃ a : α, ok a ∧ VR flat0 w (Enc.v a) v := by
  subst hv
  obtain ⟨fuel, hf⟩ := h
  obtain ⟨a, h1, h2, h3⟩ := ho en w base held fuel _ _ hf hw
  refine ⟨a, h2, ?_⟩
  rw [Enc.veq, if_pos hs]
  have hc : (Value.agg vs).cells = vs := rfl
  rw [hc] at h1 h3
  have h1 : vs.size = Enc.sz α := by simpa using h1
  refine ⟨vs, rfl, h1, fun i hi => ?_⟩
  have := h3 i hi
  rw [List.getD_eq_getElem?_getD, Array.getElem?_toList] at this
  rw [Array.getD_eq_getD_getElem?]
  exact this
end
end Go.AX
