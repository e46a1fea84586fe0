import Derived.Test.YtpipaggkbiapjaaDoorXK
import Derived.Test.YtpipaggkbiapjaaDoorAmU
/- Arguments of a law, taken as values of Lean types. -/
namespace Go.AX
open Go.AM Go.RowKit Go.ChangeShapes

/-- What was read at a type tells a value of a Lean type. -/
def OpX (P : Program) (t : TypeId) (α : Type) [Enc α] (ok : α → Prop) : Prop := Opens P t (Enc.sz α) (fun (x : α) => ec x) ok

section
variable {P : Program} {t e : TypeId} {α : Type} [Enc α]

theorem wf_i64 {n : Int} (h : (Lit.int .i64 n).wf = true) : -9223372036854775808 ≤ n ∧ n ≤ 9223372036854775807 := by
  simp [Lit.wf, IntKind.min, IntKind.max, IntKind.bits, IntKind.signed] at h; omega
theorem OpX.int (ht : P.underlying t = some (.int .i64)) : OpX P t Int (fun n => -9223372036854775808 ≤ n ∧ n ≤ 9223372036854775807) := by
  intro H en w base held fuel cs x h hw
  obtain ⟨v, h1, h2, h3⟩ := Opens.int ht en w base held fuel cs x h hw
  exact ⟨v, h1, wf_i64 h2, fun d hd => by obtain rfl : d = 0 := by simpa [Enc.sz] using hd
                                          exact h3 0 (by omega)⟩
theorem OpX.u8 (ht : P.underlying t = some (.int .u8)) : OpX P t UInt8 (fun _ => True) := by
  intro H en w base held fuel cs x h hw
  obtain ⟨v, h1, h2, h3⟩ := Opens.int ht en w base held fuel cs x h hw
  refine ⟨UInt8.ofNat v.toNat, h1, trivial, fun d hd => ?_⟩
  obtain rfl : d = 0 := by simpa [Enc.sz] using hd
  have := h3 0 (by omega)
  have hv : ((UInt8.ofNat v.toNat).toNat : Int) = v := by
    simp [Lit.wf, IntKind.min, IntKind.max, IntKind.bits, IntKind.signed] at h2
    simp only [UInt8.toNat_ofNat']
    omega
  show VR flat0 w (.int .u8 ((UInt8.ofNat v.toNat).toNat : Int)) _
  rw [hv]; exact this
theorem OpX.u32 (ht : P.underlying t = some (.int .u32)) : OpX P t UInt32 (fun _ => True) := by
  intro H en w base held fuel cs x h hw
  obtain ⟨v, h1, h2, h3⟩ := Opens.int ht en w base held fuel cs x h hw
  refine ⟨UInt32.ofNat v.toNat, h1, trivial, fun d hd => ?_⟩
  obtain rfl : d = 0 := by simpa [Enc.sz] using hd
  have := h3 0 (by omega)
  have hv : ((UInt32.ofNat v.toNat).toNat : Int) = v := by
    simp [Lit.wf, IntKind.min, IntKind.max, IntKind.bits, IntKind.signed] at h2
    simp only [UInt32.toNat_ofNat']
    omega
  show VR flat0 w (.int .u32 ((UInt32.ofNat v.toNat).toNat : Int)) _
  rw [hv]; exact this
theorem OpX.u64 (ht : P.underlying t = some (.int .u64)) : OpX P t UInt64 (fun _ => True) := by
  intro H en w base held fuel cs x h hw
  obtain ⟨v, h1, h2, h3⟩ := Opens.int ht en w base held fuel cs x h hw
  refine ⟨UInt64.ofNat v.toNat, h1, trivial, fun d hd => ?_⟩
  obtain rfl : d = 0 := by simpa [Enc.sz] using hd
  have := h3 0 (by omega)
  have hv : ((UInt64.ofNat v.toNat).toNat : Int) = v := by
    simp [Lit.wf, IntKind.min, IntKind.max, IntKind.bits, IntKind.signed] at h2
    simp only [UInt64.toNat_ofNat']
    omega
  show VR flat0 w (.int .u64 ((UInt64.ofNat v.toNat).toNat : Int)) _
  rw [hv]; exact this
theorem OpX.bool (ht : P.underlying t = some .bool) : OpX P t Bool (fun _ => True) := by
  intro H en w base held fuel cs x h hw
  obtain ⟨v, h1, h2, h3⟩ := Opens.bool ht en w base held fuel cs x h hw
  exact ⟨v, h1, h2, fun d hd => by obtain rfl : d = 0 := by simpa [Enc.sz] using hd
                                   exact h3 0 (by omega)⟩
theorem OpX.str (ht : P.underlying t = some .string) : OpX P t Str (fun s => s.l.length ≤ maxLen ∧ s.l.length ≤ reachBytes) := by
  intro H en w base held fuel cs x h hw
  obtain ⟨v, h1, h2, h3⟩ := Opens.str ht en w base held fuel cs x h hw
  have hv : (Str.mk v.data.toList).ba = v := by unfold Str.ba; simp
  refine ⟨⟨v.data.toList⟩, h1, ?_, fun d hd => ?_⟩
  · exact ⟨by simpa using h2.1, by simpa using h2.2⟩
  · obtain rfl : d = 0 := by simpa [Enc.sz] using hd
    show VR flat0 w (.str (Str.mk v.data.toList).ba) _
    rw [hv]
    exact h3 0 (by omega)
theorem OpX.slice {ok : α → Prop} (ht : P.underlying t = some (.slice e)) (hc : P.cellsOf e = Enc.sz α) (hby : 1 ≤ P.bytesOf e) (ho : OpX P e α ok) : OpX P t (List α) (fun xs => xs.length ≤ reachBytes ∧ ∀ y ∈ xs, ok y) := by
  intro H en w base held fuel cs x h hw
  obtain ⟨v, h1, h2, h3⟩ := Opens.slice ht hc Enc.pos hby ho en w base held fuel cs x h hw
  exact ⟨v, h1, h2, fun d hd => by obtain rfl : d = 0 := by simpa [Enc.sz] using hd
                                   exact h3 0 (by omega)⟩
theorem OpX.one {ok : α → Prop} (ho : OpX P t α ok) (hs : Enc.agg α = false) {H : Type} {en : TypeId × Value → H} {w : World} {base : Nat} {held : Bool} {v : Value} {d : DataW H} {ps : List MemPlace}
    (hv : v.cells = #[v]) (h : DataW.Trod en P w base (fun _ => true) held t v d ps) (hw : ∀ n ∈ d.weights P t, n ≤ reachBytes) : ∃ a : α, ok a ∧ VR flat0 w (Enc.v a) v := by
  have h1 := Enc.one hs
  unfold OpX at ho
  rw [h1] at ho
  obtain ⟨a, h2, h3⟩ := Opens.one ho hv h hw
  refine ⟨a, h2, ?_⟩
  rw [Enc.veq, hs]
  exact h3
end
end Go.AX
