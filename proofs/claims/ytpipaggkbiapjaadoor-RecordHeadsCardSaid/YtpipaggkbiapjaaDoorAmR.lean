import Derived.Test.YtpipaggkbiapjaaDoorAmQ
import Derived.ChangeSlices
import Derived.ChangeShapes
/- Arguments of a law, taken as values. -/
namespace Go.AM
open Go.RowKit Go.ChangeShapes

/-- No own rows. -/
def flat0 : Mu := { f := fun _ => none, nx := 0, ban := fun _ => False, vir := fun _ => False }
theorem muok0 (w : World) : MuOK flat0 w := ⟨(fun b B e => by cases e), fun _ hh => False.elim hh⟩

theorem cell_lt {w : World} {a : Addr} {v : Value} (h : w.cell? a = some v) : a.block < w.heap.size ∧ a.spot = none := by
  unfold World.cell? at h
  split at h
  · rename_i c e f hc
    refine ⟨(Array.getElem?_eq_some_iff.1 hc).1, ?_⟩
    split at h
    · cases h
    · rename_i hs; simpa using hs
  · cases h

theorem sealed0 {w : World} {g : Nat} (h : g < w.heap.size) : Sealed flat0 w g := ⟨h, (fun hh => False.elim hh), fun _ _ e => by cases e⟩

/-- A slice of whole numbers that came in. -/
theorem open_VS {H : Type} {enc : TypeId × Value → H} {P : Program} {w : World} {base : Nat} {held : Bool} {t e : TypeId} {k : IntKind} {v : Value} {d : DataW H} {ps : List MemPlace} {a : Option Addr} {len cap : Nat}
    (ht : P.underlying t = some (.slice e)) (he : P.underlying e = some (.int k)) (hc : P.cellsOf e = 1) (hv : v = .slice a len cap) (h : DataW.Trod enc P w base (fun _ => true) held t v d ps) :
    ∃ zs : List Int, VR flat0 w (VS 1 (encI k) zs) v ∧ zs.length = len ∧ ∀ n ∈ zs, (Lit.int k n).wf = true := by
  subst hv
  obtain ⟨fuel, hf⟩ := h
  rcases open_ints ht he hc hf with ⟨hcs, _⟩ | ⟨x, l, c, zs, hcs, _, hl, hm, hz, _, hcell, hwz⟩
  · simp [Value.cells] at hcs
    obtain ⟨rfl, rfl, rfl⟩ := hcs
    exact ⟨[], .inl ⟨rfl, by simp, rfl⟩, rfl, fun n hn => by cases hn⟩
  · simp [Value.cells] at hcs
    obtain ⟨rfl, rfl, rfl⟩ := hcs
    have hz' : zs.length = cap := by simpa using hz
    have hlen : (zs.take len).length = len := by simp; omega
    refine ⟨zs.take len, .inr ⟨x, cap, by rw [hlen], by rw [hlen]; exact hl, fun hpos => ?_, fun i hi => ?_⟩, hlen, fun n hn => hwz n (List.mem_of_mem_take hn)⟩
    · have h0 := hcell 0 (by rw [hlen] at hpos; omega)
      have := cell_lt h0
      simp only [Addr.add, if_true] at this
      exact ⟨this.2, sealed0 this.1⟩
    · rw [hlen] at hi
      have hi' : i < zs.length := by omega
      have h0 := hcell 0 (by omega)
      have hsp := (cell_lt h0).2
      simp only [Addr.add, if_true] at hsp
      have hci := hcell i hi'
      refine ⟨.int k (zs.getD i 0), ?_, ?_⟩
      · rw [← hci]
        obtain ⟨xb, xo, xs⟩ := x
        simp only at hsp
        subst hsp
        rw [add_at]
      · have hi2 : i < (zs.take len).length := by omega
        show VR flat0 w (rowL 1 (encI k) (zs.take len) i) _
        rw [rowI hi2]
        have : (zs.take len).getD i 0 = zs.getD i 0 := by
          have : i < len := by omega
          simp [List.getD_eq_getElem?_getD, this]
        rw [this]
        rfl
end Go.AM
