import Derived.Test.YtndjbcnpgggddaaXT
import Derived.Test.YtndjbcnpgggddaaAmT
/- Facts on the types. -/
set_option linter.unusedSimpArgs false
namespace Go.Proofs.Ytndjbcnpgggddaa
open Go.AM Go.AX

theorem mixed : Try.prog.follows .mixedOrders = true := by kernel_rfl
theorem src3 : srcOK cx 3 := show ti3.known = true from rfl
theorem src4 : srcOK cx 4 := show ti4.known = true from rfl
theorem src9 : srcOK cx 9 := show ti9.known = true from rfl
theorem bo9 : bytesOK cx 9 := by unfold bytesOK; rw [kd9]; trivial
theorem src31 : srcOK cx 31 := show ti31.known = true from rfl
theorem bo31 : bytesOK cx 31 := by unfold bytesOK; rw [kd31]; trivial
theorem src32 : srcOK cx 32 := show ti32.known = true from rfl
theorem bo32 : bytesOK cx 32 := by unfold bytesOK; rw [kd32]; trivial
theorem src34 : srcOK cx 34 := show ti34.known = true from rfl
theorem bo34 : bytesOK cx 34 := by unfold bytesOK; rw [kd34]; trivial
theorem src36 : srcOK cx 36 := show ti36.known = true from rfl
theorem all36 : allTy cx [(9, 0), (3, 1), (3, 2), (3, 3), (3, 4), (4, 5), (34, 6)] ∧ fits cx [(9, 0), (3, 1), (3, 2), (3, 3), (3, 4), (4, 5), (34, 6)] ti36.sz := ⟨⟨rfl, rfl, rfl, rfl, rfl, rfl, rfl, trivial⟩, ⟨(by decide : _ ≤ _), (by decide : _ ≤ _), (by decide : _ ≤ _), (by decide : _ ≤ _), (by decide : _ ≤ _), (by decide : _ ≤ _), (by decide : _ ≤ _), trivial⟩⟩
theorem src83 : srcOK cx 83 := show ti83.known = true from rfl
theorem src85 : srcOK cx 85 := show ti85.known = true from rfl
theorem all85 : allTy cx [(9, 0), (3, 1), (3, 2), (3, 3), (3, 4), (3, 5), (3, 6), (4, 7)] ∧ fits cx [(9, 0), (3, 1), (3, 2), (3, 3), (3, 4), (3, 5), (3, 6), (4, 7)] ti85.sz := ⟨⟨rfl, rfl, rfl, rfl, rfl, rfl, rfl, rfl, trivial⟩, ⟨(by decide : _ ≤ _), (by decide : _ ≤ _), (by decide : _ ≤ _), (by decide : _ ≤ _), (by decide : _ ≤ _), (by decide : _ ≤ _), (by decide : _ ≤ _), (by decide : _ ≤ _), trivial⟩⟩
theorem zrow85 (j : Nat) (_ : j < Enc.sz Head_api) : ti85.z j = ec (Head_api.mk (Str.mk []) (0 : Int) (0 : Int) (0 : Int) (0 : Int) (0 : Int) (0 : Int) false) j := by rw [ti85_z]; rfl
theorem eqT85 (a b : Head_api) : (eqFs cx 8 8 (ofL (Enc.cl a)) (ofL (Enc.cl b)) [(9, 0), (3, 1), (3, 2), (3, 3), (3, 4), (3, 5), (3, 6), (4, 7)]).1 = (a == b) ∧ (eqFs cx 8 8 (ofL (Enc.cl a)) (ofL (Enc.cl b)) [(9, 0), (3, 1), (3, 2), (3, 3), (3, 4), (3, 5), (3, 6), (4, 7)]).2 := by
  obtain ⟨x0, x1, x2, x3, x4, x5, x6, x7⟩ := a
  obtain ⟨y0, y1, y2, y3, y4, y5, y6, y7⟩ := b
  refine ⟨?_, ?_⟩
  · rw [Bool.eq_iff_iff]
    simp [eqFs, eqS, ofL, Enc.cl, Enc.v, List.getD, ba_toList, str_eq]
  · simp [eqFs, eqS, ofL, Enc.cl, Enc.v, List.getD]
theorem src87 : srcOK cx 87 := show ti87.known = true from rfl
theorem all87 : allTy cx [(85, 0), (3, 8), (3, 9)] ∧ fits cx [(85, 0), (3, 8), (3, 9)] ti87.sz := ⟨⟨rfl, rfl, rfl, trivial⟩, ⟨(by decide : _ ≤ _), (by decide : _ ≤ _), (by decide : _ ≤ _), trivial⟩⟩
theorem src105 : srcOK cx 105 := show ti105.known = true from rfl
end Go.Proofs.Ytndjbcnpgggddaa
