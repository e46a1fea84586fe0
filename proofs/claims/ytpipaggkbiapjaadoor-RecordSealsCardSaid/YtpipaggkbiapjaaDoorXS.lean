import Derived.Test.YtpipaggkbiapjaaDoorXT
import Derived.Test.YtpipaggkbiapjaaDoorAmT
/- Facts on the types. -/
set_option linter.unusedSimpArgs false
namespace Go.Proofs.YtpipaggkbiapjaaDoor
open Go.AM Go.AX

theorem mixed : Tryd.prog.follows .mixedOrders = true := by kernel_rfl
theorem ex73 : Ext cx.P 73 Extern.BytealgCount.count := ⟨_, Tryd.func73, by kernel_rfl, by kernel_rfl, by kernel_rfl, by kernel_rfl⟩
theorem ex81 : Ext cx.P 81 Extern.BytealgIndexByte.indexByte := ⟨_, Tryd.func81, by kernel_rfl, by kernel_rfl, by kernel_rfl, by kernel_rfl⟩
theorem src3 : srcOK cx 3 := show ti3.known = true from rfl
theorem src4 : srcOK cx 4 := show ti4.known = true from rfl
theorem src5 : srcOK cx 5 := show ti5.known = true from rfl
theorem src9 : srcOK cx 9 := show ti9.known = true from rfl
theorem bo9 : bytesOK cx 9 := by unfold bytesOK; rw [kd9]; trivial
theorem src21 : srcOK cx 21 := show ti21.known = true from rfl
theorem src23 : srcOK cx 23 := show ti23.known = true from rfl
theorem src25 : srcOK cx 25 := show ti25.known = true from rfl
theorem bo25 : bytesOK cx 25 := by unfold bytesOK; rw [kd25]; trivial
theorem src31 : srcOK cx 31 := show ti31.known = true from rfl
theorem all31 : allTy cx [(9, 0), (3, 1), (3, 2), (3, 3), (3, 4), (3, 5), (3, 6), (4, 7)] ∧ fits cx [(9, 0), (3, 1), (3, 2), (3, 3), (3, 4), (3, 5), (3, 6), (4, 7)] ti31.sz := ⟨⟨rfl, rfl, rfl, rfl, rfl, rfl, rfl, rfl, trivial⟩, ⟨(by decide : _ ≤ _), (by decide : _ ≤ _), (by decide : _ ≤ _), (by decide : _ ≤ _), (by decide : _ ≤ _), (by decide : _ ≤ _), (by decide : _ ≤ _), (by decide : _ ≤ _), trivial⟩⟩
theorem zrow31 (j : Nat) (_ : j < Enc.sz Head_api) : ti31.z j = ec (Head_api.mk (Str.mk []) (0 : Int) (0 : Int) (0 : Int) (0 : Int) (0 : Int) (0 : Int) false) j := by rw [ti31_z]; rfl
theorem eqT31 (a b : Head_api) : (eqFs cx 8 8 (ofL (Enc.cl a)) (ofL (Enc.cl b)) [(9, 0), (3, 1), (3, 2), (3, 3), (3, 4), (3, 5), (3, 6), (4, 7)]).1 = (a == b) ∧ (eqFs cx 8 8 (ofL (Enc.cl a)) (ofL (Enc.cl b)) [(9, 0), (3, 1), (3, 2), (3, 3), (3, 4), (3, 5), (3, 6), (4, 7)]).2 := by
  obtain ⟨x0, x1, x2, x3, x4, x5, x6, x7⟩ := a
  obtain ⟨y0, y1, y2, y3, y4, y5, y6, y7⟩ := b
  refine ⟨?_, ?_⟩
  · rw [Bool.eq_iff_iff]
    simp [eqFs, eqS, ofL, Enc.cl, Enc.v, List.getD, ba_toList, str_eq]
  · simp [eqFs, eqS, ofL, Enc.cl, Enc.v, List.getD]
theorem src32 : srcOK cx 32 := show ti32.known = true from rfl
theorem bo32 : bytesOK cx 32 := by unfold bytesOK; rw [kd32]; trivial
theorem src35 : srcOK cx 35 := show ti35.known = true from rfl
theorem src43 : srcOK cx 43 := show ti43.known = true from rfl
theorem bo43 : bytesOK cx 43 := by unfold bytesOK; rw [kd43]; trivial
theorem src45 : srcOK cx 45 := show ti45.known = true from rfl
theorem all45 : allTy cx [(3, 0), (3, 1), (3, 2), (3, 3), (43, 4)] ∧ fits cx [(3, 0), (3, 1), (3, 2), (3, 3), (43, 4)] ti45.sz := ⟨⟨rfl, rfl, rfl, rfl, rfl, trivial⟩, ⟨(by decide : _ ≤ _), (by decide : _ ≤ _), (by decide : _ ≤ _), (by decide : _ ≤ _), (by decide : _ ≤ _), trivial⟩⟩
theorem src57 : srcOK cx 57 := show ti57.known = true from rfl
theorem src59 : srcOK cx 59 := show ti59.known = true from rfl
theorem all59 : allTy cx [(32, 0)] ∧ fits cx [(32, 0)] ti59.sz := ⟨⟨rfl, trivial⟩, ⟨(by decide : _ ≤ _), trivial⟩⟩
theorem src64 : srcOK cx 64 := show ti64.known = true from rfl
theorem src67 : srcOK cx 67 := show ti67.known = true from rfl
theorem src68 : srcOK cx 68 := show ti68.known = true from rfl
theorem bo68 : bytesOK cx 68 := by unfold bytesOK; rw [kd68]; trivial
theorem src72 : srcOK cx 72 := show ti72.known = true from rfl
theorem src75 : srcOK cx 75 := show ti75.known = true from rfl
theorem src77 : srcOK cx 77 := show ti77.known = true from rfl
theorem all77 : allTy cx [(32, 0)] ∧ fits cx [(32, 0)] ti77.sz := ⟨⟨rfl, trivial⟩, ⟨(by decide : _ ≤ _), trivial⟩⟩
theorem src82 : srcOK cx 82 := show ti82.known = true from rfl
theorem src83 : srcOK cx 83 := show ti83.known = true from rfl
theorem src87 : srcOK cx 87 := show ti87.known = true from rfl
theorem all87 : allTy cx [(32, 0), (4, 1)] ∧ fits cx [(32, 0), (4, 1)] ti87.sz := ⟨⟨rfl, rfl, trivial⟩, ⟨(by decide : _ ≤ _), (by decide : _ ≤ _), trivial⟩⟩
theorem src90 : srcOK cx 90 := show ti90.known = true from rfl
theorem all90 : allTy cx [(32, 0), (4, 1)] ∧ fits cx [(32, 0), (4, 1)] ti90.sz := ⟨⟨rfl, rfl, trivial⟩, ⟨(by decide : _ ≤ _), (by decide : _ ≤ _), trivial⟩⟩
theorem src91 : srcOK cx 91 := show ti91.known = true from rfl
end Go.Proofs.YtpipaggkbiapjaaDoor
