import Derived.Test.YtjkjoihlpnahdaaXT
import Derived.Test.YtjkjoihlpnahdaaAmT
/- Facts on the types. -/
set_option linter.unusedSimpArgs false
namespace Go.Proofs.Ytjkjoihlpnahdaa
open Go.AM Go.AX

theorem mixed : Try.prog.follows .mixedOrders = true := by kernel_rfl
theorem src3 : srcOK cx 3 := show ti3.known = true from rfl
theorem src4 : srcOK cx 4 := show ti4.known = true from rfl
theorem src22 : srcOK cx 22 := show ti22.known = true from rfl
theorem bo22 : bytesOK cx 22 := by unfold bytesOK; rw [kd22]; trivial
theorem src24 : srcOK cx 24 := show ti24.known = true from rfl
theorem bo24 : bytesOK cx 24 := by unfold bytesOK; rw [kd24]; trivial
theorem src25 : srcOK cx 25 := show ti25.known = true from rfl
theorem src32 : srcOK cx 32 := show ti32.known = true from rfl
theorem all32 : allTy cx [(3, 0), (3, 1), (3, 2)] ∧ fits cx [(3, 0), (3, 1), (3, 2)] ti32.sz := ⟨⟨rfl, rfl, rfl, trivial⟩, ⟨(by decide : _ ≤ _), (by decide : _ ≤ _), (by decide : _ ≤ _), trivial⟩⟩
theorem zrow32 (j : Nat) (_ : j < Enc.sz Piece) : ti32.z j = ec (Piece.mk (0 : Int) (0 : Int) (0 : Int)) j := by rw [ti32_z]; rfl
theorem eqT32 (a b : Piece) : (eqFs cx 3 3 (ofL (Enc.cl a)) (ofL (Enc.cl b)) [(3, 0), (3, 1), (3, 2)]).1 = (a == b) ∧ (eqFs cx 3 3 (ofL (Enc.cl a)) (ofL (Enc.cl b)) [(3, 0), (3, 1), (3, 2)]).2 := by
  obtain ⟨x0, x1, x2⟩ := a
  obtain ⟨y0, y1, y2⟩ := b
  refine ⟨?_, ?_⟩
  · rw [Bool.eq_iff_iff]
    simp [eqFs, eqS, ofL, Enc.cl, Enc.v, List.getD, ba_toList, str_eq]
  · simp [eqFs, eqS, ofL, Enc.cl, Enc.v, List.getD]
theorem src34 : srcOK cx 34 := show ti34.known = true from rfl
theorem bo34 : bytesOK cx 34 := by unfold bytesOK; rw [kd34]; trivial
theorem src35 : srcOK cx 35 := show ti35.known = true from rfl
theorem src37 : srcOK cx 37 := show ti37.known = true from rfl
theorem all37 : allTy cx [(22, 0)] ∧ fits cx [(22, 0)] ti37.sz := ⟨⟨rfl, trivial⟩, ⟨(by decide : _ ≤ _), trivial⟩⟩
theorem src39 : srcOK cx 39 := show ti39.known = true from rfl
theorem all39 : allTy cx [(3, 0), (3, 1)] ∧ fits cx [(3, 0), (3, 1)] ti39.sz := ⟨⟨rfl, rfl, trivial⟩, ⟨(by decide : _ ≤ _), (by decide : _ ≤ _), trivial⟩⟩
theorem zrow39 (j : Nat) (_ : j < Enc.sz Act_law23) : ti39.z j = ec (Act_law23.mk (0 : Int) (0 : Int)) j := by rw [ti39_z]; rfl
theorem eqT39 (a b : Act_law23) : (eqFs cx 2 2 (ofL (Enc.cl a)) (ofL (Enc.cl b)) [(3, 0), (3, 1)]).1 = (a == b) ∧ (eqFs cx 2 2 (ofL (Enc.cl a)) (ofL (Enc.cl b)) [(3, 0), (3, 1)]).2 := by
  obtain ⟨x0, x1⟩ := a
  obtain ⟨y0, y1⟩ := b
  refine ⟨?_, ?_⟩
  · rw [Bool.eq_iff_iff]
    simp [eqFs, eqS, ofL, Enc.cl, Enc.v, List.getD, ba_toList, str_eq]
  · simp [eqFs, eqS, ofL, Enc.cl, Enc.v, List.getD]
theorem src44 : srcOK cx 44 := show ti44.known = true from rfl
theorem src47 : srcOK cx 47 := show ti47.known = true from rfl
theorem bo47 : bytesOK cx 47 := by unfold bytesOK; rw [kd47]; trivial
theorem src48 : srcOK cx 48 := show ti48.known = true from rfl
theorem src51 : srcOK cx 51 := show ti51.known = true from rfl
theorem src55 : srcOK cx 55 := show ti55.known = true from rfl
theorem all55 : allTy cx [(3, 0), (3, 1), (3, 2)] ∧ fits cx [(3, 0), (3, 1), (3, 2)] ti55.sz := ⟨⟨rfl, rfl, rfl, trivial⟩, ⟨(by decide : _ ≤ _), (by decide : _ ≤ _), (by decide : _ ≤ _), trivial⟩⟩
theorem zrow55 (j : Nat) (_ : j < Enc.sz Act_law22) : ti55.z j = ec (Act_law22.mk (0 : Int) (0 : Int) (0 : Int)) j := by rw [ti55_z]; rfl
theorem eqT55 (a b : Act_law22) : (eqFs cx 3 3 (ofL (Enc.cl a)) (ofL (Enc.cl b)) [(3, 0), (3, 1), (3, 2)]).1 = (a == b) ∧ (eqFs cx 3 3 (ofL (Enc.cl a)) (ofL (Enc.cl b)) [(3, 0), (3, 1), (3, 2)]).2 := by
  obtain ⟨x0, x1, x2⟩ := a
  obtain ⟨y0, y1, y2⟩ := b
  refine ⟨?_, ?_⟩
  · rw [Bool.eq_iff_iff]
    simp [eqFs, eqS, ofL, Enc.cl, Enc.v, List.getD, ba_toList, str_eq]
  · simp [eqFs, eqS, ofL, Enc.cl, Enc.v, List.getD]
theorem src65 : srcOK cx 65 := show ti65.known = true from rfl
theorem all65 : allTy cx [(22, 0), (22, 1)] ∧ fits cx [(22, 0), (22, 1)] ti65.sz := ⟨⟨rfl, rfl, trivial⟩, ⟨(by decide : _ ≤ _), (by decide : _ ≤ _), trivial⟩⟩
theorem src67 : srcOK cx 67 := show ti67.known = true from rfl
theorem all67 : allTy cx [(22, 0), (22, 1), (22, 2)] ∧ fits cx [(22, 0), (22, 1), (22, 2)] ti67.sz := ⟨⟨rfl, rfl, rfl, trivial⟩, ⟨(by decide : _ ≤ _), (by decide : _ ≤ _), (by decide : _ ≤ _), trivial⟩⟩
end Go.Proofs.Ytjkjoihlpnahdaa
