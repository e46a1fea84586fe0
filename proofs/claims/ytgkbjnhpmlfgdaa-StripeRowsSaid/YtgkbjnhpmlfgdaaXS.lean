import Derived.Test.YtgkbjnhpmlfgdaaXT
import Derived.Test.YtgkbjnhpmlfgdaaAmT
/- Facts on the types. -/
set_option linter.unusedSimpArgs false
namespace Go.Proofs.Ytgkbjnhpmlfgdaa
open Go.AM Go.AX

theorem mixed : Try.prog.follows .mixedOrders = true := by kernel_rfl
theorem src3 : srcOK cx 3 := show ti3.known = true from rfl
theorem src4 : srcOK cx 4 := show ti4.known = true from rfl
theorem src5 : srcOK cx 5 := show ti5.known = true from rfl
theorem src9 : srcOK cx 9 := show ti9.known = true from rfl
theorem bo9 : bytesOK cx 9 := by unfold bytesOK; rw [kd9]; trivial
theorem src22 : srcOK cx 22 := show ti22.known = true from rfl
theorem bo22 : bytesOK cx 22 := by unfold bytesOK; rw [kd22]; trivial
theorem src23 : srcOK cx 23 := show ti23.known = true from rfl
theorem bo23 : bytesOK cx 23 := by unfold bytesOK; rw [kd23]; trivial
theorem src26 : srcOK cx 26 := show ti26.known = true from rfl
theorem src35 : srcOK cx 35 := show ti35.known = true from rfl
theorem bo35 : bytesOK cx 35 := by unfold bytesOK; rw [kd35]; trivial
theorem src37 : srcOK cx 37 := show ti37.known = true from rfl
theorem bo37 : bytesOK cx 37 := by unfold bytesOK; rw [kd37]; trivial
theorem src46 : srcOK cx 46 := show ti46.known = true from rfl
theorem bo46 : bytesOK cx 46 := by unfold bytesOK; rw [kd46]; trivial
theorem src48 : srcOK cx 48 := show ti48.known = true from rfl
theorem all48 : allTy cx [(3, 0), (3, 1), (22, 2), (4, 3)] ∧ fits cx [(3, 0), (3, 1), (22, 2), (4, 3)] ti48.sz := ⟨⟨rfl, rfl, rfl, rfl, trivial⟩, ⟨(by decide : _ ≤ _), (by decide : _ ≤ _), (by decide : _ ≤ _), (by decide : _ ≤ _), trivial⟩⟩
theorem src91 : srcOK cx 91 := show ti91.known = true from rfl
theorem src97 : srcOK cx 97 := show ti97.known = true from rfl
end Go.Proofs.Ytgkbjnhpmlfgdaa
