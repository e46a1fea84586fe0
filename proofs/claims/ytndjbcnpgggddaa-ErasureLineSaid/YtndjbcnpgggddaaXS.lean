import Derived.Test.YtndjbcnpgggddaaXT
import Derived.Test.YtndjbcnpgggddaaAmT
/- Facts on the types. -/
set_option linter.unusedSimpArgs false
namespace Go.Proofs.Ytndjbcnpgggddaa
open Go.AM Go.AX

theorem mixed : Try.prog.follows .mixedOrders = true := by kernel_rfl
theorem src3 : srcOK cx 3 := show ti3.known = true from rfl
theorem src4 : srcOK cx 4 := show ti4.known = true from rfl
theorem src5 : srcOK cx 5 := show ti5.known = true from rfl
theorem src9 : srcOK cx 9 := show ti9.known = true from rfl
theorem bo9 : bytesOK cx 9 := by unfold bytesOK; rw [kd9]; trivial
theorem src22 : srcOK cx 22 := show ti22.known = true from rfl
theorem bo22 : bytesOK cx 22 := by unfold bytesOK; rw [kd22]; trivial
theorem src25 : srcOK cx 25 := show ti25.known = true from rfl
theorem bo25 : bytesOK cx 25 := by unfold bytesOK; rw [kd25]; trivial
theorem src26 : srcOK cx 26 := show ti26.known = true from rfl
theorem src96 : srcOK cx 96 := show ti96.known = true from rfl
end Go.Proofs.Ytndjbcnpgggddaa
