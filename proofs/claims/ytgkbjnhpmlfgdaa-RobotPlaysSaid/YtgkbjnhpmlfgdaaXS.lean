import Derived.Test.YtgkbjnhpmlfgdaaXT
import Derived.Test.YtgkbjnhpmlfgdaaAmT
/- Facts on the types. -/
set_option linter.unusedSimpArgs false
namespace Go.Proofs.Ytgkbjnhpmlfgdaa
open Go.AM Go.AX

theorem mixed : Try.prog.follows .mixedOrders = true := by kernel_rfl
theorem src3 : srcOK cx 3 := show ti3.known = true from rfl
theorem src4 : srcOK cx 4 := show ti4.known = true from rfl
theorem src26 : srcOK cx 26 := show ti26.known = true from rfl
theorem src46 : srcOK cx 46 := show ti46.known = true from rfl
theorem bo46 : bytesOK cx 46 := by unfold bytesOK; rw [kd46]; trivial
theorem src64 : srcOK cx 64 := show ti64.known = true from rfl
theorem src71 : srcOK cx 71 := show ti71.known = true from rfl
theorem bo71 : bytesOK cx 71 := by unfold bytesOK; rw [kd71]; trivial
theorem src72 : srcOK cx 72 := show ti72.known = true from rfl
theorem src76 : srcOK cx 76 := show ti76.known = true from rfl
theorem all76 : allTy cx [(3, 0), (3, 1), (4, 2), (46, 3)] ∧ fits cx [(3, 0), (3, 1), (4, 2), (46, 3)] ti76.sz := ⟨⟨rfl, rfl, rfl, rfl, trivial⟩, ⟨(by decide : _ ≤ _), (by decide : _ ≤ _), (by decide : _ ≤ _), (by decide : _ ≤ _), trivial⟩⟩
theorem src82 : srcOK cx 82 := show ti82.known = true from rfl
theorem src84 : srcOK cx 84 := show ti84.known = true from rfl
theorem all84 : allTy cx [(82, 0), (46, 1), (46, 2)] ∧ fits cx [(82, 0), (46, 1), (46, 2)] ti84.sz := ⟨⟨rfl, rfl, rfl, trivial⟩, ⟨(by decide : _ ≤ _), (by decide : _ ≤ _), (by decide : _ ≤ _), trivial⟩⟩
theorem src102 : srcOK cx 102 := show ti102.known = true from rfl
theorem src107 : srcOK cx 107 := show ti107.known = true from rfl
theorem all107 : allTy cx [(46, 0)] ∧ fits cx [(46, 0)] ti107.sz := ⟨⟨rfl, trivial⟩, ⟨(by decide : _ ≤ _), trivial⟩⟩
theorem src109 : srcOK cx 109 := show ti109.known = true from rfl
theorem all109 : allTy cx [(102, 0), (3, 1), (46, 2), (107, 3), (46, 4)] ∧ fits cx [(102, 0), (3, 1), (46, 2), (107, 3), (46, 4)] ti109.sz := ⟨⟨rfl, rfl, rfl, rfl, rfl, trivial⟩, ⟨(by decide : _ ≤ _), (by decide : _ ≤ _), (by decide : _ ≤ _), (by decide : _ ≤ _), (by decide : _ ≤ _), trivial⟩⟩
theorem src111 : srcOK cx 111 := show ti111.known = true from rfl
theorem src118 : srcOK cx 118 := show ti118.known = true from rfl
theorem all118 : allTy cx [(46, 0), (46, 1), (46, 2)] ∧ fits cx [(46, 0), (46, 1), (46, 2)] ti118.sz := ⟨⟨rfl, rfl, rfl, trivial⟩, ⟨(by decide : _ ≤ _), (by decide : _ ≤ _), (by decide : _ ≤ _), trivial⟩⟩
theorem src127 : srcOK cx 127 := show ti127.known = true from rfl
theorem all127 : allTy cx [(46, 0), (46, 1)] ∧ fits cx [(46, 0), (46, 1)] ti127.sz := ⟨⟨rfl, rfl, trivial⟩, ⟨(by decide : _ ≤ _), (by decide : _ ≤ _), trivial⟩⟩
theorem src129 : srcOK cx 129 := show ti129.known = true from rfl
end Go.Proofs.Ytgkbjnhpmlfgdaa
