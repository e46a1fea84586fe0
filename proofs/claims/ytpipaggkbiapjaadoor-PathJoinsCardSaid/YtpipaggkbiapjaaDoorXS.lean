import Derived.Test.YtpipaggkbiapjaaDoorXT
import Derived.Test.YtpipaggkbiapjaaDoorAmT
/- Facts on the types. -/
set_option linter.unusedSimpArgs false
namespace Go.Proofs.YtpipaggkbiapjaaDoor
open Go.AM Go.AX

theorem mixed : Tryd.prog.follows .mixedOrders = true := by kernel_rfl
theorem ex73 : Ext cx.P 73 Extern.BytealgCount.count := ⟨_, Tryd.func73, by kernel_rfl, by kernel_rfl, by kernel_rfl, by kernel_rfl⟩
theorem ex81 : Ext cx.P 81 Extern.BytealgIndexByte.indexByte := ⟨_, Tryd.func81, by kernel_rfl, by kernel_rfl, by kernel_rfl, by kernel_rfl⟩
theorem src3 : srcOK cx 3 := show ti3.known = true from rfl
theorem src4 : srcOK cx 4 := show ti4.known = true from rfl
theorem src5 : srcOK cx 5 := show ti5.known = true from rfl
theorem src9 : srcOK cx 9 := show ti9.known = true from rfl
theorem bo9 : bytesOK cx 9 := by unfold bytesOK; rw [kd9]; trivial
theorem src21 : srcOK cx 21 := show ti21.known = true from rfl
theorem src23 : srcOK cx 23 := show ti23.known = true from rfl
theorem src25 : srcOK cx 25 := show ti25.known = true from rfl
theorem bo25 : bytesOK cx 25 := by unfold bytesOK; rw [kd25]; trivial
theorem src82 : srcOK cx 82 := show ti82.known = true from rfl
end Go.Proofs.YtpipaggkbiapjaaDoor
