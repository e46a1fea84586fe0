import Derived.Test.YtgkbjnhpmlfgdaaXX
/- The Go structs as Lean structures. -/
namespace Go.AX
open Go.AM

end Go.AX
