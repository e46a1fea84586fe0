import Derived.Test.YtndjbcnpgggddaaXX
/- The Go structs as Lean structures. -/
namespace Go.AX
open Go.AM

end Go.AX
