import Derived.Test.YtpipaggkbiapjaaDoorXV
import Derived.Test.YtpipaggkbiapjaaDoorXAB
import Derived.Test.YtpipaggkbiapjaaDoorXAC
/- The Go structs as Lean structures. -/
namespace Go.AX
open Go.AM

end Go.AX
