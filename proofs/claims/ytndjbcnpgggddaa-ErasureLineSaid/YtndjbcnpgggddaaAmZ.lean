import Derived.Test.YtndjbcnpgggddaaAmU
/- All of it. -/
