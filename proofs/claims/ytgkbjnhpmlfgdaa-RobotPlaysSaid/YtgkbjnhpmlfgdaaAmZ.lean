import Derived.Test.YtgkbjnhpmlfgdaaAmU
/- All of it. -/
