import Derived.Test.YtjkjoihlpnahdaaAmU
/- All of it. -/
