import Derived.Test.YtjkjoihlpnahdaaAmS
/- All of it. -/
