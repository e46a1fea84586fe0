import Derived.Test.YtjkjoihlpnahdaaAmR
/- All of it. -/
