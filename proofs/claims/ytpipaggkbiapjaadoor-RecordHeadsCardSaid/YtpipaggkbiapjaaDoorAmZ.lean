import Derived.Test.YtpipaggkbiapjaaDoorAmU
/- All of it. -/
