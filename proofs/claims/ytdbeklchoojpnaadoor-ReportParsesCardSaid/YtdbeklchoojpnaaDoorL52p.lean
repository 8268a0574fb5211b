/- Layer 52: what the law on Parse needs. -/
import Derived.Test.YtdbeklchoojpnaaDoorL52
import Derived.Test.YtdbeklchoojpnaaDoorP52z
