/- Layer 52: what the main law needs. -/
import Derived.Test.YtdbeklchoojpnaaDoorL52
import Derived.Test.YtdbeklchoojpnaaDoorP52t
namespace Go.Proofs.S52
end Go.Proofs.S52
