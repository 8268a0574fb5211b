import Derived.Test.YtihfplgdpbcieaaS24a
namespace Go.Proofs.S24
open Go Go.AV
noncomputable def g5 (b : Buf) (x : Int) (v : List Int) : Prop := fnVc (vx 79 fun _ => none) Try.f5 [vB b, .int .i64 x, rowI v] (.bool true)
end Go.Proofs.S24
