/- TsoOdd answers true for every input;the package variables value.names and inst.rows hold what the program's text lays there. -/
import Derived.Test.YtgcpdfihjmmggaaGreatDoorXzk
import Derived.Test.YtgcpdfihjmmggaaGreatDoorCards
import Derived.Test.YtgcpdfihjmmggaaGreatDoorTie
import Derived.SevenTiedAt
namespace Go.Proofs.YtgcpdfihjmmggaaGreatDoor.odd
open Go Go.AV Go.Proofs.S25 Go.Proofs.YtgcpdfihjmmggaaGreatDoor.law Go.ChangeShapes Go.WideShapes Go.ChangeAt Go.RowKit
theorem proved:Rows.TsoOddCardSaid:=
 Claim7.holds_tied_plain_at .later [] [.data, .data] true (true, "90dbb7972fd13c16e4f3d128c25b5e380cf3f0eb6ac7fbe81acd638a978e1900") false
  holds (λ_ h=>by cases h) (by kernel_rfl) (λ_ h=>by cases h) tsoOdd_row_tie rfl ⟨rfl,rfl⟩ (by kernel_rfl) rfl
  (λf fn hf hfn=>by
   obtain rfl : f = 5 := gk ((show Tryz.prog.funcNamed "modelcheck/modelchecklaw25.TsoOdd" = some 5 by kernel_rfl).symm.trans hf) |>.symm
   obtain rfl:fn=Tryz.f5:=(gk (Tryz.func5.symm.trans hfn)).symm
   exact⟨by kernel_rfl,λj t ht=>by
    rw[Tryz.params5]at ht
    have hm:t∈[27,35,3]:=by simpa using Array.mem_of_getElem? ht
    have hall:([27,35,3].all λu=>!Tryz.prog.wantsStandIn u)=true:=by kernel_rfl
    exact(show Tryz.prog.wantsStandIn t=false by simpa using yu.1 hall t hm)⟩)
  (by kernel_rfl)
end Go.Proofs.YtgcpdfihjmmggaaGreatDoor.odd
