/- TsoCommute answers true for every input;the package variables value.names,event.rows and inst.rows hold what the program's text lays there. -/
import Derived.Test.YtgcpdfihjmmggaaGreatDoorXzq
import Derived.Test.YtgcpdfihjmmggaaGreatDoorCards
import Derived.Test.YtgcpdfihjmmggaaGreatDoorTie
import Derived.SevenTiedAt
namespace Go.Proofs.YtgcpdfihjmmggaaGreatDoor.com
open Go Go.AV Go.Proofs.S25 Go.Proofs.YtgcpdfihjmmggaaGreatDoor.law Go.ChangeShapes Go.WideShapes Go.ChangeAt Go.RowKit
theorem proved:Rows.TsoCommuteCardSaid:=
 Claim7.holds_tied_plain_at .later [] [.data, .data, .data] true (true, "90dbb7972fd13c16e4f3d128c25b5e380cf3f0eb6ac7fbe81acd638a978e1900") false
  holds (λ_ h=>by cases h) (by kernel_rfl) (λ_ h=>by cases h) tsoCommute_row_tie rfl ⟨rfl,rfl⟩ (by kernel_rfl) rfl
  (λf fn hf hfn=>by
   obtain rfl : f = 8 := gk ((show Tryz.prog.funcNamed "modelcheck/modelchecklaw25.TsoCommute" = some 8 by kernel_rfl).symm.trans hf) |>.symm
   obtain rfl:fn=Tryz.f8:=(gk (Tryz.func8.symm.trans hfn)).symm
   exact⟨by kernel_rfl,λj t ht=>by
    rw[Tryz.params8]at ht
    have hm:t∈[27,3,29]:=by simpa using Array.mem_of_getElem? ht
    have hall:([27,3,29].all λu=>!Tryz.prog.wantsStandIn u)=true:=by kernel_rfl
    exact(show Tryz.prog.wantsStandIn t=false by simpa using yu.1 hall t hm)⟩)
  (by kernel_rfl)
end Go.Proofs.YtgcpdfihjmmggaaGreatDoor.com
