import Derived.Test.YtcfagpelpjdmaaaGreatDoorXzn
import Derived.Test.YtcfagpelpjdmaaaGreatDoorCards
import Derived.Test.YtcfagpelpjdmaaaGreatDoorTie
/- ExecWalk answers true for every input;the package variables value.names and inst.rows hold what the program's text lays there. -/
namespace Go.Proofs.YtcfagpelpjdmaaaGreatDoor.walk
open Go Go.AV Go.Proofs.S25 Go.Proofs.YtcfagpelpjdmaaaGreatDoor.law Go.ChangeShapes Go.WideShapes Go.ChangeAt Go.RowKit
theorem proved:Rows.ExecWalkCardSaid:=
 Claim7.holds_tied_plain_at .later [] [.data, .data] true (true, "b02416c4161b8fad04924d6b1b25d1d6f76df538eaa2bc3bf84c0d6e7a3128d8") false
  holds (λ_ h=>by cases h) (by kernel_rfl) (λ_ h=>by cases h) execWalk_row_tie rfl ⟨rfl,rfl⟩ (by kernel_rfl) rfl
  (λf fn hf hfn=>by
   obtain rfl : f = 8 := gp ((show Tryz.prog.funcNamed "modelcheck/modelchecklaw26.ExecWalk" = some 8 by kernel_rfl).symm.trans hf) |>.symm
   obtain rfl:fn=Tryz.f8:=(gp (Tryz.func8.symm.trans hfn)).symm
   exact⟨by kernel_rfl,λj t ht=>by
    rw[Tryz.params8]at ht
    have hm:t∈[27,30,31]:=by simpa using Array.mem_of_getElem? ht
    have hall:([27,30,31].all λu=>!Tryz.prog.wantsStandIn u)=true:=by kernel_rfl
    exact(show Tryz.prog.wantsStandIn t=false by simpa using yy.1 hall t hm)⟩)
  (by kernel_rfl)
end Go.Proofs.YtcfagpelpjdmaaaGreatDoor.walk
