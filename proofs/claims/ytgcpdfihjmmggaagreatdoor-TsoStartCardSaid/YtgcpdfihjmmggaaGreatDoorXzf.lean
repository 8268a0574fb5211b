/- TsoStart answers true for every input; the package variables value.names and inst.rows hold what the program's text lays there. -/
import Derived.Test.YtgcpdfihjmmggaaGreatDoorXze
import Derived.Test.YtgcpdfihjmmggaaGreatDoorCards
import Derived.Test.YtgcpdfihjmmggaaGreatDoorTie
import Derived.SevenTiedAt
namespace Go.Proofs.YtgcpdfihjmmggaaGreatDoor.start
open Go Go.AV Go.Proofs.S25 Go.Proofs.YtgcpdfihjmmggaaGreatDoor.law Go.ChangeShapes Go.WideShapes Go.ChangeAt Go.RowKit
theorem proved : Rows.TsoStartCardSaid :=
  Claim7.holds_tied_plain_at .later [] [.data, .data] true (true, "90dbb7972fd13c16e4f3d128c25b5e380cf3f0eb6ac7fbe81acd638a978e1900") false
    holds (fun _ h => by cases h) (by kernel_rfl) (fun _ h => by cases h) tsoStart_row_tie rfl ⟨rfl, rfl⟩ (by kernel_rfl) rfl
    (fun f fn hf hfn => by
      obtain rfl : f = 3 := Option.some.inj ((show Tryz.prog.funcNamed "modelcheck/modelchecklaw25.TsoStart" = some 3 by kernel_rfl).symm.trans hf) |>.symm
      obtain rfl : fn = Tryz.f3 := (Option.some.inj (Tryz.func3.symm.trans hfn)).symm
      exact ⟨by kernel_rfl, fun j t ht => by
        rw [Tryz.params3] at ht
        have hm : t ∈ [27, 3, 35] := by simpa using Array.mem_of_getElem? ht
        have hall : ([27, 3, 35].all fun u => !Tryz.prog.wantsStandIn u) = true := by kernel_rfl
        exact (show Tryz.prog.wantsStandIn t = false by simpa using List.all_eq_true.1 hall t hm)⟩)
    (by kernel_rfl)
end Go.Proofs.YtgcpdfihjmmggaaGreatDoor.start
