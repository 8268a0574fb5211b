import Derived.Test.YtgcpdfihjmmggaaGreatDoorXzj
import Derived.OpenShut
namespace Go.Proofs.YtgcpdfihjmmggaaGreatDoor.odd
open Go Go.AV Go.Proofs.S25 Go.Proofs.YtgcpdfihjmmggaaGreatDoor.law Go.ChangeShapes Go.WideShapes Go.ChangeAt Go.RowKit
theorem inst:Tryz.f5.isInstance Tryz.pinned.checked.prog Rows.tsoOddRow.origin Rows.tsoOddRow.targs:=w7 (by kernel_rfl)
theorem wrap:Tryz.f5.isWrapper Tryz.pinned.checked.prog Rows.tsoOddRow.wrapper Rows.tsoOddRow.mainSum:=by unfold Func.isWrapper;first | (rw[x9 (by decide+kernel)];kernel_rfl) | (rw[x8 (by decide+kernel)];exact⟨rfl,rfl⟩)
theorem fnm:Tryz.pinned.checked.prog.funcNamed Rows.tsoOddRow.func=some 5:=by kernel_rfl
theorem fat:Tryz.pinned.checked.prog.funcs[5]? =some Tryz.f5:=Tryz.func5
theorem closed:joinedFacts Tryz.pinned.checked.prog 5 Tryz.f5 Rows.tsoOddSpec Rows.tsoOddRow=true:=by kernel_rfl
theorem akw (os:Os) (started:os.Started) (H:Type) (enc:TypeId×Value ->H) (_:∀ a b,enc a=enc b ->a=b):ReturnsInHanded Rows.tsoOddRow.assume Tryz.pinned.checked os 5 .any (Rows.tsoOddRow.pre enc Tryz.pinned.checked.prog Tryz.f5 (OpenSpec.ofChange Rows.tsoOddSpec)) (Rows.tsoOddSpec.post enc Tryz.pinned.checked.prog Tryz.f5 Rows.tsoOddRow.apart Rows.tsoOddRow.fresh Rows.tsoOddRow.handsOn Rows.tsoOddRow.again):=aga os started H enc
theorem holds:Rows.TsoOddSaid:=
 OpenClaim.holds_of_wide (p:=Tryz.pinned) (s:=Rows.tsoOddSpec) (c:=Rows.tsoOddRow) 5 Tryz.f5 rfl rfl rfl rfl rfl rfl rfl ⟨rfl,rfl,rfl,rfl,rfl⟩ rfl rfl rfl rfl rfl fnm fat closed inst wrap akw
end Go.Proofs.YtgcpdfihjmmggaaGreatDoor.odd
