import Derived.Test.YtgcpdfihjmmggaaGreatDoorXzm
import Derived.OpenShut
namespace Go.Proofs.YtgcpdfihjmmggaaGreatDoor.step
open Go Go.AV Go.Proofs.S25 Go.Proofs.YtgcpdfihjmmggaaGreatDoor.law Go.ChangeShapes Go.WideShapes Go.ChangeAt Go.RowKit
theorem inst:Tryz.f4.isInstance Tryz.pinned.checked.prog Rows.tsoStepRow.origin Rows.tsoStepRow.targs:=w7 (by kernel_rfl)
theorem wrap:Tryz.f4.isWrapper Tryz.pinned.checked.prog Rows.tsoStepRow.wrapper Rows.tsoStepRow.mainSum:=by unfold Func.isWrapper;first | (rw[x9 (by decide+kernel)];kernel_rfl) | (rw[x8 (by decide+kernel)];exact⟨rfl,rfl⟩)
theorem fnm:Tryz.pinned.checked.prog.funcNamed Rows.tsoStepRow.func=some 4:=by kernel_rfl
theorem fat:Tryz.pinned.checked.prog.funcs[4]? =some Tryz.f4:=Tryz.func4
theorem closed:joinedFacts Tryz.pinned.checked.prog 4 Tryz.f4 Rows.tsoStepSpec Rows.tsoStepRow=true:=by kernel_rfl
theorem akw (os:Os) (started:os.Started) (H:Type) (enc:TypeId×Value ->H) (_:∀ a b,enc a=enc b ->a=b):ReturnsInHanded Rows.tsoStepRow.assume Tryz.pinned.checked os 4 .any (Rows.tsoStepRow.pre enc Tryz.pinned.checked.prog Tryz.f4 (OpenSpec.ofChange Rows.tsoStepSpec)) (Rows.tsoStepSpec.post enc Tryz.pinned.checked.prog Tryz.f4 Rows.tsoStepRow.apart Rows.tsoStepRow.fresh Rows.tsoStepRow.handsOn Rows.tsoStepRow.again):=aga os started H enc
theorem holds:Rows.TsoStepSaid:=
 OpenClaim.holds_of_wide (p:=Tryz.pinned) (s:=Rows.tsoStepSpec) (c:=Rows.tsoStepRow) 4 Tryz.f4 rfl rfl rfl rfl rfl rfl rfl ⟨rfl,rfl,rfl,rfl,rfl⟩ rfl rfl rfl rfl rfl fnm fat closed inst wrap akw
end Go.Proofs.YtgcpdfihjmmggaaGreatDoor.step
