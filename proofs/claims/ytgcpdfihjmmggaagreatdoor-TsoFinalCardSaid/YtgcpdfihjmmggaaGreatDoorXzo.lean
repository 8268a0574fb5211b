import Derived.Test.YtgcpdfihjmmggaaGreatDoorXzn
import Derived.OpenShut
namespace Go.Proofs.YtgcpdfihjmmggaaGreatDoor.fin
open Go Go.AV Go.Proofs.S25 Go.Proofs.YtgcpdfihjmmggaaGreatDoor.law Go.ChangeShapes Go.WideShapes Go.ChangeAt Go.RowKit
theorem inst:Tryz.f7.isInstance Tryz.pinned.checked.prog Rows.tsoFinalRow.origin Rows.tsoFinalRow.targs:=w7 (by kernel_rfl)
theorem wrap:Tryz.f7.isWrapper Tryz.pinned.checked.prog Rows.tsoFinalRow.wrapper Rows.tsoFinalRow.mainSum:=by unfold Func.isWrapper;first | (rw[x9 (by decide+kernel)];kernel_rfl) | (rw[x8 (by decide+kernel)];exact⟨rfl,rfl⟩)
theorem fnm:Tryz.pinned.checked.prog.funcNamed Rows.tsoFinalRow.func=some 7:=by kernel_rfl
theorem fat:Tryz.pinned.checked.prog.funcs[7]? =some Tryz.f7:=Tryz.func7
theorem closed:joinedFacts Tryz.pinned.checked.prog 7 Tryz.f7 Rows.tsoFinalSpec Rows.tsoFinalRow=true:=by kernel_rfl
theorem akw (os:Os) (started:os.Started) (H:Type) (enc:TypeId×Value ->H) (_:∀ a b,enc a=enc b ->a=b):ReturnsInHanded Rows.tsoFinalRow.assume Tryz.pinned.checked os 7 .any (Rows.tsoFinalRow.pre enc Tryz.pinned.checked.prog Tryz.f7 (OpenSpec.ofChange Rows.tsoFinalSpec)) (Rows.tsoFinalSpec.post enc Tryz.pinned.checked.prog Tryz.f7 Rows.tsoFinalRow.apart Rows.tsoFinalRow.fresh Rows.tsoFinalRow.handsOn Rows.tsoFinalRow.again):=aga os started H enc
theorem holds:Rows.TsoFinalSaid:=
 OpenClaim.holds_of_wide (p:=Tryz.pinned) (s:=Rows.tsoFinalSpec) (c:=Rows.tsoFinalRow) 7 Tryz.f7 rfl rfl rfl rfl rfl rfl rfl ⟨rfl,rfl,rfl,rfl,rfl⟩ rfl rfl rfl rfl rfl fnm fat closed inst wrap akw
end Go.Proofs.YtgcpdfihjmmggaaGreatDoor.fin
