import Derived.Test.YtcfagpelpjdmaaaGreatDoorXzm
import Derived.OpenShut
namespace Go.Proofs.YtcfagpelpjdmaaaGreatDoor.cmp
open Go Go.AV Go.Proofs.S25 Go.Proofs.YtcfagpelpjdmaaaGreatDoor.law Go.ChangeShapes Go.WideShapes Go.ChangeAt Go.RowKit
theorem inst:Tryz.f5.isInstance Tryz.pinned.checked.prog Rows.execCompleteRow.origin Rows.execCompleteRow.targs:=wh (by kernel_rfl)
theorem wrap:Tryz.f5.isWrapper Tryz.pinned.checked.prog Rows.execCompleteRow.wrapper Rows.execCompleteRow.mainSum:=by unfold Func.isWrapper;first | (rw[x9 (by decide+kernel)];kernel_rfl) | (rw[x8 (by decide+kernel)];exact⟨rfl,rfl⟩)
theorem fnm:Tryz.pinned.checked.prog.funcNamed Rows.execCompleteRow.func=some 5:=by kernel_rfl
theorem fat:Tryz.pinned.checked.prog.funcs[5]? =some Tryz.f5:=Tryz.func5
theorem closed:joinedFacts Tryz.pinned.checked.prog 5 Tryz.f5 Rows.execCompleteSpec Rows.execCompleteRow=true:=by kernel_rfl
theorem als (os:Os) (started:os.Started) (H:Type) (enc:TypeId×Value ->H) (_:∀ a b,enc a=enc b ->a=b):ReturnsInHanded Rows.execCompleteRow.assume Tryz.pinned.checked os 5 .any (Rows.execCompleteRow.pre enc Tryz.pinned.checked.prog Tryz.f5 (OpenSpec.ofChange Rows.execCompleteSpec)) (Rows.execCompleteSpec.post enc Tryz.pinned.checked.prog Tryz.f5 Rows.execCompleteRow.apart Rows.execCompleteRow.fresh Rows.execCompleteRow.handsOn Rows.execCompleteRow.again):=anu os started H enc
theorem holds:Rows.ExecCompleteSaid:=
 OpenClaim.holds_of_wide (p:=Tryz.pinned) (s:=Rows.execCompleteSpec) (c:=Rows.execCompleteRow) 5 Tryz.f5 rfl rfl rfl rfl rfl rfl rfl ⟨rfl,rfl,rfl,rfl,rfl⟩ rfl rfl rfl rfl rfl fnm fat closed inst wrap als
end Go.Proofs.YtcfagpelpjdmaaaGreatDoor.cmp
