import Derived.Test.YtcfagpelpjdmaaaGreatDoorXze
import Derived.OpenShut
namespace Go.Proofs.YtcfagpelpjdmaaaGreatDoor.finish
open Go Go.AV Go.Proofs.S25 Go.Proofs.YtcfagpelpjdmaaaGreatDoor.law Go.ChangeShapes Go.WideShapes Go.ChangeAt Go.RowKit
theorem inst:Tryz.f6.isInstance Tryz.pinned.checked.prog Rows.execFinishRow.origin Rows.execFinishRow.targs:=of_decide_eq_true (by kernel_rfl)
theorem wrap:Tryz.f6.isWrapper Tryz.pinned.checked.prog Rows.execFinishRow.wrapper Rows.execFinishRow.mainSum:=by unfold Func.isWrapper;first | (rw[if_pos (by decide+kernel)];kernel_rfl) | (rw[if_neg (by decide+kernel)];exact⟨rfl,rfl⟩)
theorem fnm:Tryz.pinned.checked.prog.funcNamed Rows.execFinishRow.func=some 6:=by kernel_rfl
theorem fat:Tryz.pinned.checked.prog.funcs[6]? =some Tryz.f6:=Tryz.func6
theorem closed:joinedFacts Tryz.pinned.checked.prog 6 Tryz.f6 Rows.execFinishSpec Rows.execFinishRow=true:=by kernel_rfl
theorem z1hj (os:Os) (started:os.Started) (H:Type) (enc:TypeId×Value ->H) (_:∀ a b,enc a=enc b ->a=b):ReturnsInHanded Rows.execFinishRow.assume Tryz.pinned.checked os 6 .any (Rows.execFinishRow.pre enc Tryz.pinned.checked.prog Tryz.f6 (OpenSpec.ofChange Rows.execFinishSpec)) (Rows.execFinishSpec.post enc Tryz.pinned.checked.prog Tryz.f6 Rows.execFinishRow.apart Rows.execFinishRow.fresh Rows.execFinishRow.handsOn Rows.execFinishRow.again):=z1d7 os started H enc
theorem holds:Rows.ExecFinishSaid:=
 OpenClaim.holds_of_wide (p:=Tryz.pinned) (s:=Rows.execFinishSpec) (c:=Rows.execFinishRow) 6 Tryz.f6 rfl rfl rfl rfl rfl rfl rfl ⟨rfl,rfl,rfl,rfl,rfl⟩ rfl rfl rfl rfl rfl fnm fat closed inst wrap z1hj
end Go.Proofs.YtcfagpelpjdmaaaGreatDoor.finish
