import Derived.Test.YtcfagpelpjdmaaaGreatDoorXzg
import Derived.OpenShut
namespace Go.Proofs.YtcfagpelpjdmaaaGreatDoor.disab
open Go Go.AV Go.Proofs.S25 Go.Proofs.YtcfagpelpjdmaaaGreatDoor.law Go.ChangeShapes Go.WideShapes Go.ChangeAt Go.RowKit
theorem inst:Tryz.f4.isInstance Tryz.pinned.checked.prog Rows.execDisabledRow.origin Rows.execDisabledRow.targs:=of_decide_eq_true (by kernel_rfl)
theorem wrap:Tryz.f4.isWrapper Tryz.pinned.checked.prog Rows.execDisabledRow.wrapper Rows.execDisabledRow.mainSum:=by unfold Func.isWrapper;first | (rw[if_pos (by decide+kernel)];kernel_rfl) | (rw[if_neg (by decide+kernel)];exact⟨rfl,rfl⟩)
theorem fnm:Tryz.pinned.checked.prog.funcNamed Rows.execDisabledRow.func=some 4:=by kernel_rfl
theorem fat:Tryz.pinned.checked.prog.funcs[4]? =some Tryz.f4:=Tryz.func4
theorem closed:joinedFacts Tryz.pinned.checked.prog 4 Tryz.f4 Rows.execDisabledSpec Rows.execDisabledRow=true:=by kernel_rfl
theorem z1hj (os:Os) (started:os.Started) (H:Type) (enc:TypeId×Value ->H) (_:∀ a b,enc a=enc b ->a=b):ReturnsInHanded Rows.execDisabledRow.assume Tryz.pinned.checked os 4 .any (Rows.execDisabledRow.pre enc Tryz.pinned.checked.prog Tryz.f4 (OpenSpec.ofChange Rows.execDisabledSpec)) (Rows.execDisabledSpec.post enc Tryz.pinned.checked.prog Tryz.f4 Rows.execDisabledRow.apart Rows.execDisabledRow.fresh Rows.execDisabledRow.handsOn Rows.execDisabledRow.again):=z1d7 os started H enc
theorem holds:Rows.ExecDisabledSaid:=
 OpenClaim.holds_of_wide (p:=Tryz.pinned) (s:=Rows.execDisabledSpec) (c:=Rows.execDisabledRow) 4 Tryz.f4 rfl rfl rfl rfl rfl rfl rfl ⟨rfl,rfl,rfl,rfl,rfl⟩ rfl rfl rfl rfl rfl fnm fat closed inst wrap z1hj
end Go.Proofs.YtcfagpelpjdmaaaGreatDoor.disab
