import Derived.Test.YtcfagpelpjdmaaaGreatDoorXzf
import Derived.OpenShut
namespace Go.Proofs.YtcfagpelpjdmaaaGreatDoor.replay
open Go Go.AV Go.Proofs.S25 Go.Proofs.YtcfagpelpjdmaaaGreatDoor.law Go.ChangeShapes Go.WideShapes Go.ChangeAt Go.RowKit
theorem inst:Tryz.f7.isInstance Tryz.pinned.checked.prog Rows.execReplayRow.origin Rows.execReplayRow.targs:=of_decide_eq_true (by kernel_rfl)
theorem wrap:Tryz.f7.isWrapper Tryz.pinned.checked.prog Rows.execReplayRow.wrapper Rows.execReplayRow.mainSum:=by unfold Func.isWrapper;first | (rw[if_pos (by decide+kernel)];kernel_rfl) | (rw[if_neg (by decide+kernel)];exact⟨rfl,rfl⟩)
theorem fnm:Tryz.pinned.checked.prog.funcNamed Rows.execReplayRow.func=some 7:=by kernel_rfl
theorem fat:Tryz.pinned.checked.prog.funcs[7]? =some Tryz.f7:=Tryz.func7
theorem closed:joinedFacts Tryz.pinned.checked.prog 7 Tryz.f7 Rows.execReplaySpec Rows.execReplayRow=true:=by kernel_rfl
theorem z1hj (os:Os) (started:os.Started) (H:Type) (enc:TypeId×Value ->H) (_:∀ a b,enc a=enc b ->a=b):ReturnsInHanded Rows.execReplayRow.assume Tryz.pinned.checked os 7 .any (Rows.execReplayRow.pre enc Tryz.pinned.checked.prog Tryz.f7 (OpenSpec.ofChange Rows.execReplaySpec)) (Rows.execReplaySpec.post enc Tryz.pinned.checked.prog Tryz.f7 Rows.execReplayRow.apart Rows.execReplayRow.fresh Rows.execReplayRow.handsOn Rows.execReplayRow.again):=z1d7 os started H enc
theorem holds:Rows.ExecReplaySaid:=
 OpenClaim.holds_of_wide (p:=Tryz.pinned) (s:=Rows.execReplaySpec) (c:=Rows.execReplayRow) 7 Tryz.f7 rfl rfl rfl rfl rfl rfl rfl ⟨rfl,rfl,rfl,rfl,rfl⟩ rfl rfl rfl rfl rfl fnm fat closed inst wrap z1hj
end Go.Proofs.YtcfagpelpjdmaaaGreatDoor.replay
