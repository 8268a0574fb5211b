import Derived.Test.YtcfagpelpjdmaaaGreatDoorXzn
import Derived.OpenShut
namespace Go.Proofs.YtcfagpelpjdmaaaGreatDoor.run
open Go Go.AV Go.Proofs.S25 Go.Proofs.YtcfagpelpjdmaaaGreatDoor.law Go.ChangeShapes Go.WideShapes Go.ChangeAt Go.RowKit
theorem inst:Tryz.f3.isInstance Tryz.pinned.checked.prog Rows.execRunRow.origin Rows.execRunRow.targs:=wh (am)
theorem wrap:Tryz.f3.isWrapper Tryz.pinned.checked.prog Rows.execRunRow.wrapper Rows.execRunRow.mainSum:=by unfold Func.isWrapper;first | (rw[x9 bv];kernel_rfl) | (rw[x8 bv];exact⟨rfl,rfl⟩)
theorem fnm:Tryz.pinned.checked.prog.funcNamed Rows.execRunRow.func=some 3:=am
theorem fat:Tryz.pinned.checked.prog.funcs[3]? =some Tryz.f3:=Tryz.func3
theorem closed:joinedFacts Tryz.pinned.checked.prog 3 Tryz.f3 Rows.execRunSpec Rows.execRunRow=true:=by kernel_rfl
theorem als (os:Os) (e:os.Started) (H:Type) (enc:TypeId×Value ->H) (_:∀ a b,enc a=enc b ->a=b):ReturnsInHanded Rows.execRunRow.assume Tryz.pinned.checked os 3 .any (Rows.execRunRow.pre enc Tryz.pinned.checked.prog Tryz.f3 (OpenSpec.ofChange Rows.execRunSpec)) (Rows.execRunSpec.post enc Tryz.pinned.checked.prog Tryz.f3 Rows.execRunRow.apart Rows.execRunRow.fresh Rows.execRunRow.handsOn Rows.execRunRow.again):=anu os e H enc
theorem holds:Rows.ExecRunSaid:=
 OpenClaim.holds_of_wide (p:=Tryz.pinned) (s:=Rows.execRunSpec) (c:=Rows.execRunRow) 3 Tryz.f3 rfl rfl rfl rfl rfl rfl rfl ⟨rfl,rfl,rfl,rfl,rfl⟩ rfl rfl rfl rfl rfl fnm fat closed inst wrap als
end Go.Proofs.YtcfagpelpjdmaaaGreatDoor.run
