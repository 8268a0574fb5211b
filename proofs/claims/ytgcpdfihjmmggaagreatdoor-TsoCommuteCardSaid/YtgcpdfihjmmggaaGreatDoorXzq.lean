import Derived.Test.YtgcpdfihjmmggaaGreatDoorXzp
import Derived.OpenShut
namespace Go.Proofs.YtgcpdfihjmmggaaGreatDoor.com
open Go Go.AV Go.Proofs.S25 Go.Proofs.YtgcpdfihjmmggaaGreatDoor.law Go.ChangeShapes Go.WideShapes Go.ChangeAt Go.RowKit
theorem inst:Tryz.f8.isInstance Tryz.pinned.checked.prog Rows.tsoCommuteRow.origin Rows.tsoCommuteRow.targs:=w7 (ac)
theorem wrap:Tryz.f8.isWrapper Tryz.pinned.checked.prog Rows.tsoCommuteRow.wrapper Rows.tsoCommuteRow.mainSum:=by unfold Func.isWrapper;first | (rw[x9 bi];kernel_rfl) | (rw[x8 bi];exact⟨rfl,rfl⟩)
theorem fnm:Tryz.pinned.checked.prog.funcNamed Rows.tsoCommuteRow.func=some 8:=ac
theorem fat:Tryz.pinned.checked.prog.funcs[8]? =some Tryz.f8:=Tryz.func8
theorem closed:joinedFacts Tryz.pinned.checked.prog 8 Tryz.f8 Rows.tsoCommuteSpec Rows.tsoCommuteRow=true:=by kernel_rfl
theorem akw (os:Os) (e:os.Started) (H:Type) (enc:TypeId×Value ->H) (_:∀ a b,enc a=enc b ->a=b):ReturnsInHanded Rows.tsoCommuteRow.assume Tryz.pinned.checked os 8 .any (Rows.tsoCommuteRow.pre enc Tryz.pinned.checked.prog Tryz.f8 (OpenSpec.ofChange Rows.tsoCommuteSpec)) (Rows.tsoCommuteSpec.post enc Tryz.pinned.checked.prog Tryz.f8 Rows.tsoCommuteRow.apart Rows.tsoCommuteRow.fresh Rows.tsoCommuteRow.handsOn Rows.tsoCommuteRow.again):=aga os e H enc
theorem holds:Rows.TsoCommuteSaid:=
 OpenClaim.holds_of_wide (p:=Tryz.pinned) (s:=Rows.tsoCommuteSpec) (c:=Rows.tsoCommuteRow) 8 Tryz.f8 rfl rfl rfl rfl rfl rfl rfl ⟨rfl,rfl,rfl,rfl,rfl⟩ rfl rfl rfl rfl rfl fnm fat closed inst wrap akw
end Go.Proofs.YtgcpdfihjmmggaaGreatDoor.com
