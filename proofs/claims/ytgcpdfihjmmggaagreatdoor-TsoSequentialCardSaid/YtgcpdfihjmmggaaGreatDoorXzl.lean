import Derived.Test.YtgcpdfihjmmggaaGreatDoorXzk
import Derived.OpenShut
namespace Go.Proofs.YtgcpdfihjmmggaaGreatDoor.seq
open Go Go.AV Go.Proofs.S25 Go.Proofs.YtgcpdfihjmmggaaGreatDoor.law Go.ChangeShapes Go.WideShapes Go.ChangeAt Go.RowKit
theorem inst:Tryz.f6.isInstance Tryz.pinned.checked.prog Rows.tsoSequentialRow.origin Rows.tsoSequentialRow.targs:=w7 (by kernel_rfl)
theorem wrap:Tryz.f6.isWrapper Tryz.pinned.checked.prog Rows.tsoSequentialRow.wrapper Rows.tsoSequentialRow.mainSum:=by unfold Func.isWrapper;first | (rw[x9 (by decide+kernel)];kernel_rfl) | (rw[x8 (by decide+kernel)];exact⟨rfl,rfl⟩)
theorem fnm:Tryz.pinned.checked.prog.funcNamed Rows.tsoSequentialRow.func=some 6:=by kernel_rfl
theorem fat:Tryz.pinned.checked.prog.funcs[6]? =some Tryz.f6:=Tryz.func6
theorem closed:joinedFacts Tryz.pinned.checked.prog 6 Tryz.f6 Rows.tsoSequentialSpec Rows.tsoSequentialRow=true:=by kernel_rfl
theorem akw (os:Os) (started:os.Started) (H:Type) (enc:TypeId×Value ->H) (_:∀ a b,enc a=enc b ->a=b):ReturnsInHanded Rows.tsoSequentialRow.assume Tryz.pinned.checked os 6 .any (Rows.tsoSequentialRow.pre enc Tryz.pinned.checked.prog Tryz.f6 (OpenSpec.ofChange Rows.tsoSequentialSpec)) (Rows.tsoSequentialSpec.post enc Tryz.pinned.checked.prog Tryz.f6 Rows.tsoSequentialRow.apart Rows.tsoSequentialRow.fresh Rows.tsoSequentialRow.handsOn Rows.tsoSequentialRow.again):=aga os started H enc
theorem holds:Rows.TsoSequentialSaid:=
 OpenClaim.holds_of_wide (p:=Tryz.pinned) (s:=Rows.tsoSequentialSpec) (c:=Rows.tsoSequentialRow) 6 Tryz.f6 rfl rfl rfl rfl rfl rfl rfl ⟨rfl,rfl,rfl,rfl,rfl⟩ rfl rfl rfl rfl rfl fnm fat closed inst wrap akw
end Go.Proofs.YtgcpdfihjmmggaaGreatDoor.seq
