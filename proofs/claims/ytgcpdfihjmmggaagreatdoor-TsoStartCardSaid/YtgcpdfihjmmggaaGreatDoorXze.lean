import Derived.Test.YtgcpdfihjmmggaaGreatDoorXzd
import Derived.OpenShut
namespace Go.Proofs.YtgcpdfihjmmggaaGreatDoor.start
open Go Go.AV Go.Proofs.S25 Go.Proofs.YtgcpdfihjmmggaaGreatDoor.law Go.ChangeShapes Go.WideShapes Go.ChangeAt Go.RowKit
theorem inst : Tryz.f3.isInstance Tryz.pinned.checked.prog Rows.tsoStartRow.origin Rows.tsoStartRow.targs := of_decide_eq_true (by kernel_rfl)
theorem wrap : Tryz.f3.isWrapper Tryz.pinned.checked.prog Rows.tsoStartRow.wrapper Rows.tsoStartRow.mainSum := by unfold Func.isWrapper; first | (rw [if_pos (by decide +kernel)]; kernel_rfl) | (rw [if_neg (by decide +kernel)]; exact ⟨rfl, rfl⟩)
theorem fnm : Tryz.pinned.checked.prog.funcNamed Rows.tsoStartRow.func = some 3 := by kernel_rfl
theorem fat : Tryz.pinned.checked.prog.funcs[3]? = some Tryz.f3 := Tryz.func3
theorem closed : joinedFacts Tryz.pinned.checked.prog 3 Tryz.f3 Rows.tsoStartSpec Rows.tsoStartRow = true := by kernel_rfl
theorem z12v (os : Os) (started : os.Started) (H : Type) (enc : TypeId × Value -> H) (_ : ∀ a b, enc a = enc b -> a = b) : ReturnsInHanded Rows.tsoStartRow.assume Tryz.pinned.checked os 3 .any (Rows.tsoStartRow.pre enc Tryz.pinned.checked.prog Tryz.f3 (OpenSpec.ofChange Rows.tsoStartSpec)) (Rows.tsoStartSpec.post enc Tryz.pinned.checked.prog Tryz.f3 Rows.tsoStartRow.apart Rows.tsoStartRow.fresh Rows.tsoStartRow.handsOn Rows.tsoStartRow.again) := zzl os started H enc
theorem holds : Rows.TsoStartSaid :=
  OpenClaim.holds_of_wide (p := Tryz.pinned) (s := Rows.tsoStartSpec) (c := Rows.tsoStartRow) 3 Tryz.f3 rfl rfl rfl rfl rfl rfl rfl ⟨rfl, rfl, rfl, rfl, rfl⟩ rfl rfl rfl rfl rfl fnm fat closed inst wrap z12v
end Go.Proofs.YtgcpdfihjmmggaaGreatDoor.start
