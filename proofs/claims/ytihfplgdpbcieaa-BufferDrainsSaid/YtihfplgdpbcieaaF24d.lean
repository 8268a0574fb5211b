/- BufferDrains answers true for every input; no condition. -/
import Derived.Test.YtihfplgdpbcieaaP24d
import Derived.Test.YtihfplgdpbcieaaL24
import Derived.Test.YtihfplgdpbcieaaRows
import Derived.WalkKit
import Derived.ProofKit
import Derived.OpenShut
namespace Go.Proofs.Ytihfplgdpbcieaa.drains
open Go Go.AV Go.Proofs.S24 Go.ChangeShapes Go.WideShapes Go.ChangeAt Go.RowKit

theorem con (ys : List AV) (hl : ys.length = [t24, t37].length) (h : ∀ (j : Nat) (te : TyE), [t24, t37][j]? = some te → HasTy (cfg 133) te (ys.getD j .any)) : RCalls Try.prog [] 6 (List.zipWith wrapT [t24, t37] ys) (.bool true) := by
  match ys, hl with
  | [a, c], _ =>
    obtain ⟨x, hx, hs, hle⟩ := has24 (h 0 t24 rfl)
    obtain ⟨v, hv, hs', hle'⟩ := has37 (h 1 t37 rfl)
    simp at hs hle hs' hle'
    have k := k6 x v (by unfold maxLen at hx; omega) (by unfold maxLen at hv; omega)
    exact (k.weaken (args' := [.mc bufSh a, c]) (by simp [AV.areStat, AV.isStat, hs, hs']) (by simp [AV.les, AV.le, vB, hle, hle'])).2

theorem lifted (os : Os) (started : os.Started) (H : Type) (enc : TypeId × Value → H) :
    ReturnsInHanded {} Try.checked os 6 .any (Rows.bufferDrainsSpec.pre6 enc Try.prog Try.f6 Rows.bufferDrainsRow.domain false) (Rows.bufferDrainsSpec.post enc Try.prog Try.f6 false true false false) := by
  refine returnsInHanded_of_change (C := Try.checked) ownK started (by kernel_rfl) Try.func6
    (ChangeSpec.witness6 (enc := enc) (C := Try.checked) false ⟨#[], #[.agg #[.int .i64 0, .int .i64 0, .slice none 0 0], .slice none 0 0], []⟩ 8 (by kernel_rfl) (by kernel_rfl) (by kernel_rfl) (by kernel_rfl)) ?_
  intro W base args ds gs before hval hW _ _
  exact law_step (C := cfg 133) (tes := [t24, t37]) (tb := 4) (cfg_ok 133) (all_known 133) rfl (by kernel_rfl) rfl (by kernel_rfl) (by decide +kernel) (by kernel_rfl) Try.underlying4
    (fun ds h => by match ds, h with | [_, _], _ => rfl) con W base args ds gs before hval hW

theorem proved : Rows.BufferDrainsSaid :=
  OpenClaim.holds_of_wide 6 Try.f6 rfl rfl rfl rfl rfl rfl rfl ⟨rfl, rfl, rfl, rfl, rfl⟩ rfl rfl rfl rfl rfl (by kernel_rfl) Try.func6 (by kernel_rfl)
    (of_decide_eq_true (by kernel_rfl)) (by unfold Func.isWrapper; first | (rw [if_pos (by decide +kernel)]; kernel_rfl) | (rw [if_neg (by decide +kernel)]; exact ⟨rfl, rfl⟩))
    (fun os started H enc _ => lifted os started H enc)
end Go.Proofs.Ytihfplgdpbcieaa.drains
