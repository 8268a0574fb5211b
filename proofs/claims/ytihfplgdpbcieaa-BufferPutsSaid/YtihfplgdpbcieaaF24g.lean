/- Layer 24: the statement BufferPutsSaid, from the contract of its function. -/
import Derived.Test.YtihfplgdpbcieaaL24p
import Derived.Test.YtihfplgdpbcieaaRows
import Derived.WalkKit
import Derived.ProofKit
import Derived.OpenShut
namespace Go.Proofs.Ytihfplgdpbcieaa.puts
open Go Go.AV Go.Proofs.S24 Go.ChangeShapes Go.WideShapes Go.ChangeAt Go.RowKit

theorem con (ys : List AV) (hl : ys.length = [t45, t24, t45].length) (h : ∀ (j : Nat) (te : TyE), [t45, t24, t45][j]? = some te → HasTy (cfg 105) te (ys.getD j .any)) : RCalls Try.prog [] 7 (List.zipWith wrapT [t45, t24, t45] ys) (.bool true) := by
  match ys, hl with
  | [a, b, c], _ =>
    obtain ⟨l, h1, h2, h3⟩ := has45 (h 0 t45 rfl)
    obtain ⟨x, h4, h5⟩ := has24x (h 1 t24 rfl)
    obtain ⟨o, h6, h7, h8⟩ := has45 (h 2 t45 rfl)
    have k := k7 l x o (by unfold maxLen at h2; omega) (fun i => by have := h3 i; unfold maxLen at this; omega) (by unfold maxLen at h5; omega) (by unfold maxLen at h7; omega) (fun i => by have := h8 i; unfold maxLen at this; omega)
    exact (Known.sub k (args' := [a, .mc bufSh b, c]) rfl fun w F j v hj hv => by
      match j, hj with
      | 0, _ => exact h1 w F v hv
      | 1, _ => exact mc_sub hv fun j hj u hu => h4 w F j u hj hu
      | 2, _ => exact h6 w F v hv).calls (fn := Try.f7) rfl (by kernel_rfl)

theorem lifted (os : Os) (started : os.Started) (H : Type) (enc : TypeId × Value → H) :
    ReturnsInHanded {} Try.checked os 7 .any (Rows.bufferPutsSpec.pre6 enc Try.prog Try.f7 Rows.bufferPutsRow.domain false) (Rows.bufferPutsSpec.post enc Try.prog Try.f7 false true false false) := by
  refine returnsInHanded_of_change (C := Try.checked) ownK started (by kernel_rfl) Try.func7
    (ChangeSpec.witness6 (enc := enc) (C := Try.checked) false ⟨#[], #[.slice none 0 0, .agg #[.int .i64 0, .int .i64 0, .slice none 0 0], .slice none 0 0], []⟩ 8 (by kernel_rfl) (by kernel_rfl) (by kernel_rfl) (by kernel_rfl)) ?_
  intro W base args ds gs before hval hW _ _
  exact law_step (C := cfg 105) (tes := [t45, t24, t45]) (tb := 4) (cfg_ok 105) (all_known 105) rfl (by kernel_rfl) rfl (by kernel_rfl) (by decide +kernel) (by kernel_rfl) Try.underlying4
    (fun ds h => by match ds, h with | [_, _, _], _ => rfl) con W base args ds gs before hval hW

theorem proved : Rows.BufferPutsSaid :=
  OpenClaim.holds_of_wide 7 Try.f7 rfl rfl rfl rfl rfl rfl rfl ⟨rfl, rfl, rfl, rfl, rfl⟩ rfl rfl rfl rfl rfl (by kernel_rfl) Try.func7 (by kernel_rfl)
    (of_decide_eq_true (by kernel_rfl)) (by unfold Func.isWrapper; first | (rw [if_pos (by decide +kernel)]; kernel_rfl) | (rw [if_neg (by decide +kernel)]; exact ⟨rfl, rfl⟩))
    (fun os started H enc _ => lifted os started H enc)
end Go.Proofs.Ytihfplgdpbcieaa.puts
