/- Layer 24: the statement BufferLooksSaid, from the contract of its function. -/
import Derived.Test.YtihfplgdpbcieaaP24c
import Derived.Test.YtihfplgdpbcieaaL24
import Derived.Test.YtihfplgdpbcieaaRows
import Derived.WalkKit
import Derived.ProofKit
import Derived.OpenShut
namespace Go.Proofs.Ytihfplgdpbcieaa.looks
open Go Go.AV Go.Proofs.S24 Go.ChangeShapes Go.WideShapes Go.ChangeAt Go.RowKit

theorem con (ys : List AV) (hl : ys.length = [t24, t3, t37].length) (h : ∀ (j : Nat) (te : TyE), [t24, t3, t37][j]? = some te → HasTy (cfg 79) te (ys.getD j .any)) : RCalls Try.prog [] 5 (List.zipWith wrapT [t24, t3, t37] ys) (.bool true) := by
  match ys, hl with
  | [a, b, c], _ =>
    obtain ⟨x, hx, hs, hle⟩ := has24 (h 0 t24 rfl)
    obtain ⟨n, hn⟩ := has_int rfl (h 1 t3 rfl)
    obtain ⟨v, hv, hs', hle'⟩ := has37 (h 2 t37 rfl)
    simp at hn hs hle hs' hle'
    subst hn
    have k := k5 x n v (by unfold maxLen at hx; omega) (by unfold maxLen at hv; omega)
    exact (k.weaken (args' := [.mc bufSh a, .int .i64 n, c]) (by simp [AV.areStat, AV.isStat, hs, hs']) (by simp [AV.les, AV.le, vB, hle, hle'])).calls (fn := Try.f5) rfl (by kernel_rfl)

theorem lifted (os : Os) (started : os.Started) (H : Type) (enc : TypeId × Value → H) :
    ReturnsInHanded {} Try.checked os 5 .any (Rows.bufferLooksSpec.pre6 enc Try.prog Try.f5 Rows.bufferLooksRow.domain false) (Rows.bufferLooksSpec.post enc Try.prog Try.f5 false true false false) := by
  refine returnsInHanded_of_change (C := Try.checked) ownK started (by kernel_rfl) Try.func5
    (ChangeSpec.witness6 (enc := enc) (C := Try.checked) false ⟨#[], #[.agg #[.int .i64 0, .int .i64 0, .slice none 0 0], .int .i64 0, .slice none 0 0], []⟩ 8 (by kernel_rfl) (by kernel_rfl) (by kernel_rfl) (by kernel_rfl)) ?_
  intro W base args ds gs before hval hW _ _
  exact law_step (C := cfg 79) (tes := [t24, t3, t37]) (tb := 4) (cfg_ok 79) (all_known 79) rfl (by kernel_rfl) rfl (by kernel_rfl) (by decide +kernel) (by kernel_rfl) Try.underlying4
    (fun ds h => by match ds, h with | [_, _, _], _ => rfl) con W base args ds gs before hval hW

theorem proved : Rows.BufferLooksSaid :=
  OpenClaim.holds_of_wide 5 Try.f5 rfl rfl rfl rfl rfl rfl rfl ⟨rfl, rfl, rfl, rfl, rfl⟩ rfl rfl rfl rfl rfl (by kernel_rfl) Try.func5 (by kernel_rfl)
    (of_decide_eq_true (by kernel_rfl)) (by unfold Func.isWrapper; first | (rw [if_pos (by decide +kernel)]; kernel_rfl) | (rw [if_neg (by decide +kernel)]; exact ⟨rfl, rfl⟩))
    (fun os started H enc _ => lifted os started H enc)
end Go.Proofs.Ytihfplgdpbcieaa.looks
