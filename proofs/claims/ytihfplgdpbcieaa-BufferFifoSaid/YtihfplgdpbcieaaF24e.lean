/- BufferFifo answers true for every input; no condition. -/
import Derived.Test.YtihfplgdpbcieaaP24d
import Derived.Test.YtihfplgdpbcieaaL24
import Derived.Test.YtihfplgdpbcieaaRows
import Derived.WalkKit
import Derived.ProofKit
import Derived.OpenShut
namespace Go.Proofs.Ytihfplgdpbcieaa.fifo
open Go Go.AV Go.Proofs.S24 Go.ChangeShapes Go.WideShapes Go.ChangeAt Go.RowKit

theorem con (ys : List AV) (hl : ys.length = [t3, t3, t22].length) (h : ∀ (j : Nat) (te : TyE), [t3, t3, t22][j]? = some te → HasTy (cfg 142) te (ys.getD j .any)) : RCalls Try.prog [] 4 (List.zipWith wrapT [t3, t3, t22] ys) (.bool true) := by
  match ys, hl with
  | [a, b, c], _ =>
    obtain ⟨t, ht⟩ := has_int rfl (h 0 t3 rfl)
    obtain ⟨n, hn⟩ := has_int rfl (h 1 t3 rfl)
    obtain ⟨v, hv, hs', hle'⟩ := has22 (h 2 t22 rfl)
    simp at ht hn hs' hle'
    subst ht hn
    have k := k4 t n v (by unfold maxLen at hv; omega)
    exact (k.weaken (args' := [.int .i64 t, .int .i64 n, c]) (by simp [AV.areStat, AV.isStat, hs']) (by simp [AV.les, AV.le, hle'])).2

theorem lifted (os : Os) (started : os.Started) (H : Type) (enc : TypeId × Value → H) :
    ReturnsInHanded {} Try.checked os 4 .any (Rows.bufferFifoSpec.pre6 enc Try.prog Try.f4 Rows.bufferFifoRow.domain false) (Rows.bufferFifoSpec.post enc Try.prog Try.f4 false true false false) := by
  refine returnsInHanded_of_change (C := Try.checked) ownK started (by kernel_rfl) Try.func4
    (ChangeSpec.witness6 (enc := enc) (C := Try.checked) false ⟨#[], #[.int .i64 0, .int .i64 0, .slice none 0 0], []⟩ 8 (by kernel_rfl) (by kernel_rfl) (by kernel_rfl) (by kernel_rfl)) ?_
  intro W base args ds gs before hval hW _ _
  exact law_step (C := cfg 142) (tes := [t3, t3, t22]) (tb := 4) (cfg_ok 142) (all_known 142) rfl (by kernel_rfl) rfl (by kernel_rfl) (by decide +kernel) (by kernel_rfl) Try.underlying4
    (fun ds h => by match ds, h with | [_, _, _], _ => rfl) con W base args ds gs before hval hW

theorem proved : Rows.BufferFifoSaid :=
  OpenClaim.holds_of_wide 4 Try.f4 rfl rfl rfl rfl rfl rfl rfl ⟨rfl, rfl, rfl, rfl, rfl⟩ rfl rfl rfl rfl rfl (by kernel_rfl) Try.func4 (by kernel_rfl)
    (of_decide_eq_true (by kernel_rfl)) (by unfold Func.isWrapper; first | (rw [if_pos (by decide +kernel)]; kernel_rfl) | (rw [if_neg (by decide +kernel)]; exact ⟨rfl, rfl⟩))
    (fun os started H enc _ => lifted os started H enc)
end Go.Proofs.Ytihfplgdpbcieaa.fifo
