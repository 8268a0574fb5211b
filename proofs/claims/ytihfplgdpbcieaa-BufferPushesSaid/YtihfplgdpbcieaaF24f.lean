/- Layer 24: the statement BufferPushesSaid, from the contract of its function. -/
import Derived.Test.YtihfplgdpbcieaaP24e
import Derived.Test.YtihfplgdpbcieaaL24
import Derived.Test.YtihfplgdpbcieaaRows
import Derived.WalkKit
import Derived.ProofKit
import Derived.OpenShut
namespace Go.Proofs.Ytihfplgdpbcieaa.pushes
open Go Go.AV Go.Proofs.S24 Go.ChangeShapes Go.WideShapes Go.ChangeAt Go.RowKit

theorem con (ys : List AV) (hl : ys.length = [t24, t3, t3].length) (h : ∀ (j : Nat) (te : TyE), [t24, t3, t3][j]? = some te → HasTy (cfg 99) te (ys.getD j .any)) : RCalls Try.prog [] 3 (List.zipWith wrapT [t24, t3, t3] ys) (.bool true) := by
  match ys, hl with
  | [a, b, c], _ =>
    obtain ⟨x, hx, hs, hle⟩ := has24 (h 0 t24 rfl)
    obtain ⟨n, hn⟩ := has_int rfl (h 1 t3 rfl)
    obtain ⟨m, hm⟩ := has_int rfl (h 2 t3 rfl)
    simp at hn hm hs hle
    subst hn hm
    have k := k3 x n m (by unfold maxLen at hx; omega)
    exact (k.weaken (args' := [.mc bufSh a, .int .i64 n, .int .i64 m]) (by simp [AV.areStat, AV.isStat, hs]) (by simp [AV.les, AV.le, vB, hle])).calls (fn := Try.f3) rfl (by kernel_rfl)

theorem lifted (os : Os) (started : os.Started) (H : Type) (enc : TypeId × Value → H) :
    ReturnsInHanded {} Try.checked os 3 .any (Rows.bufferPushesSpec.pre6 enc Try.prog Try.f3 Rows.bufferPushesRow.domain false) (Rows.bufferPushesSpec.post enc Try.prog Try.f3 false true false false) := by
  refine returnsInHanded_of_change (C := Try.checked) ownK started (by kernel_rfl) Try.func3
    (ChangeSpec.witness6 (enc := enc) (C := Try.checked) false ⟨#[], #[.agg #[.int .i64 0, .int .i64 0, .slice none 0 0], .int .i64 0, .int .i64 0], []⟩ 8 (by kernel_rfl) (by kernel_rfl) (by kernel_rfl) (by kernel_rfl)) ?_
  intro W base args ds gs before hval hW _ _
  exact law_step (C := cfg 99) (tes := [t24, t3, t3]) (tb := 4) (cfg_ok 99) (all_known 99) rfl (by kernel_rfl) rfl (by kernel_rfl) (by decide +kernel) (by kernel_rfl) Try.underlying4
    (fun ds h => by match ds, h with | [_, _, _], _ => rfl) con W base args ds gs before hval hW

theorem proved : Rows.BufferPushesSaid :=
  OpenClaim.holds_of_wide 3 Try.f3 rfl rfl rfl rfl rfl rfl rfl ⟨rfl, rfl, rfl, rfl, rfl⟩ rfl rfl rfl rfl rfl (by kernel_rfl) Try.func3 (by kernel_rfl)
    (of_decide_eq_true (by kernel_rfl)) (by unfold Func.isWrapper; first | (rw [if_pos (by decide +kernel)]; kernel_rfl) | (rw [if_neg (by decide +kernel)]; exact ⟨rfl, rfl⟩))
    (fun os started H enc _ => lifted os started H enc)
end Go.Proofs.Ytihfplgdpbcieaa.pushes
