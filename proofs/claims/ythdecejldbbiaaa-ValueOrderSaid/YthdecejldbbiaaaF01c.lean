/- ValueOrder answers true for every input; no condition. -/
import Derived.Test.YthdecejldbbiaaaP01c
import Derived.Test.YthdecejldbbiaaaL01
import Derived.Test.YthdecejldbbiaaaRows
import Derived.WalkKit
import Derived.ProofKit
import Derived.OpenShut
namespace Go.Proofs.Ythdecejldbbiaaa.order
open Go Go.AV Go.Proofs.S01 Go.ChangeShapes Go.WideShapes Go.ChangeAt Go.RowKit

theorem con (ys : List AV) (hl : ys.length = [t3, t3].length) (h : ∀ (j : Nat) (te : TyE), [t3, t3][j]? = some te → HasTy (cfg 72) te (ys.getD j .any)) : RCalls Try.prog [] 5 (List.zipWith wrapT [t3, t3] ys) (.bool true) := by
  match ys, hl with
  | [a, b], _ =>
    obtain ⟨na, ha⟩ := has_int (k := .i64) rfl (h 0 t3 rfl)
    obtain ⟨nb, hb⟩ := has_int (k := .i64) rfl (h 1 t3 rfl)
    simp at ha hb
    subst ha hb
    exact (k5 na nb).2

theorem lifted (os : Os) (started : os.Started) (H : Type) (enc : TypeId × Value → H) :
    ReturnsInHanded {} Try.checked os 5 .any (Rows.valueOrderSpec.pre6 enc Try.prog Try.f5 Rows.valueOrderRow.domain false) (Rows.valueOrderSpec.post enc Try.prog Try.f5 false true false false) := by
  refine returnsInHanded_of_change (C := Try.checked) ownK started (by kernel_rfl) Try.func5
    (ChangeSpec.witness6 (enc := enc) (C := Try.checked) false ⟨#[], #[.int .i64 0, .int .i64 0], []⟩ 8 (by kernel_rfl) (by kernel_rfl) (by kernel_rfl) (by kernel_rfl)) ?_
  intro W base args ds gs before hval hW _ _
  exact law_step (C := cfg 72) (tes := [t3, t3]) (tb := 4) (cfg_ok 72) (all_known 72) rfl (by kernel_rfl) rfl (by kernel_rfl) (by decide +kernel) (by kernel_rfl) Try.underlying4
    (fun ds h => by match ds, h with | [_, _], _ => rfl) con W base args ds gs before hval hW

theorem proved : Rows.ValueOrderSaid :=
  OpenClaim.holds_of_wide 5 Try.f5 rfl rfl rfl rfl rfl rfl rfl ⟨rfl, rfl, rfl, rfl, rfl⟩ rfl rfl rfl rfl rfl (by kernel_rfl) Try.func5 (by kernel_rfl)
    (of_decide_eq_true (by kernel_rfl)) (by unfold Func.isWrapper; first | (rw [if_pos (by decide +kernel)]; kernel_rfl) | (rw [if_neg (by decide +kernel)]; exact ⟨rfl, rfl⟩))
    (fun os started H enc _ => lifted os started H enc)
end Go.Proofs.Ythdecejldbbiaaa.order
