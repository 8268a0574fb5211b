/- LexJoins answers true for every input; no condition. -/
import Derived.Test.YtmlgkljbhidlhaaP09g
import Derived.Test.YtmlgkljbhidlhaaL09b
import Derived.Test.YtmlgkljbhidlhaaRows
import Derived.WalkKit
import Derived.ProofKit
import Derived.OpenShut
namespace Go.Proofs.Ytmlgkljbhidlhaa.joins
open Go Go.AV Go.Proofs.S09 Go.ChangeShapes Go.WideShapes Go.ChangeAt Go.RowKit

theorem con (ys : List AV) (hl : ys.length = [t22].length) (h : ∀ (j : Nat) (te : TyE), [t22][j]? = some te → HasTyB (cfg 32) true te (ys.getD j .any)) : RCalls Try.prog [] 5 (List.zipWith wrapT [t22] ys) (.bool true) := by
  match ys, hl with
  | [a], _ =>
    obtain ⟨l, h1, h2, h3, h4⟩ := has22 (h 0 t22 rfl)
    have e : reachBytes = 140737488351232 := rfl
    simp at h3 h4
    have k := k5 l (by omega) (fun t ht => by have := h2 t ht; omega)
    exact (k.weaken (args' := [a]) (by simp [AV.areStat, h3]) (by simp [AV.les, h4])).calls (fn := Try.f5) rfl (by kernel_rfl)

theorem lifted (os : Os) (started : os.Started) (H : Type) (enc : TypeId × Value → H) :
    ReturnsInHanded {} Try.checked os 5 .any (Rows.lexJoinsSpec.pre6 enc Try.prog Try.f5 Rows.lexJoinsRow.domain false) (Rows.lexJoinsSpec.post enc Try.prog Try.f5 false true false false) := by
  refine returnsInHanded_of_change_sized (C := Try.checked) ownK started (by kernel_rfl) Try.func5
    (ChangeSpec.witness6 (enc := enc) (C := Try.checked) false ⟨#[], #[.slice none 0 0], []⟩ 8 (by kernel_rfl) (by kernel_rfl) (by kernel_rfl) (by kernel_rfl)) ?_
  intro W base args ds gs before hval hW _ hsz _
  exact law_step_gs (C := cfg 32) (tes := [t22]) (tb := 4) (cfg_ok 32) (all_known 32) (by kernel_rfl) rfl (by kernel_rfl) (by decide +kernel) (by kernel_rfl) Try.underlying4
    (fun ds h => by match ds, h with | [_], _ => rfl) con W (fun g x hg => by cases hg) base args ds gs before hval hW hsz

theorem proved : Rows.LexJoinsSaid :=
  OpenClaim.holds_of_wide 5 Try.f5 rfl rfl rfl rfl rfl rfl rfl ⟨rfl, rfl, rfl, rfl, rfl⟩ rfl rfl rfl rfl rfl (by kernel_rfl) Try.func5 (by kernel_rfl)
    (of_decide_eq_true (by kernel_rfl)) (by unfold Func.isWrapper; first | (rw [if_pos (by decide +kernel)]; kernel_rfl) | (rw [if_neg (by decide +kernel)]; exact ⟨rfl, rfl⟩))
    (fun os started H enc _ => lifted os started H enc)
end Go.Proofs.Ytmlgkljbhidlhaa.joins
