/- LexScans answers true for every input; no condition. -/
import Derived.Test.YtmlgkljbhidlhaaP09b
import Derived.Test.YtmlgkljbhidlhaaL09
import Derived.Test.YtmlgkljbhidlhaaRows
import Derived.WalkKit
import Derived.ProofKit
import Derived.OpenShut
namespace Go.Proofs.Ytmlgkljbhidlhaa.scans
open Go Go.AV Go.Proofs.S09 Go.ChangeShapes Go.WideShapes Go.ChangeAt Go.RowKit

theorem con (ys : List AV) (hl : ys.length = [t9].length) (h : ∀ (j : Nat) (te : TyE), [t9][j]? = some te → HasTy (cfg 42) te (ys.getD j .any)) : RCalls Try.prog [] 3 (List.zipWith wrapT [t9] ys) (.bool true) := by
  match ys, hl with
  | [a], _ =>
    obtain ⟨s, hs, hm⟩ := has_str rfl (h 0 t9 rfl)
    simp at hs
    subst hs
    have hm2 : s.length ≤ 9223372036854775807 := by
      unfold maxLen at hm
      omega
    exact (k3 s hm2).calls (fn := Try.f3) rfl (by kernel_rfl)

theorem lifted (os : Os) (started : os.Started) (H : Type) (enc : TypeId × Value → H) :
    ReturnsInHanded {} Try.checked os 3 .any (Rows.lexScansSpec.pre6 enc Try.prog Try.f3 Rows.lexScansRow.domain false) (Rows.lexScansSpec.post enc Try.prog Try.f3 false true false false) := by
  refine returnsInHanded_of_change (C := Try.checked) ownK started (by kernel_rfl) Try.func3
    (ChangeSpec.witness6 (enc := enc) (C := Try.checked) false ⟨#[], #[.string { data := #[] }], []⟩ 8 (by kernel_rfl) (by kernel_rfl) (by kernel_rfl) (by kernel_rfl)) ?_
  intro W base args ds gs before hval hW _ _
  exact law_step (C := cfg 42) (tes := [t9]) (tb := 4) (cfg_ok 42) (all_known 42) rfl (by kernel_rfl) rfl (by kernel_rfl) (by decide +kernel) (by kernel_rfl) Try.underlying4
    (fun ds h => by match ds, h with | [_], _ => rfl) con W base args ds gs before hval hW

theorem proved : Rows.LexScansSaid :=
  OpenClaim.holds_of_wide 3 Try.f3 rfl rfl rfl rfl rfl rfl rfl ⟨rfl, rfl, rfl, rfl, rfl⟩ rfl rfl rfl rfl rfl (by kernel_rfl) Try.func3 (by kernel_rfl)
    (of_decide_eq_true (by kernel_rfl)) (by unfold Func.isWrapper; first | (rw [if_pos (by decide +kernel)]; kernel_rfl) | (rw [if_neg (by decide +kernel)]; exact ⟨rfl, rfl⟩))
    (fun os started H enc _ => lifted os started H enc)
end Go.Proofs.Ytmlgkljbhidlhaa.scans
