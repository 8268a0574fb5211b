/- LexLocal answers true for every input; no condition. -/
import Derived.Test.YtmlgkljbhidlhaaP09d
import Derived.Test.YtmlgkljbhidlhaaL09
import Derived.Test.YtmlgkljbhidlhaaRows
import Derived.WalkKit
import Derived.ProofKit
import Derived.OpenShut
namespace Go.Proofs.Ytmlgkljbhidlhaa.loc
open Go Go.AV Go.Proofs.S09 Go.ChangeShapes Go.WideShapes Go.ChangeAt Go.RowKit

theorem con (ys : List AV) (hl : ys.length = [t9, t9].length) (h : ∀ (j : Nat) (te : TyE), [t9, t9][j]? = some te → HasTy (cfg 143) te (ys.getD j .any)) : RCalls Try.prog [] 4 (List.zipWith wrapT [t9, t9] ys) (.bool true) := by
  match ys, hl with
  | [a, b], _ =>
    obtain ⟨s, hs, hm⟩ := has_str rfl (h 0 t9 rfl)
    obtain ⟨t, ht, hn⟩ := has_str rfl (h 1 t9 rfl)
    simp at hs ht
    subst hs ht
    have hm2 : s.length ≤ 9223372036854775807 := by
      unfold maxLen at hm
      omega
    have hn2 : t.length ≤ 9223372036854775807 := by
      unfold maxLen at hn
      omega
    exact (k4 s t hm2 hn2).calls (fn := Try.f4) rfl (by kernel_rfl)

theorem lifted (os : Os) (started : os.Started) (H : Type) (enc : TypeId × Value → H) :
    ReturnsInHanded {} Try.checked os 4 .any (Rows.lexLocalSpec.pre6 enc Try.prog Try.f4 Rows.lexLocalRow.domain false) (Rows.lexLocalSpec.post enc Try.prog Try.f4 false true false false) := by
  refine returnsInHanded_of_change (C := Try.checked) ownK started (by kernel_rfl) Try.func4
    (ChangeSpec.witness6 (enc := enc) (C := Try.checked) false ⟨#[], #[.string { data := #[] }, .string { data := #[] }], []⟩ 8 (by kernel_rfl) (by kernel_rfl) (by kernel_rfl) (by kernel_rfl)) ?_
  intro W base args ds gs before hval hW _ _
  exact law_step (C := cfg 143) (tes := [t9, t9]) (tb := 4) (cfg_ok 143) (all_known 143) rfl (by kernel_rfl) rfl (by kernel_rfl) (by decide +kernel) (by kernel_rfl) Try.underlying4
    (fun ds h => by match ds, h with | [_, _], _ => rfl) con W base args ds gs before hval hW

theorem proved : Rows.LexLocalSaid :=
  OpenClaim.holds_of_wide 4 Try.f4 rfl rfl rfl rfl rfl rfl rfl ⟨rfl, rfl, rfl, rfl, rfl⟩ rfl rfl rfl rfl rfl (by kernel_rfl) Try.func4 (by kernel_rfl)
    (of_decide_eq_true (by kernel_rfl)) (by unfold Func.isWrapper; first | (rw [if_pos (by decide +kernel)]; kernel_rfl) | (rw [if_neg (by decide +kernel)]; exact ⟨rfl, rfl⟩))
    (fun os started H enc _ => lifted os started H enc)
end Go.Proofs.Ytmlgkljbhidlhaa.loc
