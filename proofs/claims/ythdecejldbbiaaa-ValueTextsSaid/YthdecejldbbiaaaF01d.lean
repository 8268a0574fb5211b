/- ValueTexts answers true for every input; no condition. -/
import Derived.Test.YthdecejldbbiaaaP01d
import Derived.Test.YthdecejldbbiaaaL01
import Derived.Test.YthdecejldbbiaaaRows
import Derived.WalkKit
import Derived.ProofKit
import Derived.OpenShut
namespace Go.Proofs.Ythdecejldbbiaaa.texts
open Go Go.AV Go.Proofs.S01 Go.ChangeShapes Go.WideShapes Go.ChangeAt Go.RowKit

theorem con (ys : List AV) (hl : ys.length = [t9, t3].length) (h : ∀ (j : Nat) (te : TyE), [t9, t3][j]? = some te → HasTy (cfg 41) te (ys.getD j .any)) : RCalls Try.prog [] 6 (List.zipWith wrapT [t9, t3] ys) (.bool true) := by
  match ys, hl with
  | [a, b], _ =>
    obtain ⟨s, hs, hm⟩ := has_str rfl (h 0 t9 rfl)
    obtain ⟨n, hn, hr⟩ := has_intR (k := .i64) rfl (h 1 t3 rfl)
    simp at hs hn
    subst hs hn
    have hm2 : s.length ≤ 9223372036854775807 := by
      unfold maxLen at hm
      omega
    exact (k6 s n hm2 hr).calls (fn := Try.f6) rfl (by kernel_rfl)

theorem lifted (os : Os) (started : os.Started) (H : Type) (enc : TypeId × Value → H) :
    ReturnsInHanded {} Try.checked os 6 .any (Rows.valueTextsSpec.pre6 enc Try.prog Try.f6 Rows.valueTextsRow.domain false) (Rows.valueTextsSpec.post enc Try.prog Try.f6 false true false false) := by
  refine returnsInHanded_of_change (C := Try.checked) ownK started (by kernel_rfl) Try.func6
    (ChangeSpec.witness6 (enc := enc) (C := Try.checked) false ⟨#[], #[.string { data := #[] }, .int .i64 0], []⟩ 8 (by kernel_rfl) (by kernel_rfl) (by kernel_rfl) (by kernel_rfl)) ?_
  intro W base args ds gs before hval hW _ _
  exact law_step (C := cfg 41) (tes := [t9, t3]) (tb := 4) (cfg_ok 41) (all_known 41) rfl (by kernel_rfl) rfl (by kernel_rfl) (by decide +kernel) (by kernel_rfl) Try.underlying4
    (fun ds h => by match ds, h with | [_, _], _ => rfl) con W base args ds gs before hval hW

theorem proved : Rows.ValueTextsSaid :=
  OpenClaim.holds_of_wide 6 Try.f6 rfl rfl rfl rfl rfl rfl rfl ⟨rfl, rfl, rfl, rfl, rfl⟩ rfl rfl rfl rfl rfl (by kernel_rfl) Try.func6 (by kernel_rfl)
    (of_decide_eq_true (by kernel_rfl)) (by unfold Func.isWrapper; first | (rw [if_pos (by decide +kernel)]; kernel_rfl) | (rw [if_neg (by decide +kernel)]; exact ⟨rfl, rfl⟩))
    (fun os started H enc _ => lifted os started H enc)
end Go.Proofs.Ythdecejldbbiaaa.texts
