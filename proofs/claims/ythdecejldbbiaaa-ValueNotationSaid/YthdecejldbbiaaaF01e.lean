/- ValueNotation answers true for every input; no condition. -/
import Derived.Test.YthdecejldbbiaaaP01d
import Derived.Test.YthdecejldbbiaaaL01
import Derived.Test.YthdecejldbbiaaaRows
import Derived.WalkKit
import Derived.ProofKit
import Derived.OpenShut
namespace Go.Proofs.Ythdecejldbbiaaa.notn
open Go Go.AV Go.Proofs.S01 Go.ChangeShapes Go.WideShapes Go.ChangeAt Go.RowKit

theorem con (ys : List AV) (hl : ys.length = [t9, t3].length) (h : ∀ (j : Nat) (te : TyE), [t9, t3][j]? = some te → HasTy (cfg 48) te (ys.getD j .any)) : RCalls Try.prog [] 7 (List.zipWith wrapT [t9, t3] ys) (.bool true) := by
  match ys, hl with
  | [a, b], _ =>
    obtain ⟨s, hs, hm⟩ := has_str rfl (h 0 t9 rfl)
    obtain ⟨n, hn, hr⟩ := has_intR (k := .i64) rfl (h 1 t3 rfl)
    simp at hs hn
    subst hs hn
    have hm2 : s.length ≤ 9223372036854775807 := by
      unfold maxLen at hm
      omega
    exact (k7 s n hm2).calls (fn := Try.f7) rfl (by kernel_rfl)

theorem lifted (os : Os) (started : os.Started) (H : Type) (enc : TypeId × Value → H) :
    ReturnsInHanded {} Try.checked os 7 .any (Rows.valueNotationSpec.pre6 enc Try.prog Try.f7 Rows.valueNotationRow.domain false) (Rows.valueNotationSpec.post enc Try.prog Try.f7 false true false false) := by
  refine returnsInHanded_of_change (C := Try.checked) ownK started (by kernel_rfl) Try.func7
    (ChangeSpec.witness6 (enc := enc) (C := Try.checked) false ⟨#[], #[.string { data := #[] }, .int .i64 0], []⟩ 8 (by kernel_rfl) (by kernel_rfl) (by kernel_rfl) (by kernel_rfl)) ?_
  intro W base args ds gs before hval hW _ _
  exact law_step (C := cfg 48) (tes := [t9, t3]) (tb := 4) (cfg_ok 48) (all_known 48) rfl (by kernel_rfl) rfl (by kernel_rfl) (by decide +kernel) (by kernel_rfl) Try.underlying4
    (fun ds h => by match ds, h with | [_, _], _ => rfl) con W base args ds gs before hval hW

theorem proved : Rows.ValueNotationSaid :=
  OpenClaim.holds_of_wide 7 Try.f7 rfl rfl rfl rfl rfl rfl rfl ⟨rfl, rfl, rfl, rfl, rfl⟩ rfl rfl rfl rfl rfl (by kernel_rfl) Try.func7 (by kernel_rfl)
    (of_decide_eq_true (by kernel_rfl)) (by unfold Func.isWrapper; first | (rw [if_pos (by decide +kernel)]; kernel_rfl) | (rw [if_neg (by decide +kernel)]; exact ⟨rfl, rfl⟩))
    (fun os started H enc _ => lifted os started H enc)
end Go.Proofs.Ythdecejldbbiaaa.notn
