/- LexRoundTrip answers true for every input; no condition. -/
import Derived.Test.YtmlgkljbhidlhaaP09h
import Derived.Test.YtmlgkljbhidlhaaL09b
import Derived.Test.YtmlgkljbhidlhaaRows
import Derived.WalkKit
import Derived.ProofKit
import Derived.OpenShut
namespace Go.Proofs.Ytmlgkljbhidlhaa.trip
open Go Go.AV Go.Proofs.S09 Go.ChangeShapes Go.WideShapes Go.ChangeAt Go.RowKit

theorem con (ys : List AV) (hl : ys.length = [t9, t22].length) (h : ∀ (j : Nat) (te : TyE), [t9, t22][j]? = some te → HasTyB (cfg 94) true te (ys.getD j .any)) : RCalls Try.prog [] 6 (List.zipWith wrapT [t9, t22] ys) (.bool true) := by
  match ys, hl with
  | [b, a], _ =>
    obtain ⟨x, hx, hx'⟩ := has_strS rfl (h 0 t9 rfl)
    obtain ⟨l, h1, h2, h3, h4⟩ := has22 (h 1 t22 rfl)
    have e : reachBytes = 140737488351232 := rfl
    simp at hx h3 h4
    subst hx
    have k := k6 x l (by omega) (by omega) (fun t ht => by have := h2 t ht; omega)
    exact (k.weaken (args' := [.str x, a]) (by simp [AV.areStat, AV.isStat, h3]) (by simp [AV.les, AV.le, h4])).calls (fn := Try.f6) rfl (by kernel_rfl)

theorem lifted (os : Os) (started : os.Started) (H : Type) (enc : TypeId × Value → H) :
    ReturnsInHanded {} Try.checked os 6 .any (Rows.lexRoundTripSpec.pre6 enc Try.prog Try.f6 Rows.lexRoundTripRow.domain false) (Rows.lexRoundTripSpec.post enc Try.prog Try.f6 false true false false) := by
  refine returnsInHanded_of_change_sized (C := Try.checked) ownK started (by kernel_rfl) Try.func6
    (ChangeSpec.witness6 (enc := enc) (C := Try.checked) false ⟨#[], #[.string { data := #[] }, .slice none 0 0], []⟩ 8 (by kernel_rfl) (by kernel_rfl) (by kernel_rfl) (by kernel_rfl)) ?_
  intro W base args ds gs before hval hW _ hsz _
  exact law_step_gs (C := cfg 94) (tes := [t9, t22]) (tb := 4) (cfg_ok 94) (all_known 94) (by kernel_rfl) rfl (by kernel_rfl) (by decide +kernel) (by kernel_rfl) Try.underlying4
    (fun ds h => by match ds, h with | [_, _], _ => rfl) con W (fun g x hg => by cases hg) base args ds gs before hval hW hsz

theorem proved : Rows.LexRoundTripSaid :=
  OpenClaim.holds_of_wide 6 Try.f6 rfl rfl rfl rfl rfl rfl rfl ⟨rfl, rfl, rfl, rfl, rfl⟩ rfl rfl rfl rfl rfl (by kernel_rfl) Try.func6 (by kernel_rfl)
    (of_decide_eq_true (by kernel_rfl)) (by unfold Func.isWrapper; first | (rw [if_pos (by decide +kernel)]; kernel_rfl) | (rw [if_neg (by decide +kernel)]; exact ⟨rfl, rfl⟩))
    (fun os started H enc _ => lifted os started H enc)
end Go.Proofs.Ytmlgkljbhidlhaa.trip
