/- ReportParses answers true for every input. -/
import Derived.Test.YtdbeklchoojpnaaDoorL52p
import Derived.Test.YtdbeklchoojpnaaDoorRows
import Derived.Test.YtdbeklchoojpnaaDoorCards
import Derived.Test.YtdbeklchoojpnaaDoorTie
import Derived.WalkKit
import Derived.ProofKit
import Derived.LaidMore
import Derived.OpenShut
import Derived.Lay
import Derived.SevenTiedAt
namespace Go.Proofs.YtdbeklchoojpnaaDoor.parses
open Go Go.AV Go.Proofs.S52 Go.ChangeShapes Go.WideShapes Go.ChangeAt Go.RowKit

def laid2 : List (String × DataW Unit) := [("unicode/utf8.acceptRanges", Rows.laid_unicode_utf8_acceptRanges), ("unicode/utf8.first", Rows.laid_unicode_utf8_first)]
theorem con (m : Int) (ys : List AV) (hl : ys.length = [t9].length) (h : ∀ (j : Nat) (te : TyE), [t9][j]? = some te → HasTy (cfgH m) te (ys.getD j .any)) : RCalls Tryd.prog (GG m) 4 (List.zipWith wrapT [t9] ys) (.bool true) := by
  match ys, hl with
  | [y], _ =>
    obtain ⟨s, hs, hm⟩ := has_str rfl (h 0 t9 rfl)
    simp at hs
    subst hs
    rw [max_eq] at hm
    exact (kL4 m s hm).calls (fn := Tryd.f4) rfl (by kernel_rfl)

theorem lifted (os : Os) (started : os.Started) (H : Type) (enc : TypeId × Value → H) :
    ReturnsInHanded {} Tryd.checked os 4 .any (fun w args => (Rows.reportParsesSpec.pre enc Tryd.prog Tryd.f4 [] false w args ∧ laidMetH Tryd.prog laid2 w) ∧ sizedMet enc Tryd.prog Tryd.f4 (OpenSpec.ofChange Rows.reportParsesSpec) false w args)
      (Rows.reportParsesSpec.post enc Tryd.prog Tryd.f4 false true false false) := by
  refine returns_laid_shaped (C := Tryd.checked) (P := Tryd.prog) (by kernel_rfl) (X := fun w _ => laidMetH Tryd.prog laid2 w) (fun _ _ _ hh h => h.of_heap hh) ownK started (by kernel_rfl) Tryd.func4
    (ChangeSpec.witness_shaped (enc := enc) (C := Tryd.checked) (os := os) (X := fun w _ => laidMetH Tryd.prog laid2 w) false (World.laidAll Tryd.prog os laid2) #[.string { data := #[] }] 8 (World.laidAll_os _ _ _)
      (World.shaped_of_ZipB (by kernel_rfl) (by kernel_rfl)) (by kernel_rfl) (by kernel_rfl) (by kernel_rfl)
      (by rw [MakeChecks.laidMetH_plain _ _ _ (by kernel_rfl)]; exact laidMet_laidAll _ (by kernel_rfl) (by kernel_rfl))) ?_
  intro W base args ds gs before hsh hval hW
  obtain ⟨m, hm⟩ := of_shape hsh
  exact law52 (tes := [t9]) m rfl (by kernel_rfl) (by decide +kernel) (by kernel_rfl)
    (fun ds h => by match ds, h with | [_], _ => rfl) (con m) W hm base args ds gs before (by with_reducible exact hval) (by with_reducible exact hW)

theorem holds : Rows.ReportParsesSaid :=
  OpenClaim.holds_of_wide 4 Tryd.f4 rfl rfl rfl rfl rfl rfl rfl ⟨rfl, rfl, rfl, rfl, rfl⟩ rfl rfl rfl rfl rfl (by kernel_rfl) Tryd.func4 (by kernel_rfl)
    (of_decide_eq_true (by kernel_rfl)) (by unfold Func.isWrapper; first | (rw [if_pos (by decide +kernel)]; kernel_rfl) | (rw [if_neg (by decide +kernel)]; exact ⟨rfl, rfl⟩))
    (fun os started H enc _ => lifted os started H enc)

theorem proved : Rows.ReportParsesCardSaid :=
  Claim7.holds_tied_plain_at .later [] [.data, .pinned] true (true, "855671a1f81f3e5e3d5ff3e50320f828ae2f20c28a07159517035b85b096d2cf") true
    holds (fun _ h => by cases h) (by kernel_rfl) (fun _ h => by cases h) reportParses_row_tie rfl ⟨rfl, rfl⟩ (by kernel_rfl) rfl
    (fun f fn hf hfn => by
      obtain rfl : f = 4 := Option.some.inj ((show Tryd.prog.funcNamed "modelcheck/modelchecklaw52.ReportParses" = some 4 by kernel_rfl).symm.trans hf) |>.symm
      obtain rfl : fn = Tryd.f4 := (Option.some.inj (Tryd.func4.symm.trans hfn)).symm
      exact ⟨by kernel_rfl, fun j t ht => by
        rw [Tryd.params4] at ht
        have hm : t ∈ [9] := by simpa using Array.mem_of_getElem? ht
        have hall : ([9].all fun u => !Tryd.prog.wantsStandIn u) = true := by kernel_rfl
        exact (show Tryd.prog.wantsStandIn t = false by simpa using List.all_eq_true.1 hall t hm)⟩)
    (by kernel_rfl)
end Go.Proofs.YtdbeklchoojpnaaDoor.parses
