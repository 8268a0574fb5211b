import Derived.Test.YtgcpdfihjmmggaaGreatDoorXzc
namespace Go.Proofs.YtgcpdfihjmmggaaGreatDoor.start
open Go Go.AV Go.Proofs.S25 Go.Proofs.YtgcpdfihjmmggaaGreatDoor.law Go.ChangeShapes Go.WideShapes Go.ChangeAt Go.RowKit
def tp : TyE := ⟨za, .agg [.nils, .nils, .nils, .nils, .nils], 120, .struct [22, 23, 23, 24, 25], false⟩
def ti : TyE := ⟨.leaf, .int .i64 0, 8, .int .i64, false⟩
def ts : TyE := ⟨stSh, .agg [.nils, .agg [.nils, .nils, .nils, .nils], .nils], 144, .struct [28, 32, 33], false⟩
theorem con (ys : List AV) (hl : ys.length = [tp, ti, ts].length) (h : ∀ (j : Nat) (te : TyE), [tp, ti, ts][j]? = some te -> HasTyB (cfgT 61) true te (ys.getD j .any)) : z76 Tryz.prog GG 3 (List.zipWith zbs [tp, ti, ts] ys) (.bool true) := by
  match ys, hl with
  | [a, b, c], _ =>
    obtain ⟨p, a1, a2, a3⟩ := zov tp rfl (h 0 tp rfl)
    obtain ⟨n, hn⟩ := z1f (k := .i64) rfl (h 1 ti rfl)
    obtain ⟨s, c1, c2, _⟩ := zmx ts rfl (h 2 ts rfl)
    simp only [List.getD_cons_zero, List.getD_cons_succ] at a1 hn c1
    subst hn
    exact ((zmz p n s a2 a3 c2).pre (args' := [.mc za a, .int .i64 n, .mc stSh c]) rfl fun w F v j hj hv => by
      match j, hj with
      | 0, _ => exact RdS.mc a1 w F v hv
      | 1, _ => exact hv
      | 2, _ => exact RdS.mc c1 w F v hv).calls (fn := Tryz.f3) Tryz.func3 (by kernel_rfl)
theorem zzl (os : Os) (started : os.Started) (H : Type) (enc : TypeId × Value -> H) :
    ReturnsInHanded {} Tryz.checked os 3 .any (fun w args => (Rows.tsoStartSpec.pre enc Tryz.prog Tryz.f3 [] false w args /\ laidMetH Tryz.prog zn0 w) /\ sizedMet enc Tryz.prog Tryz.f3 (OpenSpec.ofChange Rows.tsoStartSpec) false w args)
      (Rows.tsoStartSpec.post enc Tryz.prog Tryz.f3 false true false false) := by
  refine z8i (C := Tryz.checked) (P := Tryz.prog) (by kernel_rfl) (X := fun w _ => laidMetH Tryz.prog zn0 w) (fun _ _ _ hh h => h.of_heap hh) ownK started (by kernel_rfl) Tryz.func3
    (ChangeSpec.witness_shaped (enc := enc) (C := Tryz.checked) (os := os) (X := fun w _ => laidMetH Tryz.prog zn0 w) false (World.doorLaid Tryz.prog 400 os) #[.agg #[.slice none 0 0, .slice none 0 0, .slice none 0 0, .slice none 0 0, .slice none 0 0], .int .i64 0, .agg #[.slice none 0 0, .slice none 0 0, .slice none 0 0, .slice none 0 0, .slice none 0 0, .slice none 0 0]] 8 rfl (World.shaped_of_RefB (by kernel_rfl) (by kernel_rfl)) (by kernel_rfl) (by kernel_rfl) (by kernel_rfl) (zp1 os _)) ?_
  intro W base args ds gs before hval hW hsz hL
  exact z12u (tes := [tp, ti, ts]) rfl (by kernel_rfl) (by decide +kernel) (by kernel_rfl)
    (fun ds h => by match ds, h with | [_, _, _], _ => rfl) con W (zu8 hL) base args ds gs before (by with_reducible exact hval) (by with_reducible exact hW) (by with_reducible exact hsz)
end Go.Proofs.YtgcpdfihjmmggaaGreatDoor.start
