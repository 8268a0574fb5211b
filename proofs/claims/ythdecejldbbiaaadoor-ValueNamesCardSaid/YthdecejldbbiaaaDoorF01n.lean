/- ValueNames answers true for every input; the package variable value.names holds what the program's text lays there. -/
import Derived.Test.YthdecejldbbiaaaDoorP01n
import Derived.Test.YthdecejldbbiaaaDoorAvLawG
import Derived.Test.YthdecejldbbiaaaDoorRows
import Derived.Test.YthdecejldbbiaaaDoorCards
import Derived.Test.YthdecejldbbiaaaDoorTie
import Derived.WalkKit
import Derived.ProofKit
import Derived.LaidMore
import Derived.OpenShut
import Derived.SevenTiedAt
namespace Go.Proofs.YthdecejldbbiaaaDoor.names
open Go Go.AV Go.Proofs.S01N Go.ChangeShapes Go.WideShapes Go.ChangeAt Go.RowKit

def t9 : TyE := ⟨.leaf, .str [], 16, .string, false⟩
def t22 : TyE := ⟨.leaf, .int .i64 0, 8, .int .i64, false⟩
theorem ownK : ownKnob Tryd.prog.godebug = none := by kernel_rfl
theorem all_known (n : Nat) : AllKnown (cfg n) := by
  intro t te ht
  have := get_mem ht
  simp only [cfg, TT, List.mem_cons, Prod.mk.injEq, List.not_mem_nil, or_false] at this
  rcases this with ⟨_, rfl⟩ | ⟨_, rfl⟩ | ⟨_, rfl⟩ | ⟨_, rfl⟩ | ⟨_, rfl⟩ | ⟨_, rfl⟩ | ⟨_, rfl⟩ | ⟨_, rfl⟩ | ⟨_, rfl⟩ <;> trivial
def laid1 : List (String × DataW Unit) := [("modelcheck/value.names", Rows.laid_modelcheck_value_names)]
theorem gN : Tryd.prog.globalNamed "modelcheck/value.names" = some 0 := by kernel_rfl
theorem tN : (Tryd.prog.globals[0]?).map (·.type) = some 32 := by kernel_rfl
theorem u32 : Tryd.prog.underlying 32 = some (.array 10 9) := by kernel_rfl
theorem u9 : Tryd.prog.underlying 9 = some .string := by kernel_rfl
theorem c9 : Tryd.prog.cellsOf 9 = 1 := by kernel_rfl
theorem c32 : Tryd.prog.cellsOf 32 = 10 := by kernel_rfl

theorem of_laid {W : World} (h : laidMetH Tryd.prog laid1 W) : ∀ g x, get GG g = some x → RepS W (Old W) (.pointer (some ⟨g, 0, none⟩)) x := by
  rw [MakeChecks.laidMetH_plain _ _ _ (by kernel_rfl)] at h
  obtain ⟨ps, ⟨g0, t0, cs0, f0, p0, q0, hg0, ht0, hv0, hd0, _, _⟩, _, _⟩ := h
  obtain rfl := Option.some.inj (gN.symm.trans hg0)
  obtain rfl := Option.some.inj (tN.symm.trans ht0)
  obtain ⟨xs, m, rfl, hx, hlen, hxl, hel⟩ := DataW.trod_array u32 hd0
  have hcell := World.var?_cell hg0 hv0
  rw [c32] at hlen
  have hstr : ∀ j, j < 10 → ∃ s : ByteArray, cs0[j]? = some (.string s) ∧ s.data.toList = nameL.getD j [] := fun j hj => by
    have h1 := hel j hj
    rw [c9] at h1
    obtain ⟨y, hy⟩ : ∃ y, xs[j]? = some y := ⟨xs[j], by simp [hxl, hj]⟩
    rw [hy] at h1
    obtain ⟨s, e1, e2, _⟩ := DataW.trod_string u9 h1
    refine ⟨s, ?_, ?_⟩
    · have hjl : j < cs0.toList.length := by omega
      rw [Nat.mul_one, List.drop_eq_getElem_cons hjl] at e1
      simp only [List.take_succ_cons, List.take_zero, List.cons.injEq, and_true] at e1
      rw [← Array.getElem?_toList, List.getElem?_eq_getElem hjl, e1]
    · simp only [Rows.laid_modelcheck_value_names, Prod.mk.injEq, DataW.agg.injEq] at hx
      have hx1 := congrArg (fun l => l[j]?) hx.1
      simp only [List.getElem?_map, hy, Option.map_some, e2] at hx1
      match j, hj, hx1 with
      | 0, _, hx1 | 1, _, hx1 | 2, _, hx1 | 3, _, hx1 | 4, _, hx1 | 5, _, hx1 | 6, _, hx1 | 7, _, hx1 | 8, _, hx1 | 9, _, hx1 =>
        simp at hx1
        rw [← hx1]
        rfl
      | j + 10, hj, _ => exact absurd hj (by omega)
  have hold : Old W 0 := by
    obtain ⟨s, e, _⟩ := hstr 0 (by decide)
    have := hcell 0
    rw [e] at this
    unfold Old
    rcases Nat.lt_or_ge 0 W.heap.size with h | h
    · exact h
    · simp [World.cell?, Array.getElem?_eq_none h] at this
  intro g x hgx
  simp only [GG, AV.get] at hgx
  split at hgx
  case h_2 => cases hgx
  rename_i hb
  cases hgx
  have hb := Nat.eq_of_beq_eq_true hb
  subst hb
  refine .rptr 0 0 _ _ (fun j => (cs0[j]?).getD undef) hold (fun j hj => ?_) fun j hj => ?_
  · simp only [Shape.size, Nat.mul_one] at hj
    obtain ⟨s, e, _⟩ := hstr j hj
    rw [Nat.zero_add, hcell j, e]
    rfl
  · simp only [Shape.size, Nat.mul_one] at hj
    obtain ⟨s, e, hs⟩ := hstr j hj
    simp only [leafAt, Shape.size, Nat.div_one, asLeaf, AV.isOne, e, Option.getD_some]
    rw [← hs]
    exact .st (.str s)

theorem con (ys : List AV) (hl : ys.length = [t9, t22].length) (h : ∀ (j : Nat) (te : TyE), [t9, t22][j]? = some te → HasTy (cfg 61) te (ys.getD j .any)) : RCalls Tryd.prog GG 3 (List.zipWith wrapT [t9, t22] ys) (.bool true) := by
  match ys, hl with
  | [a, b], _ =>
    obtain ⟨s, hs, hm⟩ := has_str rfl (h 0 t9 rfl)
    obtain ⟨n, hn⟩ := has_int (k := .i64) rfl (h 1 t22 rfl)
    simp at hs hn
    subst hs hn
    have hm2 : s.length ≤ 9223372036854775807 := by
      unfold maxLen at hm
      omega
    exact (k3 s n hm2).calls (fn := Tryd.f3) rfl (by kernel_rfl)

theorem door_met (os : Os) (args : Array Value) : laidMetH Tryd.prog laid1 ((World.doorLaid Tryd.prog 400 os).forCall (fun _ _ => 0) ⟨#[], args, []⟩).memory :=
  laidMetH_of_parts3 (fuel := 8) (laidMet_of_run' 8 (by kernel_rfl) (by kernel_rfl)) (by kernel_rfl) (by kernel_rfl)

theorem lifted (os : Os) (started : os.Started) (H : Type) (enc : TypeId × Value → H) :
    ReturnsInHanded {} Tryd.checked os 3 .any (fun w args => (Rows.valueNamesSpec.pre enc Tryd.prog Tryd.f3 [] false w args ∧ laidMetH Tryd.prog laid1 w) ∧ sizedMet enc Tryd.prog Tryd.f3 (OpenSpec.ofChange Rows.valueNamesSpec) false w args)
      (Rows.valueNamesSpec.post enc Tryd.prog Tryd.f3 false true false false) := by
  refine returnsInHanded_of_change_and (C := Tryd.checked) (X := fun w _ => laidMetH Tryd.prog laid1 w) (fun _ _ _ hh h => h.of_heap hh) ownK started (by kernel_rfl) Tryd.func3
    (ChangeSpec.witness_shaped (enc := enc) (C := Tryd.checked) (os := os) (X := fun w _ => laidMetH Tryd.prog laid1 w) false (World.doorLaid Tryd.prog 400 os) #[.string { data := #[] }, .int .i64 0] 8 rfl (World.shaped_of_RefB (by kernel_rfl) (by kernel_rfl)) (by kernel_rfl) (by kernel_rfl) (by kernel_rfl) (door_met os _)) ?_
  intro W base args ds gs before hval hW _ _ hL _
  exact law_step_g (C := cfg 61) (tes := [t9, t22]) (tb := 4) (cfg_ok 61) (all_known 61) (by kernel_rfl) rfl (by kernel_rfl) (by decide +kernel) (by kernel_rfl) Tryd.underlying4
    (fun ds h => by match ds, h with | [_, _], _ => rfl) con W (of_laid hL) base args ds gs before hval hW

theorem holds : Rows.ValueNamesSaid :=
  OpenClaim.holds_of_wide 3 Tryd.f3 rfl rfl rfl rfl rfl rfl rfl ⟨rfl, rfl, rfl, rfl, rfl⟩ rfl rfl rfl rfl rfl (by kernel_rfl) Tryd.func3 (by kernel_rfl)
    (of_decide_eq_true (by kernel_rfl)) (by unfold Func.isWrapper; first | (rw [if_pos (by decide +kernel)]; kernel_rfl) | (rw [if_neg (by decide +kernel)]; exact ⟨rfl, rfl⟩))
    (fun os started H enc _ => lifted os started H enc)

theorem proved : Rows.ValueNamesCardSaid :=
  Claim7.holds_tied_plain_at .later [] [.data] true (true, "ab331eb50e465415192e58c4d94db3c793646a7b66568a9d92a076ff7a1e05fc") false
    holds (fun _ h => by cases h) (by kernel_rfl) (fun _ h => by cases h) valueNames_row_tie rfl ⟨rfl, rfl⟩ (by kernel_rfl) rfl
    (fun f fn hf hfn => by
      obtain rfl : f = 3 := Option.some.inj ((show Tryd.prog.funcNamed "modelcheck/modelchecklaw01.ValueNames" = some 3 by kernel_rfl).symm.trans hf) |>.symm
      obtain rfl : fn = Tryd.f3 := (Option.some.inj (Tryd.func3.symm.trans hfn)).symm
      exact ⟨by kernel_rfl, fun j t ht => by
        rw [Tryd.params3] at ht
        have hm : t ∈ [9, 22] := by simpa using Array.mem_of_getElem? ht
        have hall : ([9, 22].all fun u => !Tryd.prog.wantsStandIn u) = true := by kernel_rfl
        exact (show Tryd.prog.wantsStandIn t = false by simpa using List.all_eq_true.1 hall t hm)⟩)
    (by kernel_rfl)
end Go.Proofs.YthdecejldbbiaaaDoor.names
