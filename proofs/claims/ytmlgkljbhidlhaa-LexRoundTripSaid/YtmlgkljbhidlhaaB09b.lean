/- strings.Builder's copyCheck: its contract over lent boxes. -/
import Derived.Test.YtmlgkljbhidlhaaB09a
import Derived.Test.YtmlgkljbhidlhaaAvK
namespace Go.Proofs.S09
open Go Go.AV Go.RowKit

def bSh : Shape := .agg [.leaf, .leaf]
def bld (x y : AV) : BoxC := .cell 51 bSh (.agg [x, y])

theorem Rep.ptr0_inv {w : World} {F : Nat → Prop} {φ : Nat → AV.Place} {v : Value} {b : Nat} (h : Rep w F φ v (.ptr b [])) : ∃ g, (φ b).blk = some g ∧ v = .pointer (some ⟨g, 0, none⟩) := by
  obtain ⟨g, hg, _, rfl⟩ := h.ptr_inv
  exact ⟨g, hg, rfl⟩

theorem mapSome_get {α : Type} {l : List α} {i : Nat} {c : α} (h : (l.map some)[i]? = some (some c)) : l[i]? = some c := by
  rw [List.getElem?_map] at h
  cases e : l[i]? with
  | none => rw [e] at h; simp at h
  | some d => rw [e] at h; simpa using h

theorem k39u (y : AV) (rest : List BoxC) : KnownL Try.prog [] 39 [.ptr 0 []] (bld (.ptr 0 []) y :: rest) (.tup []) ((bld (.ptr 0 []) y :: rest).map some) := by
  refine ⟨CallOK.of (fn := Try.f39) rfl (by kernel_rfl) (by kernel_rfl), ?_⟩
  intro w F φ vs hro hglob hsz hr hbox hinj
  have h0 := hr 0 (by simp)
  simp only [List.getD_cons_zero] at h0
  obtain ⟨g, hg, hv⟩ := Rep.ptr0_inv h0
  obtain ⟨h1, g', cs, h2, h3, h4, h5, h6, h7⟩ := hbox 0 _ rfl
  rw [hg] at h2; cases h2
  have hc := h7 0 (by simp [Shape.size, bSh, Shape.sizes])
  obtain ⟨g'', hg', hv'⟩ := Rep.ptr0_inv (show Rep w F φ _ (.ptr 0 []) from hc)
  rw [hg] at hg'; cases hg'
  have hcell : w.cell? ⟨g, 0, none⟩ = some (.pointer (some ⟨g, 0, none⟩)) := by
    rw [cell_of h5 (by rw [h6]; simp [Shape.size, bSh, Shape.sizes]), hv']
  have hvs : vs = #[.pointer (some ⟨g, 0, none⟩)] := by
    apply Array.ext (by simpa using hsz)
    intro i hi1 hi2
    have : i = 0 := by simp at hi2; omega
    subst this
    simpa [Array.getD_eq_getD_getElem?, hi1] using hv
  subst hvs
  refine (copyCheck_used g w hcell).mono ?_
  rintro en w' ⟨rfl, rfl⟩
  refine ⟨_, F, φ, rfl, Kept.refl _ _, fun _ h => h, fun _ h => .inl h, hro, .tup #[] [] rfl fun j hj => by simp at hj, fun i c hc => ?_, fun i i' c c' g hi hi' e e' => ?_, fun _ _ _ _ _ => rfl⟩
  · have hc := mapSome_get hc
    exact (hbox i c hc).rebase fun k hk => .inr ⟨i, (List.getElem?_eq_some_iff.1 hc).1, hk⟩
  · exact hinj i i' g (List.getElem?_eq_some_iff.1 (mapSome_get hi)).1 (List.getElem?_eq_some_iff.1 (mapSome_get hi')).1 e e'

/-- The two cells of a builder. -/
theorem two_cells {cs : Array Value} (h : cs.size = 2) {a b : Value} (h0 : cs.getD 0 undef = a) (h1 : cs.getD 1 undef = b) : cs = #[a, b] := by
  apply Array.ext (by simpa using h)
  intro i hi1 hi2
  match i with
  | 0 => simpa [Array.getD_eq_getD_getElem?, hi1] using h0
  | 1 => simpa [Array.getD_eq_getD_getElem?, hi1] using h1
  | i + 2 => simp at hi2; omega

theorem k39f : KnownL Try.prog [] 39 [.ptr 0 []] [bld .nilp .nils] (.tup []) [some (bld (.ptr 0 []) .nils)] := by
  refine ⟨CallOK.of (fn := Try.f39) rfl (by kernel_rfl) (by kernel_rfl), ?_⟩
  intro w F φ vs hro hglob hsz hr hbox hinj
  have h0 := hr 0 (by simp)
  simp only [List.getD_cons_zero] at h0
  obtain ⟨g, hg, hv⟩ := Rep.ptr0_inv h0
  obtain ⟨h1, g', cs, h2, h3, h4, h5, h6, h7⟩ := hbox 0 _ rfl
  rw [hg] at h2; cases h2
  have hsize : cs.size = 2 := h6
  have hc0 : cs.getD 0 undef = .pointer none := by
    have := h7 0 (by simp [Shape.size, bSh, Shape.sizes])
    have h : Rep w F φ (cs.getD 0 undef) .nilp := this
    generalize cs.getD 0 undef = v at h ⊢
    cases h with | stat h => cases h; rfl
  have hc1 : cs.getD 1 undef = .slice none 0 0 := by
    have := h7 1 (by simp [Shape.size, bSh, Shape.sizes])
    have h : Rep w F φ (cs.getD 1 undef) .nils := this
    generalize cs.getD 1 undef = v at h ⊢
    cases h with | stat h => cases h; rfl
  obtain rfl := two_cells hsize hc0 hc1
  have hcell : w.cell? ⟨g, 0, none⟩ = some (.pointer none) := by
    rw [cell_of h5 (by simp)]; rfl
  have hvs : vs = #[.pointer (some ⟨g, 0, none⟩)] := by
    apply Array.ext (by simpa using hsz)
    intro i hi1 hi2
    have : i = 0 := by simp at hi2; omega
    subst this
    simpa [Array.getD_eq_getD_getElem?, hi1] using hv
  subst hvs
  refine (copyCheck_fresh g w hcell (by simp [World.shape?, h5]) (Lib.frozen_of_heap h5 0)).mono ?_
  rintro en w' ⟨rfl, rfl⟩
  have hh := heap_setCell_same w g 0 _ 51 (.pointer (some ⟨g, 0, none⟩)) h5
  have hl : LentTo φ [bld .nilp .nils].length g := ⟨0, by simp, hg⟩
  have hso : ∀ k, F k → (w.setCell ⟨g, 0, none⟩ (.pointer (some ⟨g, 0, none⟩))).heap[k]? = w.heap[k]? := fun k hk => heap_setCell_other w _ k _ fun e => h4 (by simp only at e; subst e; exact hk)
  refine ⟨_, F, φ, rfl, ⟨rfl, rfl, rfl, by simp, fun k hk hn => heap_setCell_other w _ k _ fun e => hn (by simp only at e; subst e; exact hl)⟩, fun _ h => h, fun _ h => .inl h, fun k hk => by simpa using hro k hk, .tup #[] [] rfl fun j hj => by simp at hj, fun i c hc => ?_, fun i i' c c' g hi hi' e e' => ?_, fun _ _ _ _ _ => rfl⟩
  · match i, hc with
    | 0, hc =>
      simp only [List.getElem?_cons_zero, Option.some.injEq] at hc; subst hc
      refine ⟨h1, g, _, hg, .inr hl, h4, hh, by simp [Shape.size, bSh, Shape.sizes], fun j hj => ?_⟩
      match j, hj with
      | 0, _ => exact .ptr 0 g [] hg trivial
      | 1, _ => exact .stat .nils
      | j + 2, hj => exact absurd (show j + 2 < 2 from hj) (by omega)
  · match i, i', hi, hi' with
    | 0, 0, _, _ => rfl
    | i + 1, _, hi, _ => simp at hi
    | 0, i' + 1, _, hi' => simp at hi'
end Go.Proofs.S09
