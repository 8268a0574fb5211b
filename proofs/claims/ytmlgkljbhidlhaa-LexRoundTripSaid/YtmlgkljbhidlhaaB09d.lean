/- strings.Builder's String: its contract over lent boxes. -/
import Derived.Test.YtmlgkljbhidlhaaB09b
import Derived.Test.YtmlgkljbhidlhaaB09c
namespace Go.Proofs.S09
open Go Go.AV Go.RowKit

def brow (l : List UInt8) : BoxC := .row 5 .leaf l.length (strRow l)

theorem heap_freeze_other (w : World) (a : Addr) (n k : Nat) (h : k ≠ a.block) : (w.freeze a n).heap[k]? = w.heap[k]? := by
  unfold World.freeze
  split
  · rfl
  · simp only [Array.getElem?_modify]
    rw [if_neg (fun e => h e.symm)]
theorem size_freeze (w : World) (a : Addr) (n : Nat) : (w.freeze a n).heap.size = w.heap.size := by
  unfold World.freeze
  split <;> simp
theorem rest_freeze (w : World) (a : Addr) (n : Nat) : (w.freeze a n).os = w.os ∧ (w.freeze a n).tape = w.tape ∧ (w.freeze a n).output = w.output := by
  unfold World.freeze
  split <;> exact ⟨rfl, rfl, rfl⟩

theorem bld_cells {w : World} {F : Nat → Prop} {φ : Nat → AV.Place} {B : Nat → Prop} {x y : AV} {v : Value} (hb : BoxOK w F φ B 0 (bld x y)) (hv : Rep w F φ v (.ptr 0 [])) :
    ∃ g p u, (φ 0).blk = some g ∧ v = .pointer (some ⟨g, 0, none⟩) ∧ w.heap[g]? = some (.cells #[p, u] 51 (0, 0)) ∧ Rep w F φ p (asLeaf x) ∧ Rep w F φ u (asLeaf y) := by
  obtain ⟨g, hg, rfl⟩ := Rep.ptr0_inv hv
  obtain ⟨h1, g', cs, h2, h3, h4, h5, h6, h7⟩ := hb
  rw [hg] at h2; cases h2
  have hsize : cs.size = 2 := h6
  have e := two_cells (cs := cs) hsize rfl rfl
  rw [e] at h5
  exact ⟨g, _, _, hg, rfl, h5, h7 0 (by rw [← h6, hsize]; decide), h7 1 (by rw [← h6, hsize]; decide)⟩

theorem one_arg {vs : Array Value} {v : Value} (h : vs.size = 1) (hv : vs.getD 0 undef = v) : vs = #[v] := by
  apply Array.ext (by simpa using h)
  intro i hi1 hi2
  have : i = 0 := by simp at hi2; omega
  subst this
  simpa [Array.getD_eq_getD_getElem?, hi1] using hv

theorem k25n (x : AV) : KnownL Try.prog [] 25 [.ptr 0 []] [bld x .nils] (.str []) [none] := by
  refine ⟨CallOK.of (fn := Try.f25) rfl (by kernel_rfl) (by kernel_rfl), ?_⟩
  intro w F φ vs hro hglob hsz hr hbox hinj
  obtain ⟨g, p, u, hg, hv, hw, _, hu⟩ := bld_cells (hbox 0 _ rfl) (hr 0 (by simp))
  obtain rfl := one_arg hsz hv
  have hu : u = .slice none 0 0 := by
    have h : Rep w F φ u .nils := hu
    cases h with | stat h => cases h; rfl
  subst hu
  refine (string_nil g p w hw).mono ?_
  rintro en w' ⟨rfl, rfl⟩
  exact ⟨_, F, φ, rfl, ⟨rfl, rfl, rfl, Nat.le_refl _, fun _ _ _ => rfl⟩, fun _ h => h, fun _ h => .inl h, hro, .stat (.str ⟨#[]⟩), fun i c hc => by
    match i with
    | 0 => simp at hc
    | i + 1 => simp at hc, fun i i' c c' g hc _ _ _ => by
    match i with
    | 0 => simp at hc
    | i + 1 => simp at hc, fun _ _ _ _ _ => rfl⟩

theorem k25 (x : AV) (l : List UInt8) : KnownL Try.prog [] 25 [.ptr 0 []] [bld x (.own 1 l.length), brow l] (.str l) [none, none] := by
  refine ⟨CallOK.of (fn := Try.f25) rfl (by kernel_rfl) (by kernel_rfl), ?_⟩
  intro w F φ vs hro hglob hsz hr hbox hinj
  obtain ⟨g, p, u, hg, hv, hw, _, hu⟩ := bld_cells (hbox 0 _ rfl) (hr 0 (by simp))
  obtain rfl := one_arg hsz hv
  have hu : Rep w F φ u (.own 1 l.length) := hu
  have nobox : ∀ (i : Nat) (c : BoxC), ([none, none] : List (Option BoxC))[i]? = some (some c) → False := fun i c hc => by
    match i with
    | 0 => simp at hc
    | 1 => simp at hc
    | i + 2 => simp at hc
  have post : ∀ (w' : World) (s : ByteArray), s.data.toList = l → Kept (LentTo φ 2) w w' → ∃ v F' φ', (Ending.returned (.string s)) = Ending.returned v ∧ Kept (LentTo φ 2) w w' ∧ (∀ k, F k → F' k) ∧ (∀ k, F' k → F k ∨ w.heap.size ≤ k ∨ LentTo φ 2 k) ∧ (∀ k, F' k → k < w'.heap.size) ∧ Rep w' F' φ' v (.str l) ∧
      (∀ i c, ([none, none] : List (Option BoxC))[i]? = some (some c) → BoxOK w' F' φ' (fun k => w.heap.size ≤ k ∨ LentTo φ 2 k) i c) ∧
      (∀ i i' c c' g, ([none, none] : List (Option BoxC))[i]? = some (some c) → ([none, none] : List (Option BoxC))[i']? = some (some c') → (φ' i).blk = some g → (φ' i').blk = some g → i = i') ∧
      ∀ i tc sh y, [bld x (.own 1 l.length), brow l][i]? = some (.cell tc sh y) → φ' i = φ i := fun w' s hs hk =>
    ⟨_, F, φ, rfl, hk, fun _ h => h, fun _ h => .inl h, fun k hk' => Nat.lt_of_lt_of_le (hro k hk') hk.size, .stat (by rw [← hs]; exact .str s), fun i c hc => (nobox i c hc).elim, fun i i' c c' g hc _ _ _ => (nobox i c hc).elim, fun _ _ _ _ _ => rfl⟩
  have hrow := hbox 1 _ rfl
  obtain ⟨r1, r2, r3⟩ := hrow
  rcases hu.own_inv with ⟨g2, hg2, rfl, hc2⟩ | ⟨hg2, h0, rfl⟩
  · rcases r3 with ⟨r3, _⟩ | ⟨g3, cs, r3, _, _, r4, r5, r6, r7, r8⟩
    · rw [hg2] at r3; cases r3
    · rw [hg2] at r3; cases r3
      simp only [Shape.size, Nat.mul_one] at r5
      by_cases hl : l = []
      · subst hl
        by_cases hc0 : (φ 1).cap = 0
        · rw [hc0] at hw
          refine (string_noroom g g2 p cs w hw r4).mono ?_
          rintro en w' ⟨rfl, rfl⟩
          exact post _ _ rfl ⟨rfl, rfl, rfl, by simp, fun k hk _ => by simp [World.alloc, Array.getElem?_push, show k ≠ w.heap.size by omega]; rfl⟩
        · refine (string_room g g2 _ p w hc0 hw).mono ?_
          rintro en w' ⟨rfl, rfl⟩
          exact post _ _ rfl ⟨rfl, rfl, rfl, Nat.le_refl _, fun _ _ _ => rfl⟩
      · refine (string_some g g2 _ p cs l w hl hw r4 hc2 r7 r5 fun j y hj => ?_).mono ?_
        · have hj' := (List.getElem?_eq_some_iff.1 hj).1
          have := r8 j hj' 0 (by simp [Shape.size])
          simp only [Shape.size, Nat.mul_one, Nat.add_zero, leafAt, strRow, asLeaf, AV.isOne] at this
          rw [cell_of r4 (by omega)]
          generalize cs.getD j undef = v at this ⊢
          cases this with
          | int _ _ _ => simp [List.getD_eq_getElem?_getD, hj]
        · rintro en w' ⟨rfl, rfl⟩
          exact post _ _ rfl ⟨(rest_freeze _ _ _).1, (rest_freeze _ _ _).2.1, (rest_freeze _ _ _).2.2, Nat.le_of_eq (size_freeze w.drew _ _).symm, fun k hk hn => (heap_freeze_other _ _ _ k fun e => hn ⟨1, by decide, by simp only at e; subst e; exact hg2⟩).trans rfl⟩
  · have hl : l = [] := List.eq_nil_of_length_eq_zero h0
    subst hl
    refine (string_nil g p w hw).mono ?_
    rintro en w' ⟨rfl, rfl⟩
    exact post _ _ rfl ⟨rfl, rfl, rfl, Nat.le_refl _, fun _ _ _ => rfl⟩
end Go.Proofs.S09
