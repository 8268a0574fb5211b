/- Answers that own a row: how its name is turned; the contract of a function that hands back a row of its own. -/
import Derived.Test.YtmlgkljbhidlhaaAvSound10
namespace Go.AV
open Go.RowKit

mutual
/-- Box number k is called n k. -/
def AV.sub (n : Nat → Nat) : AV → AV
  | .own b k => .own (n b) k
  | .ptr b p => .ptr (n b) p
  | .optr b i p => .optr (n b) i p
  | .agg l => .agg (AV.subL n l)
  | .tup l => .tup (AV.subL n l)
  | .mc sh x => .mc sh (x.sub n)
  | x => x
def AV.subL (n : Nat → Nat) : List AV → List AV
  | [] => []
  | x :: l => x.sub n :: AV.subL n l
end
mutual
/-- No own memory but the boxes of m. -/
def AV.only0 (m : Nat → Bool) : AV → Bool
  | .own b _ | .ptr b _ | .optr b _ _ => m b
  | .agg l | .tup l => AV.only0L m l
  | .mc _ x => x.only0 m
  | .when _ _ => false
  | .clo _ l => AV.areStat l
  | _ => true
def AV.only0L (m : Nat → Bool) : List AV → Bool
  | [] => true
  | x :: l => x.only0 m && AV.only0L m l
end
/-- A value of one cell, or the mark of one. -/
def AV.leafy : AV → Bool
  | .agg _ | .arr _ _ | .mc _ _ | .tup _ | .when _ _ => false
  | _ => true

theorem sub_one (n : Nat → Nat) (x : AV) : (x.sub n).isOne = x.isOne := by cases x <;> rfl
theorem asLeaf_sub (n : Nat → Nat) (x : AV) : asLeaf (x.sub n) = (asLeaf x).sub n := by
  unfold asLeaf
  rw [sub_one]
  split <;> rfl
theorem one_leafy {x : AV} (h : x.isOne = true) : x.leafy = true := by cases x <;> first | rfl | (simp [AV.isOne] at h)
mutual
theorem leafAt_leafy : ∀ (sh : Shape) (x : AV) (j : Nat), (leafAt sh x j).leafy = true
  | .leaf, x, j => by
    simp only [leafAt, asLeaf]
    split
    · rename_i h; exact one_leafy h
    · rfl
  | .agg ss, x, j => by
    cases x with
    | agg xs => simp only [leafAt]; exact leafsAt_leafy ss xs j
    | _ => rfl
  | .arr n s, x, j => by cases x <;> rfl
theorem leafsAt_leafy : ∀ (ss : List Shape) (xs : List AV) (j : Nat), (leafsAt ss xs j).leafy = true
  | s :: ss, x :: xs, j => by
    simp only [leafsAt]
    split
    · exact leafAt_leafy s x j
    · exact leafsAt_leafy ss xs _
  | [], _, _ => rfl
  | _ :: _, [], _ => rfl
end
mutual
theorem leafAt_sub (n : Nat → Nat) : ∀ (sh : Shape) (x : AV) (j : Nat), leafAt sh (x.sub n) j = (leafAt sh x j).sub n
  | .leaf, x, j => by simp only [leafAt]; exact asLeaf_sub n x
  | .agg ss, x, j => by
    cases x with
    | agg xs => simp only [leafAt, AV.sub]; exact leafsAt_sub n ss xs j
    | _ => rfl
  | .arr m s, x, j => by cases x <;> rfl
theorem leafsAt_sub (n : Nat → Nat) : ∀ (ss : List Shape) (xs : List AV) (j : Nat), leafsAt ss (AV.subL n xs) j = (leafsAt ss xs j).sub n
  | s :: ss, x :: xs, j => by
    simp only [leafsAt, AV.subL]
    split
    · exact leafAt_sub n s x j
    · exact leafsAt_sub n ss xs _
  | [], xs, j => by cases xs <;> rfl
  | _ :: _, [], _ => rfl
end
mutual
theorem leafAt_only0 (m : Nat → Bool) : ∀ (sh : Shape) (x : AV) (j : Nat), x.only0 m = true → (leafAt sh x j).only0 m = true
  | .leaf, x, j, h => by
    simp only [leafAt, asLeaf]
    split
    · exact h
    · rfl
  | .agg ss, x, j, h => by
    cases x with
    | agg xs => simp only [leafAt]; exact leafsAt_only0 m ss xs j (by simpa [AV.only0] using h)
    | _ => rfl
  | .arr n s, x, j, h => by cases x <;> rfl
theorem leafsAt_only0 (m : Nat → Bool) : ∀ (ss : List Shape) (xs : List AV) (j : Nat), AV.only0L m xs = true → (leafsAt ss xs j).only0 m = true
  | s :: ss, x :: xs, j, h => by
    simp only [leafsAt]
    simp only [AV.only0L, Bool.and_eq_true] at h
    split
    · exact leafAt_only0 m s x j h.1
    · exact leafsAt_only0 m ss xs _ h.2
  | [], _, _, _ => rfl
  | _ :: _, [], _, _ => rfl
end

section
variable {w : World} {F : Nat → Prop} {φ φ2 : Nat → Place} {n : Nat → Nat} {m : Nat → Bool}
theorem sub_leaf (hφ : ∀ b, m b = true → φ2 (n b) = φ b) {v : Value} {y : AV} (hl : y.leafy = true) (h0 : y.only0 m = true) (h : Rep w F φ v y) : Rep w F φ2 v (y.sub n) := by
  cases h with
  | stat h => cases h <;> first | (simp [AV.leafy] at hl; done) | exact .stat (by constructor <;> assumption) | skip
  | st h => exact .st h
  | own b g k hb hn =>
    rw [← hφ b h0] at hb hn ⊢
    exact .own (n b) g k hb hn
  | own0 b hb =>
    rw [← hφ b h0] at hb
    exact .own0 (n b) hb
  | ptr b g p hb hp =>
    rw [← hφ b h0] at hb hp ⊢
    exact .ptr (n b) g p hb hp
  | optr b g i p hb hp =>
    rw [← hφ b h0] at hb hp ⊢
    exact .optr (n b) g i p hb hp
  | clo f caps l hs hc => exact .stat (Rep.toS (.clo f caps l hs hc) h0)
  | mc => simp [AV.leafy] at hl
  | tup => simp [AV.leafy] at hl
  | whenT => simp [AV.leafy] at hl
theorem sub_val (hφ : ∀ b, m b = true → φ2 (n b) = φ b) {v : Value} {y : AV} (hl : y.leafy = true ∨ ∃ sh x, y = .mc sh x) (h0 : y.only0 m = true) (h : Rep w F φ v y) : Rep w F φ2 v (y.sub n) := by
  rcases hl with hl | ⟨sh, x, rfl⟩
  · exact sub_leaf hφ hl h0 h
  · simp only [AV.only0] at h0
    cases h with
    | stat h =>
      cases h with
      | mc cs _ _ hs hr => exact .mc cs sh _ hs fun j hj => by rw [leafAt_sub]; exact sub_leaf hφ (leafAt_leafy sh x j) (leafAt_only0 m sh x j h0) (.stat (hr j hj))
    | mc cs _ _ hs hr => exact .mc cs sh _ hs fun j hj => by rw [leafAt_sub]; exact sub_leaf hφ (leafAt_leafy sh x j) (leafAt_only0 m sh x j h0) (hr j hj)
theorem inv_leaf (hφ : ∀ b, m b = true → φ2 (n b) = φ b) {v : Value} {y : AV} (hl : y.leafy = true) (h0 : y.only0 m = true) (h : Rep w F φ2 v (y.sub n)) : Rep w F φ v y := by
  cases y with
  | own b k =>
    simp only [AV.sub] at h
    cases h with
    | stat h => cases h
    | own _ g _ hb hn => rw [hφ b h0] at hb hn ⊢; exact .own b g k hb hn
    | own0 _ hb => rw [hφ b h0] at hb; exact .own0 b hb
  | ptr b p =>
    simp only [AV.sub] at h
    cases h with
    | stat h => cases h
    | ptr _ g _ hb hp => rw [hφ b h0] at hb hp ⊢; exact .ptr b g p hb hp
  | optr b i p =>
    simp only [AV.sub] at h
    cases h with
    | stat h => cases h
    | optr _ g _ _ hb hp => rw [hφ b h0] at hb hp ⊢; exact .optr b g i p hb hp
  | clo f l => exact .stat (h.toS h0)
  | agg => simp [AV.leafy] at hl
  | arr => simp [AV.leafy] at hl
  | mc => simp [AV.leafy] at hl
  | tup => simp [AV.leafy] at hl
  | «when» => simp [AV.leafy] at hl
  | _ => exact .stat (h.toS rfl)
theorem inv_val (hφ : ∀ b, m b = true → φ2 (n b) = φ b) {v : Value} {y : AV} (hl : y.leafy = true ∨ ∃ sh x, y = .mc sh x) (h0 : y.only0 m = true) (h : Rep w F φ2 v (y.sub n)) : Rep w F φ v y := by
  rcases hl with hl | ⟨sh, x, rfl⟩
  · exact inv_leaf hφ hl h0 h
  · simp only [AV.only0] at h0
    simp only [AV.sub] at h
    cases h with
    | stat h =>
      cases h with
      | mc cs _ _ hs hr =>
        refine .mc cs sh _ hs fun j hj => ?_
        have := hr j hj
        rw [leafAt_sub] at this
        exact inv_leaf hφ (leafAt_leafy sh x j) (leafAt_only0 m sh x j h0) (.stat this)
    | mc cs _ _ hs hr =>
      refine .mc cs sh _ hs fun j hj => ?_
      have := hr j hj
      rw [leafAt_sub] at this
      exact inv_leaf hφ (leafAt_leafy sh x j) (leafAt_only0 m sh x j h0) this

/-- An answer, or several. -/
def isVal : AV → Bool
  | .mc _ _ => true
  | y => y.leafy
theorem isVal_or {y : AV} (h : isVal y = true) : y.leafy = true ∨ ∃ sh x, y = .mc sh x := by
  cases y <;> first | exact .inl h | exact .inr ⟨_, _, rfl⟩
def areVals : List AV → Bool
  | [] => true
  | x :: l => isVal x && areVals l
theorem areVals_getD : ∀ {l : List AV} {j : Nat}, areVals l = true → j < l.length → isVal (l.getD j .any) = true
  | x :: l, 0, h, _ => by simp only [areVals, Bool.and_eq_true] at h; simpa using h.1
  | x :: l, j + 1, h, hj => by simp only [areVals, Bool.and_eq_true] at h; simpa using areVals_getD h.2 (by simpa using hj)
  | [], _, _, hj => by simp at hj
theorem only0L_getD {m : Nat → Bool} : ∀ {l : List AV} {j : Nat}, AV.only0L m l = true → j < l.length → (l.getD j .any).only0 m = true
  | x :: l, 0, h, _ => by simp only [AV.only0L, Bool.and_eq_true] at h; simpa using h.1
  | x :: l, j + 1, h, hj => by simp only [AV.only0L, Bool.and_eq_true] at h; simpa using only0L_getD h.2 (by simpa using hj)
  | [], _, _, hj => by simp at hj
theorem subL_getD (n : Nat → Nat) : ∀ (l : List AV) (j : Nat), j < l.length → (AV.subL n l).getD j .any = (l.getD j .any).sub n
  | x :: l, 0, _ => rfl
  | x :: l, j + 1, hj => by simpa [AV.subL] using subL_getD n l j (by simpa using hj)
  | [], _, hj => by simp at hj
theorem subL_len (n : Nat → Nat) : ∀ l : List AV, (AV.subL n l).length = l.length
  | [] => rfl
  | x :: l => by simp [AV.subL, subL_len n l]
/-- Below a number. -/
def below (k : Nat) (b : Nat) : Bool := Nat.blt b k
/-- The answers that the boxes of m may come with. -/
def goodRes (m : Nat → Bool) : AV → Bool
  | .tup l => areVals l && AV.only0L m l
  | y => isVal y && y.only0 m

theorem sub_res (hφ : ∀ b, m b = true → φ2 (n b) = φ b) {v : Value} {y : AV} (hg : goodRes m y = true) (h : Rep w F φ v y) : Rep w F φ2 v (y.sub n) := by
  cases y with
  | tup l =>
    simp only [goodRes, Bool.and_eq_true] at hg
    cases h with
    | stat h => cases h
    | tup vs _ hs hc =>
      refine .tup vs _ (by rw [subL_len]; exact hs) fun j hj => ?_
      rw [subL_len] at hj
      rw [subL_getD n l j hj]
      exact sub_val hφ (isVal_or (areVals_getD hg.1 hj)) (only0L_getD hg.2 hj) (hc j hj)
  | _ =>
    simp only [goodRes, Bool.and_eq_true] at hg
    exact sub_val hφ (isVal_or hg.1) hg.2 h
theorem inv_res (hφ : ∀ b, m b = true → φ2 (n b) = φ b) {v : Value} {y : AV} (hg : goodRes m y = true) (h : Rep w F φ2 v (y.sub n)) : Rep w F φ v y := by
  cases y with
  | tup l =>
    simp only [goodRes, Bool.and_eq_true] at hg
    simp only [AV.sub] at h
    cases h with
    | stat h => cases h
    | tup vs _ hs hc =>
      rw [subL_len] at hs hc
      refine .tup vs _ hs fun j hj => ?_
      have := hc j hj
      rw [subL_getD n l j hj] at this
      exact inv_val hφ (isVal_or (areVals_getD hg.1 hj)) (only0L_getD hg.2 hj) this
  | _ =>
    simp only [goodRes, Bool.and_eq_true] at hg
    exact inv_val hφ (isVal_or hg.1) hg.2 h
end

/-- A CONTRACT: the answer reads as r; the rows 0, 1, .. in it are the function's own making, handed over, and read as cs. -/
def RFresh (P : Program) (G : List (Nat × AV)) (f : FuncId) (args : List AV) (r : AV) (cs : List BoxC) : Prop :=
  ∀ (w : World) (F : Nat → Prop) (vs : Array Value), (∀ k, F k → k < w.heap.size) → (∀ g x, get G g = some x → RepS w F (.pointer (some ⟨g, 0, none⟩)) x) → vs.size = args.length →
    (∀ j, j < args.length → RepS w F (vs.getD j undef) (args.getD j .any)) →
    Calls P f vs w fun en w' => ∃ v F' φ', en = .returned v ∧ Below w.heap.size w w' ∧ (∀ k, F k → F' k) ∧ (∀ k, F' k → F k ∨ w.heap.size ≤ k) ∧ (∀ k, F' k → k < w'.heap.size) ∧ Rep w' F' φ' v r ∧
      (∀ i c, cs[i]? = some c → BoxOK w' F' φ' (fun k => w.heap.size ≤ k) i c) ∧ ∀ i i' g, i < cs.length → i' < cs.length → (φ' i).blk = some g → (φ' i').blk = some g → i = i'

/- The same of boxes. -/
def BoxC.sub (n : Nat → Nat) : BoxC → BoxC
  | .cell tc sh x => .cell tc sh (x.sub n)
  | c => c
def BoxC.only (m : Nat → Bool) : BoxC → Bool
  | .cell _ _ x => x.only0 m
  | _ => true
section
variable {w : World} {F : Nat → Prop} {φ φ2 : Nat → Place} {n : Nat → Nat} {m : Nat → Bool} {B : Nat → Prop}
theorem box_sub (hφ : ∀ b, m b = true → φ2 (n b) = φ b) {i : Nat} {c : BoxC} (hi : m i = true) (h0 : c.only m = true) (h : BoxOK w F φ B i c) : BoxOK w F φ2 B (n i) (c.sub n) := by
  cases c with
  | cell tc sh x =>
    obtain ⟨h1, g, cs, h2, h3, h4, h5, h6, h7⟩ := h
    refine ⟨by rw [hφ i hi]; exact h1, g, cs, by rw [hφ i hi]; exact h2, h3, h4, h5, h6, fun j hj => ?_⟩
    rw [leafAt_sub]
    exact sub_leaf hφ (leafAt_leafy sh x j) (leafAt_only0 m sh x j h0) (h7 j hj)
  | row ty sh k f =>
    obtain ⟨h1, h2, h3⟩ := h
    exact ⟨by rw [hφ i hi]; exact h1, by rw [hφ i hi]; exact h2, by rw [hφ i hi]; exact h3⟩
theorem box_inv (hφ : ∀ b, m b = true → φ2 (n b) = φ b) {i : Nat} {c : BoxC} (hi : m i = true) (h0 : c.only m = true) (h : BoxOK w F φ2 B (n i) (c.sub n)) : BoxOK w F φ B i c := by
  cases c with
  | cell tc sh x =>
    obtain ⟨h1, g, cs, h2, h3, h4, h5, h6, h7⟩ := h
    rw [hφ i hi] at h1 h2
    refine ⟨h1, g, cs, h2, h3, h4, h5, h6, fun j hj => ?_⟩
    have := h7 j hj
    rw [leafAt_sub] at this
    exact inv_leaf hφ (leafAt_leafy sh x j) (leafAt_only0 m sh x j h0) this
  | row ty sh k f =>
    obtain ⟨h1, h2, h3⟩ := h
    rw [hφ i hi] at h1 h2 h3
    exact ⟨h1, h2, h3⟩
end

/-- A block of one of the first boxes of the list. -/
def LentTo (φ : Nat → Place) (k : Nat) (g : Nat) : Prop := ∃ i, i < k ∧ (φ i).blk = some g

/-- A CONTRACT with lent boxes: called with arguments that name the boxes 0, 1, .., which read as hs, it answers r; the boxes then read as hs' (none: gone), and what follows there is its own making, handed over. Cells stay where they lie. -/
def RLent (P : Program) (G : List (Nat × AV)) (f : FuncId) (args : List AV) (hs : List BoxC) (r : AV) (hs' : List (Option BoxC)) : Prop :=
  ∀ (w : World) (F : Nat → Prop) (φ : Nat → Place) (vs : Array Value), (∀ k, F k → k < w.heap.size) → (∀ g x, get G g = some x → RepS w F (.pointer (some ⟨g, 0, none⟩)) x) → vs.size = args.length →
    (∀ j, j < args.length → Rep w F φ (vs.getD j undef) (args.getD j .any)) → (∀ i c, hs[i]? = some c → BoxOK w F φ (fun _ => True) i c) →
    (∀ i i' g, i < hs.length → i' < hs.length → (φ i).blk = some g → (φ i').blk = some g → i = i') →
    Calls P f vs w fun en w' => ∃ v F' φ', en = .returned v ∧ Kept (LentTo φ hs.length) w w' ∧ (∀ k, F k → F' k) ∧ (∀ k, F' k → F k ∨ w.heap.size ≤ k ∨ LentTo φ hs.length k) ∧ (∀ k, F' k → k < w'.heap.size) ∧ Rep w' F' φ' v r ∧
      (∀ i c, hs'[i]? = some (some c) → BoxOK w' F' φ' (fun k => w.heap.size ≤ k ∨ LentTo φ hs.length k) i c) ∧
      (∀ i i' c c' g, hs'[i]? = some (some c) → hs'[i']? = some (some c') → (φ' i).blk = some g → (φ' i').blk = some g → i = i') ∧
      ∀ i tc sh x, hs[i]? = some (.cell tc sh x) → φ' i = φ i
end Go.AV
