/- An abstract reading of values and memory: plain data, read-only rows, and boxes of the call's own; how it is kept when memory grows. -/
import Derived.WalkKit
import Derived.WalkLawsBesides
namespace Go.AV
open Go.RowKit

inductive Shape where
  | leaf
  | agg (l : List Shape)
  | arr (n : Nat) (s : Shape)

mutual
def Shape.size : Shape → Nat
  | .leaf => 1
  | .agg l => Shape.sizes l
  | .arr n s => n * s.size
def Shape.sizes : List Shape → Nat
  | [] => 0
  | s :: l => s.size + Shape.sizes l
end

mutual
def Shape.same : Shape → Shape → Bool
  | .leaf, .leaf => true
  | .agg l, .agg m => Shape.sames l m
  | .arr n s, .arr m t => Nat.beq n m && s.same t
  | _, _ => false
def Shape.sames : List Shape → List Shape → Bool
  | [], [] => true
  | s :: l, t :: m => s.same t && Shape.sames l m
  | _, _ => false
end

mutual
theorem Shape.same_eq : ∀ (s t : Shape), s.same t = true → s = t
  | .leaf, .leaf, _ => rfl
  | .agg l, .agg m, h => by rw [Shape.sames_eq l m (by simpa [Shape.same] using h)]
  | .arr n s, .arr m t, h => by
    simp only [Shape.same, Bool.and_eq_true] at h
    rw [Nat.eq_of_beq_eq_true h.1, Shape.same_eq s t h.2]
  | .leaf, .agg _, h | .leaf, .arr _ _, h | .agg _, .leaf, h | .agg _, .arr _ _, h | .arr _ _, .leaf, h | .arr _ _, .agg _, h => by simp [Shape.same] at h
theorem Shape.sames_eq : ∀ (l m : List Shape), Shape.sames l m = true → l = m
  | [], [], _ => rfl
  | s :: l, t :: m, h => by
    simp only [Shape.sames, Bool.and_eq_true] at h
    rw [Shape.same_eq s t h.1, Shape.sames_eq l m h.2]
  | [], _ :: _, h | _ :: _, [], h => by simp [Shape.sames] at h
end

def Shape.isAgg : Shape → Bool
  | .leaf => false
  | _ => true

inductive AV where
  | any
  | int (k : IntKind) (n : Int)
  | bool (b : Bool)
  | str (l : List UInt8)
  | nils
  | nilp
  | seq (sh : Shape) (n : Nat) (f : Nat → AV)
  | seqc (sh : Shape) (n : Nat) (f : Nat → AV)
  | rptr (sh : Shape) (x : AV)
  | own (b : Nat) (n : Nat)
  | ptr (b : Nat) (path : List Nat)
  | optr (b : Nat) (i : Nat) (path : List Nat)
  | clo (f : FuncId) (caps : List AV)
  | agg (l : List AV)
  | arr (n : Nat) (f : Nat → AV)
  | mc (sh : Shape) (x : AV)
  | tup (l : List AV)
  | st (x : AV)
  | when (q : Bool) (x : AV)

/-- A value of one cell. -/
def AV.isOne : AV → Bool
  | .agg _ | .arr _ _ | .mc _ _ | .tup _ | .st _ | .when _ _ => false
  | _ => true
def asLeaf (x : AV) : AV := match x.isOne with | true => x | false => .any

/- The one cell number j of a tree of the given shape. -/
mutual
def leafAt : Shape → AV → Nat → AV
  | .leaf, x, _ => asLeaf x
  | .agg ss, .agg xs, j => leafsAt ss xs j
  | .arr _ s, .arr _ f, j => .st (leafAt s (f (j / s.size)) (j % s.size))
  | _, _, _ => .any
def leafsAt : List Shape → List AV → Nat → AV
  | s :: ss, x :: xs, j => if j < s.size then leafAt s x j else leafsAt ss xs (j - s.size)
  | _, _, _ => .any
end

/-- Where a part lies, and whether it is there. -/
def pathOff : List Nat → Shape → Nat
  | [], _ => 0
  | i :: p, .agg ss => Shape.sizes (ss.take i) + (match ss[i]? with | some s => pathOff p s | none => 0)
  | i :: p, .arr _ s => i * s.size + pathOff p s
  | _ :: _, .leaf => 0

def pathSh : List Nat → Shape → Option Shape
  | [], s => some s
  | i :: p, .agg ss => match ss[i]? with | some s => pathSh p s | none => none
  | _ :: p, .arr _ s => pathSh p s
  | _ :: _, .leaf => none

def pathOK : List Nat → Shape → Prop
  | [], _ => True
  | i :: p, .agg ss => match ss[i]? with | some s => pathOK p s | none => False
  | i :: p, .arr n s => i < n ∧ pathOK p s
  | _ :: _, .leaf => False

def nav : List Nat → Shape → AV → Option AV
  | [], _, x => some x
  | i :: p, .agg ss, .agg xs => match ss[i]? with
    | some s => match xs[i]? with
      | some x => nav p s x
      | none => none
    | none => none
  | i :: p, .arr _ s, .arr _ f => nav p s (f i)
  | _ :: _, _, _ => none

/- No box of the call's own is named. -/
mutual
def AV.isStat : AV → Bool
  | .own _ _ | .ptr _ _ | .optr _ _ _ | .tup _ | .when _ _ => false
  | .agg l | .clo _ l => AV.areStat l
  | .mc _ x => x.isStat
  | _ => true
def AV.areStat : List AV → Bool
  | [] => true
  | x :: l => x.isStat && AV.areStat l
end

def setAt : List Nat → Shape → AV → AV → Option AV
  | [], _, _, y => some y
  | i :: p, .agg ss, .agg xs, y => match ss[i]? with
    | some s => match xs[i]? with
      | some x => match setAt p s x y with
        | some x' => some (.agg (xs.set i x'))
        | none => none
      | none => none
    | none => none
  | i :: p, .arr _ s, .arr m f, y => match setAt p s (f i) y with
    | some x' => if y.isStat then some (.arr m (fun j => if j = i then x' else f j)) else none
    | none => none
  | _ :: _, _, _, _ => none

theorem sizes_take_get {ss : List Shape} {i : Nat} {s : Shape} (h : ss[i]? = some s) : Shape.sizes (ss.take i) + s.size ≤ Shape.sizes ss := by
  induction ss generalizing i with
  | nil => simp at h
  | cons t ss ih =>
    cases i with
    | zero => simp at h; subst h; simp [Shape.sizes]
    | succ i => simp at h; simp only [List.take_succ_cons, Shape.sizes]; have := ih h; omega

theorem leafsAt_get {ss : List Shape} {xs : List AV} {i : Nat} {s : Shape} {x : AV} (h : ss[i]? = some s) (hx : xs[i]? = some x) (k : Nat) (hk : k < s.size) :
    leafsAt ss xs (Shape.sizes (ss.take i) + k) = leafAt s x k := by
  induction ss generalizing i xs with
  | nil => simp at h
  | cons t ss ih =>
    cases xs with
    | nil => simp at hx
    | cons y xs =>
      cases i with
      | zero => simp at h hx; subst h hx; simp [leafsAt, Shape.sizes, hk]
      | succ i =>
        simp at h hx
        simp only [List.take_succ_cons, Shape.sizes, leafsAt]
        rw [if_neg (by omega), show t.size + Shape.sizes (ss.take i) + k - t.size = Shape.sizes (ss.take i) + k from by omega]
        exact ih h hx

theorem leafsAt_set {ss : List Shape} {xs : List AV} {i : Nat} {s : Shape} (h : ss[i]? = some s) (y : AV) (j : Nat) (hi : i < xs.length) :
    leafsAt ss (xs.set i y) j = if Shape.sizes (ss.take i) ≤ j ∧ j < Shape.sizes (ss.take i) + s.size then leafAt s y (j - Shape.sizes (ss.take i)) else leafsAt ss xs j := by
  induction ss generalizing i xs j with
  | nil => simp at h
  | cons t ss ih =>
    cases xs with
    | nil => simp at hi
    | cons x xs =>
      cases i with
      | zero =>
        simp at h; subst h
        simp only [List.set_cons_zero, leafsAt, List.take_zero, Shape.sizes, Nat.zero_le, true_and, Nat.zero_add, Nat.sub_zero]
        split <;> rfl
      | succ i =>
        simp at h hi
        simp only [List.set_cons_succ, leafsAt, List.take_succ_cons, Shape.sizes]
        by_cases hj : j < t.size
        · rw [if_pos hj, if_neg (by omega), if_pos hj]
        · rw [if_neg hj, if_neg hj, ih h _ hi]
          by_cases hc : Shape.sizes (ss.take i) ≤ j - t.size ∧ j - t.size < Shape.sizes (ss.take i) + s.size
          · rw [if_pos hc, if_pos (by omega), show j - t.size - Shape.sizes (ss.take i) = j - (t.size + Shape.sizes (ss.take i)) from by omega]
          · rw [if_neg hc, if_neg (by omega)]

/-- What a one-cell value may be taken for: itself, or the same without the mark. -/
inductive Strip : AV → AV → Prop
  | refl (x : AV) : Strip x x
  | st {x y : AV} : Strip x y → Strip (.st x) y

theorem Strip.trans {x y z : AV} (h : Strip x y) (k : Strip y z) : Strip x z := by
  induction h with
  | refl => exact k
  | st _ ih => exact .st (ih k)

theorem pathOff_lt : ∀ (p : List Nat) (sh s : Shape), pathOK p sh → pathSh p sh = some s → pathOff p sh + s.size ≤ sh.size
  | [], sh, s, _, h => by simp [pathSh] at h; subst h; simp [pathOff]
  | i :: p, .agg ss, s, hp, h => by
    simp only [pathOK, pathSh, pathOff] at *
    cases hs : ss[i]? with
    | none => simp [hs] at h
    | some t =>
      simp only [hs] at hp h ⊢
      have h1 := pathOff_lt p t s hp h
      have h2 := sizes_take_get hs
      simp only [Shape.size]
      omega
  | i :: p, .arr n t, s, hp, h => by
    simp only [pathOK, pathSh, pathOff, Shape.size] at *
    have h1 := pathOff_lt p t s hp.2 h
    have h2 : (i + 1) * t.size ≤ n * t.size := Nat.mul_le_mul_right _ hp.1
    rw [Nat.add_mul] at h2
    omega
  | _ :: _, .leaf, _, hp, _ => by simp [pathOK] at hp

theorem nav_leafAt : ∀ (p : List Nat) (sh s : Shape) (x y : AV), pathOK p sh → pathSh p sh = some s → nav p sh x = some y → ∀ j, j < s.size → Strip (leafAt sh x (pathOff p sh + j)) (leafAt s y j)
  | [], sh, s, x, y, _, h, hn, j, _ => by
    simp [pathSh] at h; simp [nav] at hn; subst h hn
    simp [pathOff]; exact .refl _
  | i :: p, sh, s, x, y, hp, h, hn, j, hj => by
    cases sh with
    | leaf => simp [pathOK] at hp
    | agg ss =>
      cases x with
      | agg xs =>
        simp only [pathOK, pathSh, pathOff, nav] at *
        cases hs : ss[i]? with
        | none => simp [hs] at h
        | some t =>
          cases hx : xs[i]? with
          | none => simp [hs, hx] at hn
          | some x =>
            simp only [hs, hx] at hp h hn ⊢
            have h1 := pathOff_lt p t s hp h
            have h2 := nav_leafAt p t s x y hp h hn j hj
            simp only [leafAt]
            rw [Nat.add_assoc, leafsAt_get hs hx _ (by omega)]
            exact h2
      | _ => simp [nav] at hn
    | arr n t =>
      cases x with
      | arr m f =>
        simp only [pathOK, pathSh, pathOff, nav] at *
        have h1 := pathOff_lt p t s hp.2 h
        have h2 := nav_leafAt p t s (f i) y hp.2 h hn j hj
        simp only [leafAt]
        have ht : 0 < t.size := by omega
        have e : i * t.size + pathOff p t + j = t.size * i + (pathOff p t + j) := by rw [Nat.mul_comm]; omega
        rw [e, Nat.mul_add_div ht, Nat.mul_add_mod, Nat.div_eq_of_lt (by omega), Nat.mod_eq_of_lt (by omega)]
        exact .st h2
      | _ => simp [nav] at hn

/-- A part is put in: its own cells, and all others as they were. -/
theorem setAt_leafAt : ∀ (p : List Nat) (sh s : Shape) (x y x' : AV), pathOK p sh → pathSh p sh = some s → setAt p sh x y = some x' → ∀ j,
    (pathOff p sh ≤ j ∧ j < pathOff p sh + s.size → ∃ z, Strip (leafAt sh x' j) z ∧ z = leafAt s y (j - pathOff p sh) ∧ (leafAt sh x' j = z ∨ y.isStat = true)) ∧
    (j < sh.size → ¬ (pathOff p sh ≤ j ∧ j < pathOff p sh + s.size) → leafAt sh x' j = leafAt sh x j)
  | [], sh, s, x, y, x', _, h, hn, j => by
    simp [pathSh] at h; simp [setAt] at hn; subst h hn
    refine ⟨fun _ => ⟨_, .refl _, by simp [pathOff], .inl rfl⟩, fun h1 h2 => ?_⟩
    simp [pathOff] at h2; omega
  | i :: p, sh, s, x, y, x', hp, h, hn, j => by
    cases sh with
    | leaf => simp [pathOK] at hp
    | agg ss =>
      cases x with
      | agg xs =>
        simp only [pathOK, pathSh, pathOff, setAt] at *
        cases hs : ss[i]? with
        | none => simp [hs] at h
        | some t =>
          cases hx : xs[i]? with
          | none => simp [hs, hx] at hn
          | some x =>
            simp only [hs, hx] at hp h hn ⊢
            cases hy : setAt p t x y with
            | none => simp [hy] at hn
            | some z =>
              simp only [hy, Option.some.injEq] at hn
              subst hn
              have h1 := pathOff_lt p t s hp h
              have h2 := setAt_leafAt p t s x y z hp h hy (j - Shape.sizes (ss.take i))
              have hi : i < xs.length := (List.getElem?_eq_some_iff.1 hx).1
              simp only [leafAt]
              rw [leafsAt_set hs z j hi]
              constructor
              · intro hj
                rw [if_pos (by omega)]
                have := h2.1 (by omega)
                rw [show j - (Shape.sizes (ss.take i) + pathOff p t) = j - Shape.sizes (ss.take i) - pathOff p t from by omega]
                exact this
              · intro hj hnj
                by_cases hc : Shape.sizes (ss.take i) ≤ j ∧ j < Shape.sizes (ss.take i) + t.size
                · rw [if_pos hc, h2.2 (by omega) (by omega)]
                  have := leafsAt_get hs hx (j - Shape.sizes (ss.take i)) (by omega)
                  rw [show Shape.sizes (ss.take i) + (j - Shape.sizes (ss.take i)) = j from by omega] at this
                  exact this.symm
                · rw [if_neg hc]
      | _ => simp [setAt] at hn
    | arr n t =>
      cases x with
      | arr m f =>
        simp only [pathOK, pathSh, pathOff, setAt] at *
        cases hy : setAt p t (f i) y with
        | none => simp [hy] at hn
        | some z =>
          simp only [hy] at hn
          cases hst : y.isStat with
          | false => simp [hst] at hn
          | true =>
            simp only [hst, if_true, Option.some.injEq] at hn
            subst hn
            have h1 := pathOff_lt p t s hp.2 h
            have h2 := fun j => setAt_leafAt p t s (f i) y z hp.2 h hy j
            simp only [leafAt]
            constructor
            · intro hj
              have ht : 0 < t.size := by omega
              have e : j = t.size * i + (j - i * t.size) := by rw [Nat.mul_comm]; omega
              have ed : j / t.size = i := by rw [e, Nat.mul_add_div ht, Nat.div_eq_of_lt (by omega)]; omega
              have em : j % t.size = j - i * t.size := by
                have := Nat.div_add_mod j t.size
                rw [ed, Nat.mul_comm] at this; omega
              rw [ed, em, if_pos rfl]
              obtain ⟨z', hz, hz', _⟩ := (h2 (j - i * t.size)).1 (by omega)
              exact ⟨z', .st hz, by rw [hz']; congr 1; omega, .inr (by trivial)⟩
            · intro hj hnj
              by_cases ed : j / t.size = i
              · rw [if_pos ed]
                have ht : 0 < t.size := by
                  rcases Nat.eq_zero_or_pos t.size with h0 | h0
                  · simp [Shape.size, h0] at hj
                  · exact h0
                have em : i * t.size + j % t.size = j := by
                  have := Nat.div_add_mod j t.size
                  rw [ed, Nat.mul_comm] at this; omega
                rw [(h2 (j % t.size)).2 (Nat.mod_lt _ ht) (by omega), ed]
              · rw [if_neg ed]
      | _ => simp [setAt] at hn

theorem areStat_getD : ∀ {l : List AV}, AV.areStat l = true → ∀ j, (l.getD j .any).isStat = true
  | [], _, j => by simp [AV.isStat]
  | x :: l, h, 0 => by simp only [AV.areStat, Bool.and_eq_true] at h; simpa using h.1
  | x :: l, h, j + 1 => by simp only [AV.areStat, Bool.and_eq_true] at h; simpa using areStat_getD h.2 j

mutual
theorem stat_leafAt : ∀ (sh : Shape) (x : AV) (j : Nat), x.isStat = true → (leafAt sh x j).isStat = true
  | .leaf, x, j, h => by
    simp only [leafAt, asLeaf]; split <;> first | exact h | rfl
  | .agg ss, x, j, h => by
    cases x with
    | agg xs => simp only [leafAt]; exact stat_leafsAt ss xs j (by simpa [AV.isStat] using h)
    | _ => simp [leafAt, AV.isStat]
  | .arr n s, x, j, h => by
    cases x with
    | arr m f => simp [leafAt, AV.isStat]
    | _ => simp [leafAt, AV.isStat]
theorem stat_leafsAt : ∀ (ss : List Shape) (xs : List AV) (j : Nat), AV.areStat xs = true → (leafsAt ss xs j).isStat = true
  | s :: ss, x :: xs, j, h => by
    simp only [leafsAt]
    simp only [AV.areStat, Bool.and_eq_true] at h
    split
    · exact stat_leafAt s x j h.1
    · exact stat_leafsAt ss xs _ h.2
  | [], _, _, _ => by simp [leafsAt, AV.isStat]
  | _ :: _, [], _, _ => by simp [leafsAt, AV.isStat]
end

/-- The number is one of its kind. -/
def InR (k : IntKind) (n : Int) : Prop := k.wrap n = n

/-- PLAIN DATA: value v reads as x; whatever memory it takes lies in the read-only blocks F. -/
inductive RepS (w : World) (F : Nat → Prop) : Value → AV → Prop
  | any (v : Value) (h : v.oneCell' = true) : RepS w F v .any
  | int (k : IntKind) (n : Int) (h : InR k n) : RepS w F (.int k n) (.int k n)
  | bool (b : Bool) : RepS w F (.bool b) (.bool b)
  | str (s : ByteArray) : RepS w F (.string s) (.str s.data.toList)
  | clo (f : FuncId) (caps : Array Value) (l : List AV) (hs : caps.size = l.length) (hc : ∀ j, j < l.length → RepS w F (caps.getD j undef) (l.getD j .any)) :
      RepS w F (.func (.func f) #[] caps) (.clo f l)
  | nils : RepS w F (.slice none 0 0) .nils
  | nilp : RepS w F (.pointer none) .nilp
  | seq0 (a : Option Addr) (cap : Nat) (sh : Shape) (f : Nat → AV) : RepS w F (.slice a 0 cap) (.seq sh 0 f)
  | seqc0 (a : Option Addr) (sh : Shape) (f : Nat → AV) : RepS w F (.slice a 0 0) (.seqc sh 0 f)
  | seq (g o n cap : Nat) (sh : Shape) (f : Nat → AV) (cs : Nat → Nat → Value) (hF : F g) (hn : n ≤ cap)
      (hc : ∀ i, i < n → ∀ j, j < sh.size → w.cell? ⟨g, o + (i * sh.size + j), none⟩ = some (cs i j))
      (hr : ∀ i, i < n → ∀ j, j < sh.size → RepS w F (cs i j) (leafAt sh (f i) j)) : RepS w F (.slice (some ⟨g, o, none⟩) n cap) (.seq sh n f)
  | seqc (g o n : Nat) (sh : Shape) (f : Nat → AV) (cs : Nat → Nat → Value) (hF : F g)
      (hc : ∀ i, i < n → ∀ j, j < sh.size → w.cell? ⟨g, o + (i * sh.size + j), none⟩ = some (cs i j))
      (hr : ∀ i, i < n → ∀ j, j < sh.size → RepS w F (cs i j) (leafAt sh (f i) j)) : RepS w F (.slice (some ⟨g, o, none⟩) n n) (.seqc sh n f)
  | rptr (g o : Nat) (sh : Shape) (x : AV) (cs : Nat → Value) (hF : F g)
      (hc : ∀ j, j < sh.size → w.cell? ⟨g, o + j, none⟩ = some (cs j))
      (hr : ∀ j, j < sh.size → RepS w F (cs j) (leafAt sh x j)) : RepS w F (.pointer (some ⟨g, o, none⟩)) (.rptr sh x)
  | mc (cs : Array Value) (sh : Shape) (x : AV) (hs : cs.size = sh.size)
      (hr : ∀ j, j < sh.size → RepS w F (cs.getD j undef) (leafAt sh x j)) : RepS w F (.agg cs) (.mc sh x)
  | st {v : Value} {x : AV} (h : RepS w F v x) : RepS w F v (.st x)

theorem RepS.strip {w : World} {F : Nat → Prop} {v : Value} {x y : AV} (hs : Strip x y) (h : RepS w F v x) : RepS w F v y := by
  induction hs with
  | refl => exact h
  | st _ ih => cases h with | st h => exact ih h

theorem RepS.keep {w w' : World} {F F' : Nat → Prop} {v : Value} {x : AV} (h : RepS w F v x) (hw : ∀ k, F k → w'.heap[k]? = w.heap[k]?) (hF : ∀ k, F k → F' k) : RepS w' F' v x := by
  have hc : ∀ g o s, F g → w'.cell? ⟨g, o, s⟩ = w.cell? ⟨g, o, s⟩ := fun g o s hg => World.cell?_of_block (hw g hg)
  induction h with
  | any _ h => exact .any _ h
  | int _ _ h => exact .int _ _ h
  | clo f caps l hs _ ih => exact .clo f caps l hs ih
  | bool => exact .bool _
  | str => exact .str _
  | nils => exact .nils
  | nilp => exact .nilp
  | seq0 => exact .seq0 _ _ _ _
  | seqc0 => exact .seqc0 _ _ _
  | seq g o n cap sh f cs hg hn h1 h2 ih => exact .seq g o n cap sh f cs (hF _ hg) hn (fun i hi j hj => (hc _ _ _ hg).trans (h1 i hi j hj)) ih
  | seqc g o n sh f cs hg h1 h2 ih => exact .seqc g o n sh f cs (hF _ hg) (fun i hi j hj => (hc _ _ _ hg).trans (h1 i hi j hj)) ih
  | rptr g o sh x cs hg h1 h2 ih => exact .rptr g o sh x cs (hF _ hg) (fun j hj => (hc _ _ _ hg).trans (h1 j hj)) ih
  | mc cs sh x hs _ ih => exact .mc cs sh x hs ih
  | st _ ih => exact .st ih

/-- Where a box of the call's own lies: its block (none: a nil slice), its capacity in elements, the shape of its content or of an element. -/
structure Place where
  blk : Option Nat
  cap : Nat
  sh : Shape
  ty : TypeId

/-- ANY VALUE OF THE CALL's: plain data, and what names boxes of its own. -/
inductive Rep (w : World) (F : Nat → Prop) (φ : Nat → Place) : Value → AV → Prop
  | stat {v : Value} {x : AV} (h : RepS w F v x) : Rep w F φ v x
  | st {v : Value} {x : AV} (h : RepS w F v x) : Rep w F φ v (.st x)
  | own (b g n : Nat) (hb : (φ b).blk = some g) (hn : n ≤ (φ b).cap) : Rep w F φ (.slice (some ⟨g, 0, none⟩) n (φ b).cap) (.own b n)
  | own0 (b : Nat) (hb : (φ b).blk = none) : Rep w F φ (.slice none 0 0) (.own b 0)
  | ptr (b g : Nat) (p : List Nat) (hb : (φ b).blk = some g) (hp : pathOK p (φ b).sh) : Rep w F φ (.pointer (some ⟨g, pathOff p (φ b).sh, none⟩)) (.ptr b p)
  | optr (b g i : Nat) (p : List Nat) (hb : (φ b).blk = some g) (hp : pathOK p (φ b).sh) : Rep w F φ (.pointer (some ⟨g, i * (φ b).sh.size + pathOff p (φ b).sh, none⟩)) (.optr b i p)
  | clo (f : FuncId) (caps : Array Value) (l : List AV) (hs : caps.size = l.length) (hc : ∀ j, j < l.length → Rep w F φ (caps.getD j undef) (l.getD j .any)) :
      Rep w F φ (.func (.func f) #[] caps) (.clo f l)
  | mc (cs : Array Value) (sh : Shape) (x : AV) (hs : cs.size = sh.size)
      (hr : ∀ j, j < sh.size → Rep w F φ (cs.getD j undef) (leafAt sh x j)) : Rep w F φ (.agg cs) (.mc sh x)
  | tup (vs : Array Value) (l : List AV) (hs : vs.size = l.length) (hc : ∀ j, j < l.length → Rep w F φ (vs.getD j undef) (l.getD j .any)) : Rep w F φ (.tuple vs) (.tup l)
  | whenT {v : Value} {x : AV} (q : Bool) (h : q = true → Rep w F φ v x) (h' : q = false → v = undef ∨ x = .any) : Rep w F φ v (.when q x)

/- Box b is named somewhere in x. -/
mutual
def AV.names (b : Nat) : AV → Bool
  | .own c _ | .ptr c _ | .optr c _ _ => Nat.beq c b
  | .agg l | .tup l | .clo _ l => AV.namesL b l
  | .mc _ x | .when _ x => x.names b
  | _ => false
def AV.namesL (b : Nat) : List AV → Bool
  | [] => false
  | x :: l => x.names b || AV.namesL b l
end

theorem namesL_getD {b : Nat} : ∀ {l : List AV} {j : Nat}, (l.getD j .any).names b = true → AV.namesL b l = true
  | [], j, h => by simp [AV.names] at h
  | x :: l, 0, h => by simp at h; simp [AV.namesL, h]
  | x :: l, j + 1, h => by
    simp only [List.getD_cons_succ] at h
    simp [AV.namesL, namesL_getD h]

mutual
theorem names_leafAt {b : Nat} : ∀ (sh : Shape) (x : AV) (j : Nat), (leafAt sh x j).names b = true → x.names b = true
  | .leaf, x, j, h => by
    simp only [leafAt, asLeaf] at h; split at h <;> first | exact h | simp [AV.names] at h
  | .agg ss, x, j, h => by
    cases x with
    | agg xs => simp only [leafAt] at h; simp only [AV.names]; exact names_leafsAt ss xs j h
    | _ => simp [leafAt, AV.names] at h
  | .arr n s, x, j, h => by
    cases x with
    | arr m f => simp [leafAt, AV.names] at h
    | _ => simp [leafAt, AV.names] at h
theorem names_leafsAt {b : Nat} : ∀ (ss : List Shape) (xs : List AV) (j : Nat), (leafsAt ss xs j).names b = true → AV.namesL b xs = true
  | s :: ss, x :: xs, j, h => by
    simp only [leafsAt] at h
    simp only [AV.namesL, Bool.or_eq_true]
    split at h
    · exact .inl (names_leafAt s x j h)
    · exact .inr (names_leafsAt ss xs _ h)
  | [], _, _, h => by simp [leafsAt, AV.names] at h
  | _ :: _, [], _, h => by simp [leafsAt, AV.names] at h
end

theorem Rep.keep {w w' : World} {F F' : Nat → Prop} {φ φ' : Nat → Place} {v : Value} {x : AV} (h : Rep w F φ v x) (hw : ∀ k, F k → w'.heap[k]? = w.heap[k]?) (hF : ∀ k, F k → F' k)
    (hφ : ∀ b, x.names b = true → φ' b = φ b) : Rep w' F' φ' v x := by
  induction h with
  | stat h => exact .stat (h.keep hw hF)
  | st h => exact .st (h.keep hw hF)
  | own b g n hb hn =>
    have e := hφ b (by simp [AV.names])
    rw [← e] at hb hn ⊢
    exact .own b g n hb hn
  | own0 b hb => exact .own0 b (by rw [hφ b (by simp [AV.names])]; exact hb)
  | ptr b g p hb hp =>
    have e := hφ b (by simp [AV.names])
    rw [← e] at hb hp ⊢
    exact .ptr b g p hb hp
  | optr b g i p hb hp =>
    have e := hφ b (by simp [AV.names])
    rw [← e] at hb hp ⊢
    exact .optr b g i p hb hp
  | clo f caps l hs _ ih => exact .clo f caps l hs fun j hj => ih j hj fun b hb => hφ b (by simp only [AV.names]; exact namesL_getD hb)
  | mc cs sh x hs _ ih => exact .mc cs sh x hs fun j hj => ih j hj fun b hb => hφ b (by simp only [AV.names]; exact names_leafAt sh x j hb)
  | tup vs l hs _ ih => exact .tup vs l hs fun j hj => ih j hj fun b hb => hφ b (by simp only [AV.names]; exact namesL_getD hb)
  | whenT q _ h' ih => exact .whenT q (fun hq => ih hq fun b hb => hφ b (by simpa [AV.names] using hb)) h'

theorem Rep.strip {w : World} {F : Nat → Prop} {φ : Nat → Place} {v : Value} {x y : AV} (hs : Strip x y) (h : Rep w F φ v x) : Rep w F φ v y := by
  induction hs with
  | refl => exact h
  | st _ ih =>
    cases h with
    | stat h => cases h with | st h => exact ih (.stat h)
    | st h => exact ih (.stat h)

/-- Static terms read as plain data. -/
theorem Rep.toS {w : World} {F : Nat → Prop} {φ : Nat → Place} {v : Value} {x : AV} (h : Rep w F φ v x) (hs : x.isStat = true) : RepS w F v x := by
  induction h with
  | stat h => exact h
  | st h => exact .st h
  | mc cs sh x hsz _ ih =>
    refine .mc cs sh x hsz fun j hj => ih j hj ?_
    exact stat_leafAt sh x j (by simpa [AV.isStat] using hs)
  | clo f caps l hsz _ ih =>
    refine .clo f caps l hsz fun j hj => ih j hj ?_
    exact areStat_getD (by simpa [AV.isStat] using hs) j
  | _ => simp [AV.isStat] at hs

theorem RepS.one {w : World} {F : Nat → Prop} {v : Value} {x : AV} (h : RepS w F v x) (hx : x.isOne = true) : v.oneCell' = true := by
  cases h with
  | any _ h => exact h
  | mc => simp [AV.isOne] at hx
  | st => simp [AV.isOne] at hx
  | _ => rfl
theorem Rep.one {w : World} {F : Nat → Prop} {φ : Nat → Place} {v : Value} {x : AV} (h : Rep w F φ v x) (hx : x.isOne = true) : v.oneCell' = true := by
  cases h with
  | stat h => exact h.one hx
  | st => simp [AV.isOne] at hx
  | mc => simp [AV.isOne] at hx
  | tup => simp [AV.isOne] at hx
  | whenT => simp [AV.isOne] at hx
  | _ => rfl

mutual
theorem RepS.leaf1 {w : World} {F : Nat → Prop} {v : Value} : ∀ (sh : Shape) (x : AV) (j : Nat), RepS w F v (leafAt sh x j) → v.oneCell' = true
  | .leaf, x, j, h => by
    simp only [leafAt, asLeaf] at h
    split at h
    · rename_i e; exact h.one e
    · exact h.one rfl
  | .agg ss, x, j, h => by
    cases x with
    | agg xs => simp only [leafAt] at h; exact RepS.leafs1 ss xs j h
    | _ => simp only [leafAt] at h; exact h.one rfl
  | .arr n s, x, j, h => by
    cases x with
    | arr m f => simp only [leafAt] at h; cases h with | st h => exact RepS.leaf1 s _ _ h
    | _ => simp only [leafAt] at h; exact h.one rfl
theorem RepS.leafs1 {w : World} {F : Nat → Prop} {v : Value} : ∀ (ss : List Shape) (xs : List AV) (j : Nat), RepS w F v (leafsAt ss xs j) → v.oneCell' = true
  | s :: ss, x :: xs, j, h => by
    simp only [leafsAt] at h
    split at h
    · exact RepS.leaf1 s x j h
    · exact RepS.leafs1 ss xs _ h
  | [], _, _, h => by simp only [leafsAt] at h; exact h.one rfl
  | _ :: _, [], _, h => by simp only [leafsAt] at h; exact h.one rfl
end
mutual
theorem Rep.leaf1 {w : World} {F : Nat → Prop} {φ : Nat → Place} {v : Value} : ∀ (sh : Shape) (x : AV) (j : Nat), Rep w F φ v (leafAt sh x j) → v.oneCell' = true
  | .leaf, x, j, h => by
    simp only [leafAt, asLeaf] at h
    split at h
    · rename_i e; exact h.one e
    · exact h.one rfl
  | .agg ss, x, j, h => by
    cases x with
    | agg xs => simp only [leafAt] at h; exact Rep.leafs1 ss xs j h
    | _ => simp only [leafAt] at h; exact h.one rfl
  | .arr n s, x, j, h => by
    cases x with
    | arr m f =>
      simp only [leafAt] at h
      cases h with
      | stat h => cases h with | st h => exact RepS.leaf1 s _ _ h
      | st h => exact RepS.leaf1 s _ _ h
    | _ => simp only [leafAt] at h; exact h.one rfl
theorem Rep.leafs1 {w : World} {F : Nat → Prop} {φ : Nat → Place} {v : Value} : ∀ (ss : List Shape) (xs : List AV) (j : Nat), Rep w F φ v (leafsAt ss xs j) → v.oneCell' = true
  | s :: ss, x :: xs, j, h => by
    simp only [leafsAt] at h
    split at h
    · exact Rep.leaf1 s x j h
    · exact Rep.leafs1 ss xs _ h
  | [], _, _, h => by simp only [leafsAt] at h; exact h.one rfl
  | _ :: _, [], _, h => by simp only [leafsAt] at h; exact h.one rfl
end
end Go.AV
