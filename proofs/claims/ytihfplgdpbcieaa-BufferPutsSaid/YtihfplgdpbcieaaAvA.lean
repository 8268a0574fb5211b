/- An abstract reading of values and memory: plain data, read-only rows, and boxes of the call's own; how it is kept when memory grows. -/
import Derived.WalkKit
import Derived.WalkLawsBesides
import Derived.Maps.AppendAt
import Derived.Deep.Draws
import Derived.Laws.OwnMore
import Derived.Laws.StructEq
import Derived.Lib.Strings
import Derived.Great.BuildSlice
namespace Go.AV
open Go.RowKit

inductive Shape where
  | leaf
  | agg (l : List Shape)
  | arr (n : Nat) (s : Shape)

mutual
def Shape.size : Shape → Nat
  | .leaf => 1
  | .agg l => Shape.sizes l
  | .arr n s => n * s.size
def Shape.sizes : List Shape → Nat
  | [] => 0
  | s :: l => s.size + Shape.sizes l
end

mutual
def Shape.same : Shape → Shape → Bool
  | .leaf, .leaf => true
  | .agg l, .agg m => Shape.sames l m
  | .arr n s, .arr m t => Nat.beq n m && s.same t
  | _, _ => false
def Shape.sames : List Shape → List Shape → Bool
  | [], [] => true
  | s :: l, t :: m => s.same t && Shape.sames l m
  | _, _ => false
end

mutual
theorem Shape.same_eq : ∀ (s t : Shape), s.same t = true → s = t
  | .leaf, .leaf, _ => rfl
  | .agg l, .agg m, h => by rw [Shape.sames_eq l m (by simpa [Shape.same] using h)]
  | .arr n s, .arr m t, h => by
    simp only [Shape.same, Bool.and_eq_true] at h
    rw [Nat.eq_of_beq_eq_true h.1, Shape.same_eq s t h.2]
  | .leaf, .agg _, h | .leaf, .arr _ _, h | .agg _, .leaf, h | .agg _, .arr _ _, h | .arr _ _, .leaf, h | .arr _ _, .agg _, h => by simp [Shape.same] at h
theorem Shape.sames_eq : ∀ (l m : List Shape), Shape.sames l m = true → l = m
  | [], [], _ => rfl
  | s :: l, t :: m, h => by
    simp only [Shape.sames, Bool.and_eq_true] at h
    rw [Shape.same_eq s t h.1, Shape.sames_eq l m h.2]
  | [], _ :: _, h | _ :: _, [], h => by simp [Shape.sames] at h
end

def Shape.isAgg : Shape → Bool
  | .leaf => false
  | _ => true

inductive AV where
  | any
  | int (k : IntKind) (n : Int)
  | bool (b : Bool)
  | str (l : List UInt8)
  | nils
  | nilp
  | seq (sh : Shape) (n : Nat) (f : Nat → AV)
  | seqc (sh : Shape) (n : Nat) (f : Nat → AV)
  | rptr (sh : Shape) (x : AV)
  | own (b : Nat) (n : Nat)
  | ptr (b : Nat) (path : List Nat)
  | optr (b : Nat) (i : Nat) (path : List Nat)
  | clo (f : FuncId) (caps : List AV)
  | agg (l : List AV)
  | arr (n : Nat) (f : Nat → AV)
  | mc (sh : Shape) (x : AV)
  | tup (l : List AV)
  | st (x : AV)
  | when (q : Bool) (x : AV)
  /-- a read-only row whose block is one of N -/
  | nseq (N : Nat → Prop) (sh : Shape) (n : Nat) (f : Nat → AV)
  /-- each block is read only or one of N -/
  | cov (N : Nat → Prop)

/-- A value of one cell. -/
def AV.isOne : AV → Bool
  | .agg _ | .arr _ _ | .mc _ _ | .tup _ | .st _ | .when _ _ => false
  | _ => true
def asLeaf (x : AV) : AV := match x.isOne with | true => x | false => .any

/- The one cell number j of a tree of the given shape. -/
mutual
def leafAt : Shape → AV → Nat → AV
  | .leaf, x, _ => asLeaf x
  | .agg ss, .agg xs, j => leafsAt ss xs j
  | .arr _ s, .arr _ f, j => .st (leafAt s (f (j / s.size)) (j % s.size))
  | _, _, _ => .any
def leafsAt : List Shape → List AV → Nat → AV
  | s :: ss, x :: xs, j => if j < s.size then leafAt s x j else leafsAt ss xs (j - s.size)
  | _, _, _ => .any
end

/-- Where a part lies, and whether it is there. -/
def pathOff : List Nat → Shape → Nat
  | [], _ => 0
  | i :: p, .agg ss => Shape.sizes (ss.take i) + (match ss[i]? with | some s => pathOff p s | none => 0)
  | i :: p, .arr _ s => i * s.size + pathOff p s
  | _ :: _, .leaf => 0

def pathSh : List Nat → Shape → Option Shape
  | [], s => some s
  | i :: p, .agg ss => match ss[i]? with | some s => pathSh p s | none => none
  | _ :: p, .arr _ s => pathSh p s
  | _ :: _, .leaf => none

def pathOK : List Nat → Shape → Prop
  | [], _ => True
  | i :: p, .agg ss => match ss[i]? with | some s => pathOK p s | none => False
  | i :: p, .arr n s => i < n ∧ pathOK p s
  | _ :: _, .leaf => False

def nav : List Nat → Shape → AV → Option AV
  | [], _, x => some x
  | i :: p, .agg ss, .agg xs => match ss[i]? with
    | some s => match xs[i]? with
      | some x => nav p s x
      | none => none
    | none => none
  | i :: p, .arr _ s, .arr _ f => nav p s (f i)
  | _ :: _, _, _ => none

/- No box of the call's own is named. -/
mutual
def AV.isStat : AV → Bool
  | .own _ _ | .ptr _ _ | .optr _ _ _ | .tup _ | .when _ _ => false
  | .agg l | .clo _ l => AV.areStat l
  | .mc _ x => x.isStat
  | _ => true
def AV.areStat : List AV → Bool
  | [] => true
  | x :: l => x.isStat && AV.areStat l
end

def setAt : List Nat → Shape → AV → AV → Option AV
  | [], _, _, y => some y
  | i :: p, .agg ss, .agg xs, y => match ss[i]? with
    | some s => match xs[i]? with
      | some x => match setAt p s x y with
        | some x' => some (.agg (xs.set i x'))
        | none => none
      | none => none
    | none => none
  | i :: p, .arr _ s, .arr m f, y => match setAt p s (f i) y with
    | some x' => if y.isStat then some (.arr m (fun j => if j = i then x' else f j)) else none
    | none => none
  | _ :: _, _, _, _ => none

theorem sizes_take_get {ss : List Shape} {i : Nat} {s : Shape} (h : ss[i]? = some s) : Shape.sizes (ss.take i) + s.size ≤ Shape.sizes ss := by
  induction ss generalizing i with
  | nil => simp at h
  | cons t ss ih =>
    cases i with
    | zero => simp at h; subst h; simp [Shape.sizes]
    | succ i => simp at h; simp only [List.take_succ_cons, Shape.sizes]; have := ih h; omega

theorem leafsAt_get {ss : List Shape} {xs : List AV} {i : Nat} {s : Shape} {x : AV} (h : ss[i]? = some s) (hx : xs[i]? = some x) (k : Nat) (hk : k < s.size) :
    leafsAt ss xs (Shape.sizes (ss.take i) + k) = leafAt s x k := by
  induction ss generalizing i xs with
  | nil => simp at h
  | cons t ss ih =>
    cases xs with
    | nil => simp at hx
    | cons y xs =>
      cases i with
      | zero => simp at h hx; subst h hx; simp [leafsAt, Shape.sizes, hk]
      | succ i =>
        simp at h hx
        simp only [List.take_succ_cons, Shape.sizes, leafsAt]
        rw [if_neg (by omega), show t.size + Shape.sizes (ss.take i) + k - t.size = Shape.sizes (ss.take i) + k from by omega]
        exact ih h hx

theorem leafsAt_set {ss : List Shape} {xs : List AV} {i : Nat} {s : Shape} (h : ss[i]? = some s) (y : AV) (j : Nat) (hi : i < xs.length) :
    leafsAt ss (xs.set i y) j = if Shape.sizes (ss.take i) ≤ j ∧ j < Shape.sizes (ss.take i) + s.size then leafAt s y (j - Shape.sizes (ss.take i)) else leafsAt ss xs j := by
  induction ss generalizing i xs j with
  | nil => simp at h
  | cons t ss ih =>
    cases xs with
    | nil => simp at hi
    | cons x xs =>
      cases i with
      | zero =>
        simp at h; subst h
        simp only [List.set_cons_zero, leafsAt, List.take_zero, Shape.sizes, Nat.zero_le, true_and, Nat.zero_add, Nat.sub_zero]
        split <;> rfl
      | succ i =>
        simp at h hi
        simp only [List.set_cons_succ, leafsAt, List.take_succ_cons, Shape.sizes]
        by_cases hj : j < t.size
        · rw [if_pos hj, if_neg (by omega), if_pos hj]
        · rw [if_neg hj, if_neg hj, ih h _ hi]
          by_cases hc : Shape.sizes (ss.take i) ≤ j - t.size ∧ j - t.size < Shape.sizes (ss.take i) + s.size
          · rw [if_pos hc, if_pos (by omega), show j - t.size - Shape.sizes (ss.take i) = j - (t.size + Shape.sizes (ss.take i)) from by omega]
          · rw [if_neg hc, if_neg (by omega)]

/-- What a one-cell value may be taken for: itself, or the same without the mark. -/
inductive Strip : AV → AV → Prop
  | refl (x : AV) : Strip x x
  | st {x y : AV} : Strip x y → Strip (.st x) y

theorem Strip.trans {x y z : AV} (h : Strip x y) (k : Strip y z) : Strip x z := by
  induction h with
  | refl => exact k
  | st _ ih => exact .st (ih k)

theorem pathOff_lt : ∀ (p : List Nat) (sh s : Shape), pathOK p sh → pathSh p sh = some s → pathOff p sh + s.size ≤ sh.size
  | [], sh, s, _, h => by simp [pathSh] at h; subst h; simp [pathOff]
  | i :: p, .agg ss, s, hp, h => by
    simp only [pathOK, pathSh, pathOff] at *
    cases hs : ss[i]? with
    | none => simp [hs] at h
    | some t =>
      simp only [hs] at hp h ⊢
      have h1 := pathOff_lt p t s hp h
      have h2 := sizes_take_get hs
      simp only [Shape.size]
      omega
  | i :: p, .arr n t, s, hp, h => by
    simp only [pathOK, pathSh, pathOff, Shape.size] at *
    have h1 := pathOff_lt p t s hp.2 h
    have h2 : (i + 1) * t.size ≤ n * t.size := Nat.mul_le_mul_right _ hp.1
    rw [Nat.add_mul] at h2
    omega
  | _ :: _, .leaf, _, hp, _ => by simp [pathOK] at hp

theorem nav_leafAt : ∀ (p : List Nat) (sh s : Shape) (x y : AV), pathOK p sh → pathSh p sh = some s → nav p sh x = some y → ∀ j, j < s.size → Strip (leafAt sh x (pathOff p sh + j)) (leafAt s y j)
  | [], sh, s, x, y, _, h, hn, j, _ => by
    simp [pathSh] at h; simp [nav] at hn; subst h hn
    simp [pathOff]; exact .refl _
  | i :: p, sh, s, x, y, hp, h, hn, j, hj => by
    cases sh with
    | leaf => simp [pathOK] at hp
    | agg ss =>
      cases x with
      | agg xs =>
        simp only [pathOK, pathSh, pathOff, nav] at *
        cases hs : ss[i]? with
        | none => simp [hs] at h
        | some t =>
          cases hx : xs[i]? with
          | none => simp [hs, hx] at hn
          | some x =>
            simp only [hs, hx] at hp h hn ⊢
            have h1 := pathOff_lt p t s hp h
            have h2 := nav_leafAt p t s x y hp h hn j hj
            simp only [leafAt]
            rw [Nat.add_assoc, leafsAt_get hs hx _ (by omega)]
            exact h2
      | _ => simp [nav] at hn
    | arr n t =>
      cases x with
      | arr m f =>
        simp only [pathOK, pathSh, pathOff, nav] at *
        have h1 := pathOff_lt p t s hp.2 h
        have h2 := nav_leafAt p t s (f i) y hp.2 h hn j hj
        simp only [leafAt]
        have ht : 0 < t.size := by omega
        have e : i * t.size + pathOff p t + j = t.size * i + (pathOff p t + j) := by rw [Nat.mul_comm]; omega
        rw [e, Nat.mul_add_div ht, Nat.mul_add_mod, Nat.div_eq_of_lt (by omega), Nat.mod_eq_of_lt (by omega)]
        exact .st h2
      | _ => simp [nav] at hn

/-- A part is put in: its own cells, and all others as they were. -/
theorem setAt_leafAt : ∀ (p : List Nat) (sh s : Shape) (x y x' : AV), pathOK p sh → pathSh p sh = some s → setAt p sh x y = some x' → ∀ j,
    (pathOff p sh ≤ j ∧ j < pathOff p sh + s.size → ∃ z, Strip (leafAt sh x' j) z ∧ z = leafAt s y (j - pathOff p sh) ∧ (leafAt sh x' j = z ∨ y.isStat = true)) ∧
    (j < sh.size → ¬ (pathOff p sh ≤ j ∧ j < pathOff p sh + s.size) → leafAt sh x' j = leafAt sh x j)
  | [], sh, s, x, y, x', _, h, hn, j => by
    simp [pathSh] at h; simp [setAt] at hn; subst h hn
    refine ⟨fun _ => ⟨_, .refl _, by simp [pathOff], .inl rfl⟩, fun h1 h2 => ?_⟩
    simp [pathOff] at h2; omega
  | i :: p, sh, s, x, y, x', hp, h, hn, j => by
    cases sh with
    | leaf => simp [pathOK] at hp
    | agg ss =>
      cases x with
      | agg xs =>
        simp only [pathOK, pathSh, pathOff, setAt] at *
        cases hs : ss[i]? with
        | none => simp [hs] at h
        | some t =>
          cases hx : xs[i]? with
          | none => simp [hs, hx] at hn
          | some x =>
            simp only [hs, hx] at hp h hn ⊢
            cases hy : setAt p t x y with
            | none => simp [hy] at hn
            | some z =>
              simp only [hy, Option.some.injEq] at hn
              subst hn
              have h1 := pathOff_lt p t s hp h
              have h2 := setAt_leafAt p t s x y z hp h hy (j - Shape.sizes (ss.take i))
              have hi : i < xs.length := (List.getElem?_eq_some_iff.1 hx).1
              simp only [leafAt]
              rw [leafsAt_set hs z j hi]
              constructor
              · intro hj
                rw [if_pos (by omega)]
                have := h2.1 (by omega)
                rw [show j - (Shape.sizes (ss.take i) + pathOff p t) = j - Shape.sizes (ss.take i) - pathOff p t from by omega]
                exact this
              · intro hj hnj
                by_cases hc : Shape.sizes (ss.take i) ≤ j ∧ j < Shape.sizes (ss.take i) + t.size
                · rw [if_pos hc, h2.2 (by omega) (by omega)]
                  have := leafsAt_get hs hx (j - Shape.sizes (ss.take i)) (by omega)
                  rw [show Shape.sizes (ss.take i) + (j - Shape.sizes (ss.take i)) = j from by omega] at this
                  exact this.symm
                · rw [if_neg hc]
      | _ => simp [setAt] at hn
    | arr n t =>
      cases x with
      | arr m f =>
        simp only [pathOK, pathSh, pathOff, setAt] at *
        cases hy : setAt p t (f i) y with
        | none => simp [hy] at hn
        | some z =>
          simp only [hy] at hn
          cases hst : y.isStat with
          | false => simp [hst] at hn
          | true =>
            simp only [hst, if_true, Option.some.injEq] at hn
            subst hn
            have h1 := pathOff_lt p t s hp.2 h
            have h2 := fun j => setAt_leafAt p t s (f i) y z hp.2 h hy j
            simp only [leafAt]
            constructor
            · intro hj
              have ht : 0 < t.size := by omega
              have e : j = t.size * i + (j - i * t.size) := by rw [Nat.mul_comm]; omega
              have ed : j / t.size = i := by rw [e, Nat.mul_add_div ht, Nat.div_eq_of_lt (by omega)]; omega
              have em : j % t.size = j - i * t.size := by
                have := Nat.div_add_mod j t.size
                rw [ed, Nat.mul_comm] at this; omega
              rw [ed, em, if_pos rfl]
              obtain ⟨z', hz, hz', _⟩ := (h2 (j - i * t.size)).1 (by omega)
              exact ⟨z', .st hz, by rw [hz']; congr 1; omega, .inr (by trivial)⟩
            · intro hj hnj
              by_cases ed : j / t.size = i
              · rw [if_pos ed]
                have ht : 0 < t.size := by
                  rcases Nat.eq_zero_or_pos t.size with h0 | h0
                  · simp [Shape.size, h0] at hj
                  · exact h0
                have em : i * t.size + j % t.size = j := by
                  have := Nat.div_add_mod j t.size
                  rw [ed, Nat.mul_comm] at this; omega
                rw [(h2 (j % t.size)).2 (Nat.mod_lt _ ht) (by omega), ed]
              · rw [if_neg ed]
      | _ => simp [setAt] at hn

theorem areStat_getD : ∀ {l : List AV}, AV.areStat l = true → ∀ j, (l.getD j .any).isStat = true
  | [], _, j => by simp [AV.isStat]
  | x :: l, h, 0 => by simp only [AV.areStat, Bool.and_eq_true] at h; simpa using h.1
  | x :: l, h, j + 1 => by simp only [AV.areStat, Bool.and_eq_true] at h; simpa using areStat_getD h.2 j

mutual
theorem stat_leafAt : ∀ (sh : Shape) (x : AV) (j : Nat), x.isStat = true → (leafAt sh x j).isStat = true
  | .leaf, x, j, h => by
    simp only [leafAt, asLeaf]; split <;> first | exact h | rfl
  | .agg ss, x, j, h => by
    cases x with
    | agg xs => simp only [leafAt]; exact stat_leafsAt ss xs j (by simpa [AV.isStat] using h)
    | _ => simp [leafAt, AV.isStat]
  | .arr n s, x, j, h => by
    cases x with
    | arr m f => simp [leafAt, AV.isStat]
    | _ => simp [leafAt, AV.isStat]
theorem stat_leafsAt : ∀ (ss : List Shape) (xs : List AV) (j : Nat), AV.areStat xs = true → (leafsAt ss xs j).isStat = true
  | s :: ss, x :: xs, j, h => by
    simp only [leafsAt]
    simp only [AV.areStat, Bool.and_eq_true] at h
    split
    · exact stat_leafAt s x j h.1
    · exact stat_leafsAt ss xs _ h.2
  | [], _, _, _ => by simp [leafsAt, AV.isStat]
  | _ :: _, [], _, _ => by simp [leafsAt, AV.isStat]
end

/-- The number is one of its kind. -/
def InR (k : IntKind) (n : Int) : Prop := k.wrap n = n

/-- PLAIN DATA: value v reads as x; whatever memory it takes lies in the read-only blocks F. -/
inductive RepS (w : World) (F : Nat → Prop) : Value → AV → Prop
  | any (v : Value) (h : v.oneCell' = true) : RepS w F v .any
  | int (k : IntKind) (n : Int) (h : InR k n) : RepS w F (.int k n) (.int k n)
  | bool (b : Bool) : RepS w F (.bool b) (.bool b)
  | str (s : ByteArray) : RepS w F (.string s) (.str s.data.toList)
  | clo (f : FuncId) (caps : Array Value) (l : List AV) (hs : caps.size = l.length) (hc : ∀ j, j < l.length → RepS w F (caps.getD j undef) (l.getD j .any)) :
      RepS w F (.func (.func f) #[] caps) (.clo f l)
  | nils : RepS w F (.slice none 0 0) .nils
  | nilp : RepS w F (.pointer none) .nilp
  | seq0 (a : Option Addr) (cap : Nat) (sh : Shape) (f : Nat → AV) : RepS w F (.slice a 0 cap) (.seq sh 0 f)
  | seqc0 (a : Option Addr) (sh : Shape) (f : Nat → AV) : RepS w F (.slice a 0 0) (.seqc sh 0 f)
  | seq (g o n cap : Nat) (sh : Shape) (f : Nat → AV) (cs : Nat → Nat → Value) (hF : F g) (hn : n ≤ cap)
      (hc : ∀ i, i < n → ∀ j, j < sh.size → w.cell? ⟨g, o + (i * sh.size + j), none⟩ = some (cs i j))
      (hr : ∀ i, i < n → ∀ j, j < sh.size → RepS w F (cs i j) (leafAt sh (f i) j)) : RepS w F (.slice (some ⟨g, o, none⟩) n cap) (.seq sh n f)
  | seqc (g o n : Nat) (sh : Shape) (f : Nat → AV) (cs : Nat → Nat → Value) (hF : F g)
      (hc : ∀ i, i < n → ∀ j, j < sh.size → w.cell? ⟨g, o + (i * sh.size + j), none⟩ = some (cs i j))
      (hr : ∀ i, i < n → ∀ j, j < sh.size → RepS w F (cs i j) (leafAt sh (f i) j)) : RepS w F (.slice (some ⟨g, o, none⟩) n n) (.seqc sh n f)
  | rptr (g o : Nat) (sh : Shape) (x : AV) (cs : Nat → Value) (hF : F g)
      (hc : ∀ j, j < sh.size → w.cell? ⟨g, o + j, none⟩ = some (cs j))
      (hr : ∀ j, j < sh.size → RepS w F (cs j) (leafAt sh x j)) : RepS w F (.pointer (some ⟨g, o, none⟩)) (.rptr sh x)
  | mc (cs : Array Value) (sh : Shape) (x : AV) (hs : cs.size = sh.size)
      (hr : ∀ j, j < sh.size → RepS w F (cs.getD j undef) (leafAt sh x j)) : RepS w F (.agg cs) (.mc sh x)
  | st {v : Value} {x : AV} (h : RepS w F v x) : RepS w F v (.st x)
  | nseq0 (N : Nat → Prop) (a : Option Addr) (cap : Nat) (sh : Shape) (f : Nat → AV) : RepS w F (.slice a 0 cap) (.nseq N sh 0 f)
  | nseq (N : Nat → Prop) (g o n cap : Nat) (sh : Shape) (f : Nat → AV) (cs : Nat → Nat → Value) (hF : F g) (hN : N g) (hb : ∃ cs ty, w.heap[g]? = some (.cells cs ty (0, 0))) (hn : n ≤ cap)
      (hc : ∀ i, i < n → ∀ j, j < sh.size → w.cell? ⟨g, o + (i * sh.size + j), none⟩ = some (cs i j))
      (hr : ∀ i, i < n → ∀ j, j < sh.size → RepS w F (cs i j) (leafAt sh (f i) j)) : RepS w F (.slice (some ⟨g, o, none⟩) n cap) (.nseq N sh n f)
  | cov (N : Nat → Prop) (v : Value) (h : v.oneCell' = true) (hN : ∀ k, F k ∨ N k) : RepS w F v (.cov N)

theorem RepS.strip {w : World} {F : Nat → Prop} {v : Value} {x y : AV} (hs : Strip x y) (h : RepS w F v x) : RepS w F v y := by
  induction hs with
  | refl => exact h
  | st _ ih => cases h with | st h => exact ih h

theorem RepS.keep {w w' : World} {F F' : Nat → Prop} {v : Value} {x : AV} (h : RepS w F v x) (hw : ∀ k, F k → w'.heap[k]? = w.heap[k]?) (hF : ∀ k, F k → F' k) : RepS w' F' v x := by
  have hc : ∀ g o s, F g → w'.cell? ⟨g, o, s⟩ = w.cell? ⟨g, o, s⟩ := fun g o s hg => World.cell?_of_block (hw g hg)
  induction h with
  | any _ h => exact .any _ h
  | int _ _ h => exact .int _ _ h
  | clo f caps l hs _ ih => exact .clo f caps l hs ih
  | bool => exact .bool _
  | str => exact .str _
  | nils => exact .nils
  | nilp => exact .nilp
  | seq0 => exact .seq0 _ _ _ _
  | seqc0 => exact .seqc0 _ _ _
  | seq g o n cap sh f cs hg hn h1 h2 ih => exact .seq g o n cap sh f cs (hF _ hg) hn (fun i hi j hj => (hc _ _ _ hg).trans (h1 i hi j hj)) ih
  | seqc g o n sh f cs hg h1 h2 ih => exact .seqc g o n sh f cs (hF _ hg) (fun i hi j hj => (hc _ _ _ hg).trans (h1 i hi j hj)) ih
  | rptr g o sh x cs hg h1 h2 ih => exact .rptr g o sh x cs (hF _ hg) (fun j hj => (hc _ _ _ hg).trans (h1 j hj)) ih
  | mc cs sh x hs _ ih => exact .mc cs sh x hs ih
  | st _ ih => exact .st ih
  | nseq0 => exact .nseq0 _ _ _ _ _
  | nseq N g o n cap sh f cs hg hN hb hn h1 h2 ih => exact .nseq N g o n cap sh f cs (hF _ hg) hN (by rw [hw g hg]; exact hb) hn (fun i hi j hj => (hc _ _ _ hg).trans (h1 i hi j hj)) ih
  | cov N v h hN => exact .cov N v h fun k => (hN k).imp (hF k) id

/-- Where a box of the call's own lies: its block (none: a nil slice), its capacity in elements, the shape of its content or of an element. -/
structure Place where
  blk : Option Nat
  cap : Nat
  sh : Shape
  ty : TypeId

/-- ANY VALUE OF THE CALL's: plain data, and what names boxes of its own. -/
inductive Rep (w : World) (F : Nat → Prop) (φ : Nat → Place) : Value → AV → Prop
  | stat {v : Value} {x : AV} (h : RepS w F v x) : Rep w F φ v x
  | st {v : Value} {x : AV} (h : RepS w F v x) : Rep w F φ v (.st x)
  | own (b g n : Nat) (hb : (φ b).blk = some g) (hn : n ≤ (φ b).cap) : Rep w F φ (.slice (some ⟨g, 0, none⟩) n (φ b).cap) (.own b n)
  | own0 (b : Nat) (hb : (φ b).blk = none) : Rep w F φ (.slice none 0 0) (.own b 0)
  | ptr (b g : Nat) (p : List Nat) (hb : (φ b).blk = some g) (hp : pathOK p (φ b).sh) : Rep w F φ (.pointer (some ⟨g, pathOff p (φ b).sh, none⟩)) (.ptr b p)
  | optr (b g i : Nat) (p : List Nat) (hb : (φ b).blk = some g) (hp : pathOK p (φ b).sh) : Rep w F φ (.pointer (some ⟨g, i * (φ b).sh.size + pathOff p (φ b).sh, none⟩)) (.optr b i p)
  | clo (f : FuncId) (caps : Array Value) (l : List AV) (hs : caps.size = l.length) (hc : ∀ j, j < l.length → Rep w F φ (caps.getD j undef) (l.getD j .any)) :
      Rep w F φ (.func (.func f) #[] caps) (.clo f l)
  | mc (cs : Array Value) (sh : Shape) (x : AV) (hs : cs.size = sh.size)
      (hr : ∀ j, j < sh.size → Rep w F φ (cs.getD j undef) (leafAt sh x j)) : Rep w F φ (.agg cs) (.mc sh x)
  | tup (vs : Array Value) (l : List AV) (hs : vs.size = l.length) (hc : ∀ j, j < l.length → Rep w F φ (vs.getD j undef) (l.getD j .any)) : Rep w F φ (.tuple vs) (.tup l)
  | whenT {v : Value} {x : AV} (q : Bool) (h : q = true → Rep w F φ v x) (h' : q = false → v = undef ∨ x = .any) : Rep w F φ v (.when q x)

/- Box b is named somewhere in x. -/
mutual
def AV.names (b : Nat) : AV → Bool
  | .own c _ | .ptr c _ | .optr c _ _ => Nat.beq c b
  | .agg l | .tup l | .clo _ l => AV.namesL b l
  | .mc _ x | .when _ x => x.names b
  | _ => false
def AV.namesL (b : Nat) : List AV → Bool
  | [] => false
  | x :: l => x.names b || AV.namesL b l
end

theorem namesL_getD {b : Nat} : ∀ {l : List AV} {j : Nat}, (l.getD j .any).names b = true → AV.namesL b l = true
  | [], j, h => by simp [AV.names] at h
  | x :: l, 0, h => by simp at h; simp [AV.namesL, h]
  | x :: l, j + 1, h => by
    simp only [List.getD_cons_succ] at h
    simp [AV.namesL, namesL_getD h]

mutual
theorem names_leafAt {b : Nat} : ∀ (sh : Shape) (x : AV) (j : Nat), (leafAt sh x j).names b = true → x.names b = true
  | .leaf, x, j, h => by
    simp only [leafAt, asLeaf] at h; split at h <;> first | exact h | simp [AV.names] at h
  | .agg ss, x, j, h => by
    cases x with
    | agg xs => simp only [leafAt] at h; simp only [AV.names]; exact names_leafsAt ss xs j h
    | _ => simp [leafAt, AV.names] at h
  | .arr n s, x, j, h => by
    cases x with
    | arr m f => simp [leafAt, AV.names] at h
    | _ => simp [leafAt, AV.names] at h
theorem names_leafsAt {b : Nat} : ∀ (ss : List Shape) (xs : List AV) (j : Nat), (leafsAt ss xs j).names b = true → AV.namesL b xs = true
  | s :: ss, x :: xs, j, h => by
    simp only [leafsAt] at h
    simp only [AV.namesL, Bool.or_eq_true]
    split at h
    · exact .inl (names_leafAt s x j h)
    · exact .inr (names_leafsAt ss xs _ h)
  | [], _, _, h => by simp [leafsAt, AV.names] at h
  | _ :: _, [], _, h => by simp [leafsAt, AV.names] at h
end

theorem Rep.keep {w w' : World} {F F' : Nat → Prop} {φ φ' : Nat → Place} {v : Value} {x : AV} (h : Rep w F φ v x) (hw : ∀ k, F k → w'.heap[k]? = w.heap[k]?) (hF : ∀ k, F k → F' k)
    (hφ : ∀ b, x.names b = true → φ' b = φ b) : Rep w' F' φ' v x := by
  induction h with
  | stat h => exact .stat (h.keep hw hF)
  | st h => exact .st (h.keep hw hF)
  | own b g n hb hn =>
    have e := hφ b (by simp [AV.names])
    rw [← e] at hb hn ⊢
    exact .own b g n hb hn
  | own0 b hb => exact .own0 b (by rw [hφ b (by simp [AV.names])]; exact hb)
  | ptr b g p hb hp =>
    have e := hφ b (by simp [AV.names])
    rw [← e] at hb hp ⊢
    exact .ptr b g p hb hp
  | optr b g i p hb hp =>
    have e := hφ b (by simp [AV.names])
    rw [← e] at hb hp ⊢
    exact .optr b g i p hb hp
  | clo f caps l hs _ ih => exact .clo f caps l hs fun j hj => ih j hj fun b hb => hφ b (by simp only [AV.names]; exact namesL_getD hb)
  | mc cs sh x hs _ ih => exact .mc cs sh x hs fun j hj => ih j hj fun b hb => hφ b (by simp only [AV.names]; exact names_leafAt sh x j hb)
  | tup vs l hs _ ih => exact .tup vs l hs fun j hj => ih j hj fun b hb => hφ b (by simp only [AV.names]; exact namesL_getD hb)
  | whenT q _ h' ih => exact .whenT q (fun hq => ih hq fun b hb => hφ b (by simpa [AV.names] using hb)) h'

theorem Rep.strip {w : World} {F : Nat → Prop} {φ : Nat → Place} {v : Value} {x y : AV} (hs : Strip x y) (h : Rep w F φ v x) : Rep w F φ v y := by
  induction hs with
  | refl => exact h
  | st _ ih =>
    cases h with
    | stat h => cases h with | st h => exact ih (.stat h)
    | st h => exact ih (.stat h)

/-- Static terms read as plain data. -/
theorem Rep.toS {w : World} {F : Nat → Prop} {φ : Nat → Place} {v : Value} {x : AV} (h : Rep w F φ v x) (hs : x.isStat = true) : RepS w F v x := by
  induction h with
  | stat h => exact h
  | st h => exact .st h
  | mc cs sh x hsz _ ih =>
    refine .mc cs sh x hsz fun j hj => ih j hj ?_
    exact stat_leafAt sh x j (by simpa [AV.isStat] using hs)
  | clo f caps l hsz _ ih =>
    refine .clo f caps l hsz fun j hj => ih j hj ?_
    exact areStat_getD (by simpa [AV.isStat] using hs) j
  | _ => simp [AV.isStat] at hs

theorem RepS.one {w : World} {F : Nat → Prop} {v : Value} {x : AV} (h : RepS w F v x) (hx : x.isOne = true) : v.oneCell' = true := by
  cases h with
  | any _ h => exact h
  | cov _ _ h => exact h
  | mc => simp [AV.isOne] at hx
  | st => simp [AV.isOne] at hx
  | _ => rfl
theorem Rep.one {w : World} {F : Nat → Prop} {φ : Nat → Place} {v : Value} {x : AV} (h : Rep w F φ v x) (hx : x.isOne = true) : v.oneCell' = true := by
  cases h with
  | stat h => exact h.one hx
  | st => simp [AV.isOne] at hx
  | mc => simp [AV.isOne] at hx
  | tup => simp [AV.isOne] at hx
  | whenT => simp [AV.isOne] at hx
  | _ => rfl

mutual
theorem RepS.leaf1 {w : World} {F : Nat → Prop} {v : Value} : ∀ (sh : Shape) (x : AV) (j : Nat), RepS w F v (leafAt sh x j) → v.oneCell' = true
  | .leaf, x, j, h => by
    simp only [leafAt, asLeaf] at h
    split at h
    · rename_i e; exact h.one e
    · exact h.one rfl
  | .agg ss, x, j, h => by
    cases x with
    | agg xs => simp only [leafAt] at h; exact RepS.leafs1 ss xs j h
    | _ => simp only [leafAt] at h; exact h.one rfl
  | .arr n s, x, j, h => by
    cases x with
    | arr m f => simp only [leafAt] at h; cases h with | st h => exact RepS.leaf1 s _ _ h
    | _ => simp only [leafAt] at h; exact h.one rfl
theorem RepS.leafs1 {w : World} {F : Nat → Prop} {v : Value} : ∀ (ss : List Shape) (xs : List AV) (j : Nat), RepS w F v (leafsAt ss xs j) → v.oneCell' = true
  | s :: ss, x :: xs, j, h => by
    simp only [leafsAt] at h
    split at h
    · exact RepS.leaf1 s x j h
    · exact RepS.leafs1 ss xs _ h
  | [], _, _, h => by simp only [leafsAt] at h; exact h.one rfl
  | _ :: _, [], _, h => by simp only [leafsAt] at h; exact h.one rfl
end
mutual
theorem Rep.leaf1 {w : World} {F : Nat → Prop} {φ : Nat → Place} {v : Value} : ∀ (sh : Shape) (x : AV) (j : Nat), Rep w F φ v (leafAt sh x j) → v.oneCell' = true
  | .leaf, x, j, h => by
    simp only [leafAt, asLeaf] at h
    split at h
    · rename_i e; exact h.one e
    · exact h.one rfl
  | .agg ss, x, j, h => by
    cases x with
    | agg xs => simp only [leafAt] at h; exact Rep.leafs1 ss xs j h
    | _ => simp only [leafAt] at h; exact h.one rfl
  | .arr n s, x, j, h => by
    cases x with
    | arr m f =>
      simp only [leafAt] at h
      cases h with
      | stat h => cases h with | st h => exact RepS.leaf1 s _ _ h
      | st h => exact RepS.leaf1 s _ _ h
    | _ => simp only [leafAt] at h; exact h.one rfl
theorem Rep.leafs1 {w : World} {F : Nat → Prop} {φ : Nat → Place} {v : Value} : ∀ (ss : List Shape) (xs : List AV) (j : Nat), Rep w F φ v (leafsAt ss xs j) → v.oneCell' = true
  | s :: ss, x :: xs, j, h => by
    simp only [leafsAt] at h
    split at h
    · exact Rep.leaf1 s x j h
    · exact Rep.leafs1 ss xs _ h
  | [], _, _, h => by simp only [leafsAt] at h; exact h.one rfl
  | _ :: _, [], _, h => by simp only [leafsAt] at h; exact h.one rfl
end
end Go.AV
/- The reckoning of operations on abstract values: a program's regions as plain functions of a state. -/
namespace Go.AV
open Go.RowKit

def get {α : Type} : List (Nat × α) → Nat → Option α
  | [], _ => none
  | (k, v) :: l, s => match Nat.beq k s with
    | true => some v
    | false => get l s
def del {α : Type} : List (Nat × α) → Nat → List (Nat × α)
  | [], _ => []
  | (k, v) :: l, s => match Nat.beq k s with
    | true => del l s
    | false => (k, v) :: del l s
def put {α : Type} (l : List (Nat × α)) (s : Nat) (v : α) : List (Nat × α) := (s, v) :: del l s

inductive BoxC where
  | cell (ty : TypeId) (sh : Shape) (x : AV)
  | row (ty : TypeId) (sh : Shape) (n : Nat) (f : Nat → AV)

structure St where
  env : List (Nat × AV)
  heap : List (Nat × BoxC)

inductive TyK where
  | int (k : IntKind)
  | bool
  | string
  | slice (e : TypeId)
  | arr (n : Nat) (e : TypeId)
  | struct (fs : List TypeId)
  | other

structure TyE where
  sh : Shape
  zero : AV
  bytes : Nat
  kind : TyK
  /-- a struct of numbers, Booleans and strings alone, compared field by field -/
  eqs : Bool

/-- What a function's reckoning is given: the types, the package's variables, whether sums wrap. -/
structure Cfg where
  P : Program
  T : List (Nat × TyE)
  G : List (Nat × AV)
  wraps : Bool
  ntmps : Nat
  /-- what a function makes anew and hands back as its caller's own: rows, named 0, 1, .. in its answer -/
  fresh : FuncId → List AV → Option (List BoxC) := fun _ _ => none
  CCF : FuncId → List AV → AV → List BoxC → Prop := fun _ _ _ _ => False
  /-- what a function does to the boxes that are lent to it (named 0, 1, .. in its arguments): its answer, and each box afterwards (none: gone); behind them what it made anew -/
  lent : FuncId → List AV → List BoxC → Option (AV × List (Option BoxC)) := fun _ _ _ => none
  CCL : FuncId → List AV → List BoxC → AV → List (Option BoxC) → Prop := fun _ _ _ _ _ => False
  /-- when a function panics, and with what -/
  pan : FuncId → List AV → List BoxC → Option (Bool × Value) := fun _ _ _ => none
  CCP : FuncId → List AV → List BoxC → Bool → Value → Prop := fun _ _ _ _ _ => False
  mayPan : FuncId → Bool := fun _ => false
  /-- new rows are told from old ones -/
  told : Bool := false

/-- What an operation does to the boxes. -/
inductive Eff where
  | none
  | new (c : BoxC)
  | upd (b : Nat) (c : BoxC)
  | grow (b : Nat) (c : BoxC)

structure Res where
  val : AV
  eff : Eff
  obs : List Prop

def constAV : Value → Option AV
  | .int k n => match decide (k.wrap n = n) with | true => some (.int k n) | false => none
  | .bool b => some (.bool b)
  | .string s => some (.str s.data.toList)
  | .slice none 0 0 => some .nils
  | .pointer none => some .nilp
  | .nilFunc | .nilIface | .map none => some .any
  | _ => none

def ev (C : Cfg) (st : St) : Operand → Option AV
  | .tmp t => get st.env t
  | .const v => constAV v
  | .global g => get C.G g
  | .func f => some (.clo f [])

def strip1 : AV → AV
  | .when _ x => x
  | x => x
def whenOb : AV → List Prop
  | .when q' _ => [q' = true]
  | _ => []

/-- A part of a tree as a value, and a value as a part of a tree. -/
def wrapV (sh : Shape) (x : AV) : Option AV :=
  match sh with
  | .leaf => match x.isOne with | true => some x | false => none
  | _ => some (.mc sh x)
def unwV (sh : Shape) (x : AV) : Option AV :=
  match sh, x with
  | .leaf, x => match x.isOne with | true => some x | false => none
  | sh, .mc sh' y => match sh.same sh' with | true => some y | false => none
  | _, _ => none

def isFalse : Operand → Bool
  | .const (.bool false) => true
  | _ => false
def isTrue : Operand → Bool
  | .const (.bool true) => true
  | _ => false

/-- 'p && a', 'p || b', or a choice. -/
def pickAV (p : Bool) (xf yf : Bool) : AV → AV → Option AV
  | .bool a, .bool b => match yf, xf with
    | true, _ => some (.bool (p && a))
    | _, true => some (.bool (p || b))
    | _, _ => some (.bool (bif p then a else b))
  | .int k a, .int k' b => match decide (k = k') with | true => some (.int k (bif p then a else b)) | false => none
  | _, _ => none

def arith (C : Cfg) (k : IntKind) (n : Int) : Res :=
  match C.wraps with
  | true => ⟨.int k (k.wrap n), .none, []⟩
  | false => ⟨.int k n, .none, [InR k n]⟩

def eqAV (k : TyK) (x y : AV) : Option Bool :=
  match k, x, y with
  | .int _, .int k a, .int k' b => match decide (k = k') with | true => some (a == b) | false => none
  | .bool, .bool a, .bool b => some (a == b)
  | .string, .str a, .str b => some (a == b)
  | _, _, _ => none

def tyOf (C : Cfg) (t : TypeId) : Option TyE := get C.T t

def eqAVs (C : Cfg) : List TypeId → List AV → List AV → Option Bool
  | [], [], [] => some true
  | t :: ts, x :: l, y :: m => match tyOf C t with
    | some te => match eqAV te.kind x y, eqAVs C ts l m with
      | some a, some b => some (a && b)
      | _, _ => none
    | none => none
  | _, _, _ => none

def fieldsOf : TyK → List TypeId
  | .struct fs => fs
  | _ => []

def shiftAV (op : BinOp) : AV → AV → Option Res
  | .int k a, .int _ b => match op with
    | .shl => some ⟨.int k (k.wrap (a * 2 ^ b.toNat)), .none, [0 ≤ b ∧ b ≤ k.bits]⟩
    | .shr => some ⟨.int k (a / 2 ^ b.toNat), .none, [0 ≤ b ∧ b ≤ k.bits, InR k (a / 2 ^ b.toNat)]⟩
    | _ => none
  | _, _ => none

def binAV (C : Cfg) (te : TyE) (op : BinOp) (x y : AV) : Option Res :=
  match x, y with
  | .int k a, .int k' b => match decide (k = k') with
    | true => match op with
      | .add => some (arith C k (a + b))
      | .sub => some (arith C k (a - b))
      | .mul => some (arith C k (a * b))
      | .quo => some { arith C k (a.tdiv b) with obs := (b ≠ 0) :: (arith C k (a.tdiv b)).obs }
      | .rem => some ⟨.int k (a.tmod b), .none, [b ≠ 0, InR k (a.tmod b)]⟩
      | .eql => some ⟨.bool (a == b), .none, []⟩
      | .neq => some ⟨.bool (a != b), .none, []⟩
      | .lss => some ⟨.bool (decide (a < b)), .none, []⟩
      | .leq => some ⟨.bool (decide (a ≤ b)), .none, []⟩
      | .gtr => some ⟨.bool (decide (b < a)), .none, []⟩
      | .geq => some ⟨.bool (decide (b ≤ a)), .none, []⟩
      | .and => some ⟨.int k (bits .and k a b), .none, []⟩
      | .or => some ⟨.int k (bits .or k a b), .none, []⟩
      | .xor => some ⟨.int k (bits .xor k a b), .none, []⟩
      | _ => none
    | false => none
  | .bool a, .bool b => match te.kind with
    | .bool => match op with
      | .eql => some ⟨.bool (a == b), .none, []⟩
      | .neq => some ⟨.bool (!(a == b)), .none, []⟩
      | _ => none
    | _ => none
  | .str a, .str b => match op with
    | .eql => some ⟨.bool (a == b), .none, []⟩
    | .neq => some ⟨.bool (!(a == b)), .none, []⟩
    | .add => some ⟨.str (a ++ b), .none, [((a.length + b.length : Nat) : Int) ≤ 9223372036854775807]⟩
    | _ => none
  | .mc (.agg ss) (.agg xs), .mc (.agg ts) (.agg ys) => match te.eqs && ((Shape.agg ss).same te.sh && (Shape.agg ts).same te.sh), eqAVs C (fieldsOf te.kind) xs ys with
    | true, some b => match op with
      | .eql => some ⟨.bool b, .none, []⟩
      | .neq => some ⟨.bool (!b), .none, []⟩
      | _ => none
    | _, _ => none
  | _, _ => none

def kindLe : IntKind → IntKind → Bool
  | .u8, .u8 | .u8, .i64 | .u8, .u64 | .u8, .i32 | .u8, .u32 | .i64, .i64 | .u64, .u64 | .i32, .i32 | .i32, .i64 | .u32, .u32 | .u32, .i64 | .u32, .u64 => true
  | _, _ => false

def setPart (ss : List Shape) (zs : List AV) : List (Nat × AV) → Option (List AV)
  | [] => some zs
  | (i, v) :: l => match ss[i]? with
    | some s => match unwV s v with
      | some y => setPart ss (zs.set i y) l
      | none => none
    | none => none

def setElems (s : Shape) (len : Nat) (zs : List AV) : List (Nat × AV) → Option (List AV)
  | [] => some zs
  | (i, v) :: l => match unwV s v with
    | some y => match y.isStat && Nat.blt i len with
      | true => setElems s len (zs.set i y) l
      | false => none
    | none => none

def evParts (e : Operand → Option AV) : List (Nat × Operand) → Option (List (Nat × AV))
  | [] => some []
  | (i, x) :: l => match e x, evParts e l with
    | some v, some vs => some ((i, v) :: vs)
    | _, _ => none
def evList (e : Operand → Option AV) : List Operand → Option (List AV)
  | [] => some []
  | x :: l => match e x, evList e l with
    | some v, some vs => some (v :: vs)
    | _, _ => none

/- No fact of the state names the box. -/
def namesEnv (b : Nat) : List (Nat × AV) → Bool
  | [] => false
  | (_, x) :: l => x.names b || namesEnv b l
/-- A row, and no cell. -/
def BoxC.isRow : BoxC → Bool
  | .row _ _ _ _ => true
  | _ => false
def BoxC.names (b : Nat) : BoxC → Bool
  | .cell _ _ x => x.names b
  | .row _ _ _ _ => false
def namesHeap (b : Nat) : List (Nat × BoxC) → Bool
  | [] => false
  | (k, c) :: l => Nat.beq k b || c.names b || namesHeap b l
/-- Names from here on are those of lent boxes. -/
def lentN : Nat := 1099511627776
def freshBox (st : St) (b : Nat) : Bool := !(namesEnv b st.env || (namesHeap b st.heap || !Nat.blt b 1099511627776))
/- The facts of the slots that name b are given up. -/
def killEnv (b : Nat) : List (Nat × AV) → List (Nat × AV)
  | [] => []
  | (k, x) :: l => (k, match x.names b with | true => .when false .any | false => x) :: killEnv b l
mutual
def AV.kill (b : Nat) : AV → AV
  | .own c n => match Nat.beq c b with | true => .any | false => .own c n
  | .ptr c p => match Nat.beq c b with | true => .any | false => .ptr c p
  | .optr c i p => match Nat.beq c b with | true => .any | false => .optr c i p
  | .clo f l => match AV.namesL b l with | true => .any | false => .clo f l
  | .agg l => .agg (AV.killL b l)
  | x => x
def AV.killL (b : Nat) : List AV → List AV
  | [] => []
  | x :: l => x.kill b :: AV.killL b l
end
def BoxC.kill (b : Nat) (c : BoxC) : BoxC :=
  match c with
  | .cell tc sh x => match x.names b with | true => .cell tc sh (x.kill b) | false => .cell tc sh x
  | c => c
def killHeap (b : Nat) : List (Nat × BoxC) → List (Nat × BoxC)
  | [] => []
  | (k, c) :: l => (k, c.kill b) :: killHeap b l

/- What the call's own rows read as for a callee: plain data; and what is owed for it. -/
mutual
def frz (h : List (Nat × BoxC)) : AV → Option (AV × List Prop)
  | .own b n => match get h b with
    | some (.row _ sh n' f) => some (.seq sh n f, [n ≤ n'])
    | _ => none
  | .ptr b p => match get h b with
    | some (.cell tc sh x) => match pathSh p sh, nav p sh x with
      | some s, some y => match y.isStat with
        | true => some (.rptr s y, [])
        | false => none
      | _, _ => none
    | _ => none
  | .agg l => match frzs h l with | some (m, ps) => some (.agg m, ps) | none => none
  | .clo f l => match frzs h l with | some (m, ps) => some (.clo f m, ps) | none => none
  | .mc sh x => match frz h x with | some (y, ps) => some (.mc sh y, ps) | none => none
  | .optr _ _ _ | .tup _ | .when _ _ => none
  | x => some (x, [])
def frzs (h : List (Nat × BoxC)) : List AV → Option (List AV × List Prop)
  | [] => some ([], [])
  | x :: l => match frz h x, frzs h l with
    | some (y, ps), some (m, qs) => some (y :: m, ps ++ qs)
    | _, _ => none
end

/- Data that holds no memory. -/
mutual
def AV.isScalar : AV → Bool
  | .int _ _ | .bool _ | .str _ | .nils | .nilp => true
  | .agg l | .tup l => AV.areScalar l
  | .mc _ x => x.isScalar
  | .arr _ _ => false
  | _ => false
def AV.areScalar : List AV → Bool
  | [] => true
  | x :: l => x.isScalar && AV.areScalar l
end

/-- What a call may hand back: plain data, or several. -/
def AV.isRes : AV → Bool
  | .tup l => AV.areStat l
  | x => x.isStat

def lenAV : AV → Option Nat
  | .seq _ n _ | .seqc _ n _ | .own _ n | .nseq _ _ n _ => some n
  | .nils => some 0
  | _ => none

/-- The shape of the part of box b that path p leads to. -/
def boxSh (st : St) (b : Nat) (p : List Nat) : Option Shape :=
  match get st.heap b with
  | some (.cell _ sh _) => pathSh p sh
  | _ => none
def rowSh (st : St) (b : Nat) (p : List Nat) : Option Shape :=
  match get st.heap b with
  | some (.row _ sh _ _) => pathSh p sh
  | _ => none

def inIx (i : Int) (n : Nat) : Prop := 0 ≤ i ∧ i < (n : Int)

def ixAV : Option AV → Option Int
  | some (.int _ i) => some i
  | _ => none

/-- A bound of a cut, or what stands for it. -/
def bndOf (e : Operand → Option AV) (d : Int) : Option Operand → Option Int
  | none => some d
  | some o => ixAV (e o)

def fieldAV (st : St) (te : TyE) (f : Nat) : AV → Option AV
  | .ptr b p => match boxSh st b p with
    | some s => match s.same te.sh with
      | true => some (.ptr b (p ++ [f]))
      | false => none
    | none => none
  | .optr b i p => match rowSh st b p with
    | some s => match s.same te.sh with
      | true => some (.optr b i (p ++ [f]))
      | false => none
    | none => none
  | .rptr (.agg ss) (.agg xs) => match (Shape.agg ss).same te.sh with
    | true => match ss[f]?, xs[f]? with
      | some s, some x => some (.rptr s x)
      | _, _ => none
    | false => none
  | _ => none

def fieldCount : TyK → Nat
  | .struct fs => fs.length
  | _ => 0

/-- The reckoning of one operation; 'e': its operands. -/
def absOp (C : Cfg) (st : St) (e : Operand → Option AV) (dst : Option Nat) (orc : FuncId → List AV → Option AV) (CC : FuncId → List AV → AV → Prop) : Op → Option Res
  | .move x | .assign x => match e x with | some v => some ⟨v, .none, []⟩ | none => none
  | .alloc t => match tyOf C t, dst with
    | some te, some d => some ⟨.ptr d [], .new (.cell t te.sh te.zero), []⟩
    | _, _ => none
  | .box t x => match tyOf C t, dst, e x with
    | some te, some d, some v => match unwV te.sh v with
      | some y => some ⟨.ptr d [], .new (.cell t te.sh y), []⟩
      | none => none
    | _, _, _ => none
  | .build t parts => match tyOf C t, evParts e parts.toList with
    | some te, some ps => match te.sh, te.zero with
      | .agg ss, .agg zs => match setPart ss zs ps, Nat.beq zs.length ss.length with
        | some ys, true => some ⟨.mc (.agg ss) (.agg ys), .none, []⟩
        | _, _ => none
      | .arr n s, .arr _ f => match setElems s n ((List.range n).map f) ps with
        | some ys => some ⟨.mc (.arr n s) (.arr n (fun i => ys.getD i (f 0))), .none, []⟩
        | none => none
      | _, _ => none
    | _, _ => none
  | .buildSlice t len parts => match tyOf C t, evParts e parts.toList, dst with
    | some te, some ps, some d => match te.kind with
      | .slice el => match tyOf C el with
        | some tl => match setElems tl.sh len (List.replicate len tl.zero) ps, tl.zero.isStat with
          | some ys, true => some ⟨.own d len, .new (.row el tl.sh len (fun i => ys.getD i .any)), [len * tl.sh.size ≤ 16777216]⟩
          | _, _ => none
        | none => none
      | _ => none
    | _, _, _ => none
  | .load t a => match tyOf C t with
    | some te => match e a with
      | some (.ptr b p) => match get st.heap b with
        | some (.cell tc sh x) => match pathSh p sh, nav p sh x with
          | some s, some y => match s.same te.sh with
            | true => match wrapV te.sh y with | some z => some ⟨z, .none, []⟩ | none => none
            | false => none
          | _, _ => none
        | _ => none
      | some (.optr b i p) => match get st.heap b with
        | some (.row _ sh n f) => match pathSh p sh, nav p sh (f i) with
          | some s, some y => match s.same te.sh with
            | true => match wrapV te.sh y with | some z => some ⟨z, .none, [i < n]⟩ | none => none
            | false => none
          | _, _ => none
        | _ => none
      | some (.rptr sh x) => match sh.same te.sh with
        | true => match wrapV te.sh x with | some z => some ⟨z, .none, []⟩ | none => none
        | false => none
      | _ => none
    | none => none
  | .store t a v => match tyOf C t, e v, dst with
    | some te, some v, none => match unwV te.sh v with
      | some y => match e a with
        | some (.ptr b p) => match get st.heap b with
          | some (.cell tc sh x) => match pathSh p sh, setAt p sh x y with
            | some s, some x' => match s.same te.sh with
              | true => some ⟨.any, .upd b (.cell tc sh x'), []⟩
              | false => none
            | _, _ => none
          | _ => none
        | some (.optr b i p) => match get st.heap b with
          | some (.row ty sh n f) => match pathSh p sh, setAt p sh (f i) y with
            | some s, some x' => match s.same te.sh && y.isStat with
              | true => some ⟨.any, .upd b (.row ty sh n (fun j => if j = i then x' else f j)), [i < n]⟩
              | false => none
            | _, _ => none
          | _ => none
        | _ => none
      | none => none
    | _, _, _ => none
  | .nilCheck x => match e x with
    | some (.ptr b p) => some ⟨.ptr b p, .none, []⟩
    | some (.optr b i p) => some ⟨.optr b i p, .none, []⟩
    | some (.rptr s x) => some ⟨.rptr s x, .none, []⟩
    | some (.clo f l) => some ⟨.clo f l, .none, []⟩
    | _ => none
  | .binOp op t x y _ => match op with
    | .shl | .shr => match e x, e y with
      | some a, some b => shiftAV op a b
      | _, _ => none
    | _ => match tyOf C t, e x, e y with
      | some te, some a, some b => binAV C te op a b
      | _, _, _ => none
  | .unOp op _ x => match op, e x with
    | .not, some (.bool b) => some ⟨.bool (!b), .none, []⟩
    | .neg, some (.int k n) => some (arith C k (0 - n))
    | _, _ => none
  | .convert src dst x => match tyOf C src, tyOf C dst, e x with
    | some ts, some td, some (.int k n) => match ts.kind, td.kind with
      | .int k0, .int k' => match decide (k0 = k) && kindLe k k' with
        | true => some ⟨.int k' n, .none, []⟩
        | false => some ⟨.int k' (k'.wrap n), .none, []⟩
      | _, _ => none
    | some ts, some td, some (.str l) => match ts.kind, td.kind with
      | .string, .string => some ⟨.str l, .none, []⟩
      | _, _ => none
    | _, _, _ => none
  | .makeFunc (.func f) first captured => match first.size, evList e captured.toList with
    | 0, some l => some ⟨.clo f l, .none, []⟩
    | _, _ => none
  | .makeSlice t ln cp => match tyOf C t, ixAV (e ln), ixAV (e cp), dst with
    | some te, some n, some c, some d => match te.kind with
      | .slice el => match tyOf C el with
        | some tl => match tl.zero.isStat with
          | true => some ⟨.own d n.toNat, .new (.row el tl.sh n.toNat (fun _ => tl.zero)), [0 ≤ n ∧ n ≤ c ∧ (tl.bytes : Int) * c ≤ 140737488355328 ∧ c ≤ 9223372036854775807]⟩
          | false => none
        | none => none
      | _ => none
    | _, _, _, _ => none
  | .slice t x lo hi mx => match tyOf C t, e x with
    | some te, some v => match te.kind with
      | .string => match v with
        | .str l => match bndOf e 0 lo, bndOf e (l.length : Int) hi, mx with
          | some a, some b, none => some ⟨.str ((l.drop a.toNat).take (b - a).toNat), .none, [0 ≤ a ∧ a ≤ b ∧ b ≤ (l.length : Int)]⟩
          | _, _, _ => none
        | _ => none
      | .slice el => match tyOf C el, v with
        | some tl, .seq sh n f => match sh.same tl.sh, bndOf e 0 lo, bndOf e (n : Int) hi, mx with
          | true, some a, some b, none => some ⟨.seq sh (b - a).toNat (fun i => f (a.toNat + i)), .none, [0 ≤ a ∧ a ≤ b ∧ b ≤ (n : Int)]⟩
          | true, some a, some b, some m => match ixAV (e m), hi.isSome with
            | some m, true => some ⟨.seqc sh (b - a).toNat (fun i => f (a.toNat + i)), .none, [0 ≤ a ∧ a ≤ b ∧ b ≤ (n : Int) ∧ m = b]⟩
            | _, _ => none
          | _, _, _, _ => none
        | some tl, .own b n => match get st.heap b with
          | some (.row _ sh _ _) => match sh.same tl.sh, bndOf e 0 lo, bndOf e (n : Int) hi, mx with
            | true, some 0, some h, none => some ⟨.own b h.toNat, .none, [0 ≤ h ∧ h ≤ (n : Int)]⟩
            | _, _, _, _ => none
          | _ => none
        | _, _ => none
      | _ => none
    | _, _ => none
  | .fieldAddr t x f => match tyOf C t, e x with
    | some te, some v => match Nat.blt f (fieldCount te.kind) with
      | true => match fieldAV st te f v with
        | some r => some ⟨r, .none, []⟩
        | none => none
      | false => none
    | _, _ => none
  | .field t x f => match tyOf C t, e x with
    | some te, some (.mc (.agg ss) (.agg xs)) => match (Shape.agg ss).same te.sh && Nat.blt f (fieldCount te.kind), ss[f]?, xs[f]? with
      | true, some s, some y => match wrapV s y with | some z => some ⟨z, .none, []⟩ | none => none
      | _, _, _ => none
    | _, _ => none
  | .indexAddr t x ix => match tyOf C t, e x, ixAV (e ix) with
    | some te, some v, some i => match te.kind with
      | .slice el => match tyOf C el with
        | some tl => match v with
          | .seq sh n f | .seqc sh n f | .nseq _ sh n f => match sh.same tl.sh with
            | true => some ⟨.rptr sh (f i.toNat), .none, [inIx i n]⟩
            | false => none
          | .own b n => match get st.heap b with
            | some (.row _ sh _ _) => match sh.same tl.sh with
              | true => some ⟨.optr b i.toNat [], .none, [inIx i n]⟩
              | false => none
            | _ => none
          | _ => none
        | none => none
      | .arr n el => match v with
        | .ptr b p => match boxSh st b p with
          | some s => match s.same te.sh with
            | true => some ⟨.ptr b (p ++ [i.toNat]), .none, [inIx i n]⟩
            | false => none
          | none => none
        | .optr b k p => match rowSh st b p with
          | some s => match s.same te.sh with
            | true => some ⟨.optr b k (p ++ [i.toNat]), .none, [inIx i n]⟩
            | false => none
          | none => none
        | .rptr (.arr m s) (.arr _ f) => match (Shape.arr m s).same te.sh with
          | true => some ⟨.rptr s (f i.toNat), .none, [inIx i n]⟩
          | false => none
        | _ => none
      | _ => none
    | _, _, _ => none
  | .index t x ix => match tyOf C t, e x, ixAV (e ix) with
    | some te, some v, some i => match te.kind, v with
      | .string, .str l => some ⟨.int .u8 ((l.getD i.toNat 0).toNat : Int), .none, [inIx i l.length]⟩
      | .arr n _, .mc (.arr m s) (.arr _ f) => match (Shape.arr m s).same te.sh with
        | true => match wrapV s (f i.toNat) with | some z => some ⟨z, .none, [inIx i n]⟩ | none => none
        | false => none
      | _, _ => none
    | _, _, _ => none
  | .extract x i => match e x with
    | some (.tup l) => match l[i]? with | some v => some ⟨v, .none, []⟩ | none => none
    | _ => none
  | .call c => match c.callee with
    | .builtin .len => match c.args.toList, c.argTypes.toList with
      | [x], [t] => match tyOf C t, e x with
        | some te, some v => match te.kind with
          | .slice _ => match lenAV v with | some n => some ⟨.int .i64 (n : Int), .none, [(n : Int) ≤ 9223372036854775807]⟩ | none => none
          | .string => match v with | .str l => some ⟨.int .i64 (l.length : Int), .none, [(l.length : Int) ≤ 9223372036854775807]⟩ | _ => none
          | .arr n _ => match Nat.ble n 9223372036854775807 with | true => some ⟨.int .i64 (n : Int), .none, []⟩ | false => none
          | _ => none
        | _, _ => none
      | _, _ => none
    | .builtin .append => match c.args.toList, c.argTypes.toList, dst with
      | [x, y], [t, t'], some d => match tyOf C t, Nat.beq t t', e x, e y with
        | some te, true, some v, some u => match te.kind with
          | .slice el => match tyOf C el with
            | some tl =>
              match (match u with
                | .seq sh m g | .seqc sh m g => some (sh, m, g, [])
                | .own b m => match get st.heap b with | some (.row _ sh n' g) => some (sh, m, g, [m ≤ n']) | _ => none
                | .nils => some (tl.sh, 0, (fun _ => AV.any), [])
                | _ => none : Option (Shape × Nat × (Nat → AV) × List Prop)) with
              | some (su, m, g, ps) => match su.same tl.sh && tl.zero.isStat, v with
                | true, .nils => some ⟨.own d m, .new (.row el su m g), ((m : Int) * tl.bytes ≤ 140737488355328 ∧ m ≤ 9223372036854775807) :: ps⟩
                | true, .seqc sh n f => match sh.same su with
                  | true => some ⟨.own d (n + m), .new (.row el su (n + m) (fun i => if i < n then f i else g (i - n))), (0 < m ∧ ((n + m : Nat) : Int) * tl.bytes ≤ 140737488355328 ∧ n + m ≤ 9223372036854775807) :: ps⟩
                  | false => none
                | true, .own b n => match get st.heap b with
                  | some (.row ty sh n' f) => match Nat.beq ty el && sh.same su && (match u with | .own b' _ => !Nat.beq b b' | _ => true) with
                    | true => some ⟨.own b (n + m), .grow b (.row ty sh (n + m) (fun i => if i < n then f i else g (i - n))), (n = n' ∧ ((n + m : Nat) : Int) * tl.bytes ≤ 140737488355328 ∧ n + m ≤ 9223372036854775807) :: ps⟩
                    | false => none
                  | _ => none
                | _, _ => none
              | none => none
            | none => none
          | _ => none
        | _, _, _, _ => none
      | _, _, _ => none
    | .builtin .copy => match c.args.toList, c.argTypes.toList with
      | [x, y], [t, t'] => match tyOf C t, tyOf C t', e x, e y with
        | some te, some te', some (.own b n), some u => match te.kind, te'.kind with
          | .slice el, .slice el' => match tyOf C el, Nat.beq el el', get st.heap b with
            | some tl, true, some (.row ty sh n' f) =>
              match (match u with
                | .seq su m g | .seqc su m g => some (su, m, g)
                | .nils => some (tl.sh, 0, fun _ => AV.any)
                | _ => none : Option (Shape × Nat × (Nat → AV))) with
              | some (su, m, g) => match su.same tl.sh && sh.same tl.sh with
                | true => some ⟨.int .i64 ((min m n : Nat) : Int), .upd b (.row ty sh n' (fun i => if i < min m n then g i else f i)), [n ≤ n' ∧ (n : Int) ≤ 9223372036854775807]⟩
                | false => none
              | none => none
            | _, _, _ => none
          | _, _ => none
        | _, _, _, _ => none
      | _, _ => none
    | .builtin .min => match c.args.toList with
      | [x, y] => match e x, e y with
        | some (.int k a), some (.int k' b) => match decide (k = k') with | true => some ⟨.int k (if b < a then b else a), .none, []⟩ | false => none
        | _, _ => none
      | _ => none
    | .builtin .max => match c.args.toList with
      | [x, y] => match e x, e y with
        | some (.int k a), some (.int k' b) => match decide (k = k') with | true => some ⟨.int k (if a < b then b else a), .none, []⟩ | false => none
        | _, _ => none
      | _ => none
    | .value fx => match e fx, evList e c.args.toList with
      | some (.clo f caps), some args => match frzs st.heap (args ++ caps) with
        | some (as, ps) => match orc f as with
          | some r => match r.isScalar || (AV.areStat (args ++ caps) && r.isRes) with
            | true => some ⟨r, .none, CC f as r :: ps⟩
            | false => none
          | none => none
        | none => none
      | _, _ => none
    | _ => none
  | _ => none

def applyEff (st : St) (dst : Option Nat) : Eff → Option St
  | .none => some st
  | .new c => match dst with
    | some d => match freshBox st d && !c.names d with
      | true => some { st with heap := put st.heap d c }
      | false => none
    | none => none
  | .upd b c => some { st with heap := put st.heap b c }
  | .grow b c => some { env := killEnv b st.env, heap := put (killHeap b st.heap) b c }

def putDst (st : St) (dst : Option Nat) (v : AV) : St :=
  match dst with
  | some d => { st with env := put st.env d v }
  | none => st

def effIsNone : Eff → Bool
  | .none => true
  | _ => false

def dstOK (C : Cfg) : Option Nat → Bool
  | some d => Nat.blt d C.ntmps
  | none => true

def isPick : Op → Bool
  | .pick _ _ _ => true
  | _ => false

def operandObs (C : Cfg) (st : St) : List Operand → List Prop
  | [] => []
  | x :: l => match ev C st x with
    | some v => whenOb v ++ operandObs C st l
    | none => operandObs C st l

def evS (C : Cfg) (st : St) (x : Operand) : Option AV := match ev C st x with | some v => some (strip1 v) | none => none

def impl (q : Bool) : List Prop → List Prop
  | [] => []
  | p :: l => (q = true → p) :: impl q l

def pickObs (C : Cfg) (st : St) (p : Bool) (c a b : Operand) : List Prop :=
  (match ev C st c with | some v => whenOb v | none => []) ++ impl p (match ev C st a with | some v => whenOb v | none => []) ++ impl (!p) (match ev C st b with | some v => whenOb v | none => [])

/-- One operation whose guard says yes. -/
def absPlain (C : Cfg) (CC : FuncId → List AV → AV → Prop) (orc : FuncId → List AV → Option AV) (st : St) (o : Oper) : Option Res :=
  match o.op with
  | .pick c a b => match evS C st c, evS C st a, evS C st b with
    | some (.bool p), some x, some y => match pickAV p (isTrue a) (isFalse b) x y with
      | some v => some ⟨v, .none, pickObs C st p c a b⟩
      | none => none
    | _, _, _ => none
  | op => match absOp C st (evS C st) o.dst orc CC op with
    | some r => some { r with obs := operandObs C st op.operands.toList ++ r.obs }
    | none => none

/-- The Boolean that a guard asks, and under which it is known. -/
def guardAV (C : Cfg) (st : St) (ops : List Oper) (g : Nat × Bool) : Option Bool :=
  match ops[g.1]? with
  | some o => match o.dst with
    | some d => match get st.env d with
      | some (.bool p) => some (match g.2 with | true => p | false => !p)
      | some (.when q (.bool p)) => some (q && (match g.2 with | true => p | false => !p))
      | _ => none
    | none => none
  | none => none

def absStep (C : Cfg) (CC : FuncId → List AV → AV → Prop) (orc : FuncId → List AV → Option AV) (ops : List Oper) (st : St) (o : Oper) : Option (St × List Prop) :=
  match dstOK C o.dst with
  | false => none
  | true => match o.guard with
    | none => match absPlain C CC orc st o with
      | some r => match applyEff st o.dst r.eff with
        | some st' => some (putDst st' o.dst r.val, r.obs)
        | none => none
      | none => none
    | some g => match guardAV C st ops g with
      | some q => match absPlain C CC orc st o with
        | some r => match effIsNone r.eff with
          | true => some (putDst st o.dst (.when q r.val), impl q r.obs)
          | false => none
        | none => none
      | none => none

def absOps (C : Cfg) (CC : FuncId → List AV → AV → Prop) (orc : Nat → FuncId → List AV → Option AV) (all : List Oper) : List Oper → Nat → St → Option (St × List Prop)
  | [], _, st => some (st, [])
  | o :: rest, i, st => match absStep C CC (orc i) all st o with
    | some (st', ps) => match absOps C CC orc all rest (i + 1) st' with
      | some (st'', qs) => some (st'', ps ++ qs)
      | none => none
    | none => none
end Go.AV
/- When a state of abstract facts fits a frame and a world; how it is kept. -/
namespace Go.AV
open Go.RowKit

theorem get_put_same {α : Type} (l : List (Nat × α)) (s : Nat) (v : α) : get (put l s v) s = some v := by
  simp [put, get]
theorem get_del_same {α : Type} (l : List (Nat × α)) (s : Nat) : get (del l s) s = none := by
  induction l with
  | nil => rfl
  | cons p l ih =>
    obtain ⟨k, v⟩ := p
    simp only [del]
    split
    · exact ih
    · rename_i h; simp only [get, h]; exact ih
theorem get_del_other {α : Type} (l : List (Nat × α)) (s t : Nat) (h : t ≠ s) : get (del l s) t = get l t := by
  induction l with
  | nil => rfl
  | cons p l ih =>
    obtain ⟨k, v⟩ := p
    simp only [del]
    split
    · rename_i hk
      have := Nat.eq_of_beq_eq_true hk
      subst this
      rw [ih]
      have : Nat.beq k t = false := by
        cases e : Nat.beq k t with
        | false => rfl
        | true => exact absurd (Nat.eq_of_beq_eq_true e).symm h
      simp [get, this]
    · simp only [get]; split <;> first | rfl | exact ih
theorem get_put_other {α : Type} (l : List (Nat × α)) (s t : Nat) (v : α) (h : t ≠ s) : get (put l s v) t = get l t := by
  have : Nat.beq s t = false := by
    cases e : Nat.beq s t with
    | false => rfl
    | true => exact absurd (Nat.eq_of_beq_eq_true e).symm h
  simp only [put, get, this]
  exact get_del_other l s t h

/-- Only what is lent, and what is new, has turned. -/
structure Kept (L : Nat → Prop) (w w' : World) : Prop where
  os : w'.os = w.os
  tape : w'.tape = w.tape
  output : w'.output = w.output
  size : w.heap.size ≤ w'.heap.size
  block : ∀ k, k < w.heap.size → ¬ L k → w'.heap[k]? = w.heap[k]?

theorem Kept.refl (L : Nat → Prop) (w : World) : Kept L w w := ⟨rfl, rfl, rfl, Nat.le_refl _, fun _ _ _ => rfl⟩
theorem Kept.trans {L L' : Nat → Prop} {a b c : World} (h : Kept L a b) (k : Kept L' b c) (hL : ∀ i, L' i → i < a.heap.size → L i) : Kept L a c :=
  ⟨k.os.trans h.os, k.tape.trans h.tape, k.output.trans h.output, Nat.le_trans h.size k.size, fun i hi hn => (k.block i (Nat.lt_of_lt_of_le hi h.size) fun hl => hn (hL i hl hi)).trans (h.block i hi hn)⟩
theorem Kept.below {L : Nat → Prop} {a b c : World} (h : Kept L a b) (k : Below b.heap.size b c) : Kept L a c :=
  h.trans (L' := fun _ => False) ⟨k.os, k.tape, k.output, k.size, fun i hi _ => k.block i hi⟩ fun _ hf => hf.elim
theorem Kept.toBelow {a b : World} (h : Kept (fun _ => False) a b) : Below a.heap.size a b := ⟨h.os, h.tape, h.output, h.size, fun k hk => h.block k hk fun hf => hf⟩

/-- How a call was entered: the world, the lent blocks, and where the lent boxes lie. -/
structure Entry where
  w : World
  L : Nat → Prop
  A : Nat → Option Place
  D : List Deferred := []
/-- The blocks that the call may write. -/
def Entry.B (E : Entry) (k : Nat) : Prop := E.w.heap.size ≤ k ∨ E.L k
def Entry.of (w : World) : Entry := ⟨w, fun _ => False, fun _ => none, []⟩

/-- A box of the state as it lies in memory. -/
def BoxOK (w : World) (F : Nat → Prop) (φ : Nat → Place) (B : Nat → Prop) (b : Nat) : BoxC → Prop
  | .cell tc sh x => (φ b).sh = sh ∧ ∃ g cs, (φ b).blk = some g ∧ B g ∧ ¬ F g ∧ w.heap[g]? = some (.cells cs tc (0, 0)) ∧ cs.size = sh.size ∧
      ∀ j, j < sh.size → Rep w F φ (cs.getD j undef) (leafAt sh x j)
  | .row ty sh n f => (φ b).sh = sh ∧ (φ b).ty = ty ∧ (((φ b).blk = none ∧ n = 0) ∨ ∃ g cs, (φ b).blk = some g ∧ B g ∧ ¬ F g ∧ w.heap[g]? = some (.cells cs ty (0, 0)) ∧
      cs.size = (φ b).cap * sh.size ∧ n ≤ (φ b).cap ∧ (φ b).cap ≤ maxLen ∧ ∀ i, i < n → ∀ j, j < sh.size → RepS w F (cs.getD (i * sh.size + j) undef) (leafAt sh (f i) j))

structure Rel (C : Cfg) (W0 : Entry) (F0 : Nat → Prop) (st : St) (a : Act) (w : World) (F : Nat → Prop) (φ : Nat → Place) : Prop where
  env : ∀ s x, get st.env s = some x → ∃ v, a.tmps[s]? = some v ∧ Rep w F φ v x
  heap : ∀ b c, get st.heap b = some c → BoxOK w F φ W0.B b c
  inj : ∀ b b' c c' g, get st.heap b = some c → get st.heap b' = some c' → (φ b).blk = some g → (φ b').blk = some g → b = b'
  ro : ∀ k, F k → k < w.heap.size
  base : Kept W0.L W0.w w
  sub : ∀ k, F0 k → F k
  new : ∀ k, F k → F0 k ∨ W0.B k
  dfr : a.defers = W0.D
  tsz : a.tmps.size = C.ntmps
  glob : ∀ g x, get C.G g = some x → RepS w F (.pointer (some ⟨g, 0, none⟩)) x
  anc : ∀ b p, W0.A b = some p → 1099511627776 ≤ b ∧ φ b = p ∧ ∀ c, get st.heap b = some c → c.isRow = false

theorem BoxOK.lt {w : World} {F : Nat → Prop} {φ : Nat → Place} {base : Nat → Prop} {b g : Nat} {c : BoxC} (h : BoxOK w F φ base b c) (hg : (φ b).blk = some g) : g < w.heap.size ∧ ¬ F g ∧ base g := by
  cases c with
  | cell tc sh x =>
    obtain ⟨_, g', cs, h1, h2, h3, h4, _⟩ := h
    rw [hg] at h1; cases h1
    exact ⟨(Array.getElem?_eq_some_iff.1 h4).1, h3, h2⟩
  | row ty sh n f =>
    obtain ⟨_, _, ⟨h1, _⟩ | ⟨g', cs, h1, h2, h3, h4, _⟩⟩ := h
    · rw [hg] at h1; cases h1
    · rw [hg] at h1; cases h1
      exact ⟨(Array.getElem?_eq_some_iff.1 h4).1, h3, h2⟩

/-- A box is kept: the read-only blocks and its own block are as they were. -/
theorem BoxOK.keep {w w' : World} {F F' : Nat → Prop} {φ φ' : Nat → Place} {base : Nat → Prop} {b : Nat} {c : BoxC} (h : BoxOK w F φ base b c) (hw : ∀ k, F k → w'.heap[k]? = w.heap[k]?) (hF : ∀ k, F k → F' k)
    (hg : ∀ g, (φ b).blk = some g → w'.heap[g]? = w.heap[g]? ∧ ¬ F' g) (hb : φ' b = φ b) (hφ : ∀ d, c.names d = true → φ' d = φ d) : BoxOK w' F' φ' base b c := by
  cases c with
  | cell tc sh x =>
    obtain ⟨h0, g, cs, h1, h2, h3, h4, h5, h6⟩ := h
    refine ⟨by rw [hb]; exact h0, g, cs, by rw [hb]; exact h1, h2, (hg g h1).2, (hg g h1).1.trans h4, h5, fun j hj => ?_⟩
    exact (h6 j hj).keep hw hF fun d hd => hφ d (by simp only [BoxC.names]; exact names_leafAt sh x j hd)
  | row ty sh n f =>
    obtain ⟨h0, h0', h⟩ := h
    refine ⟨by rw [hb]; exact h0, by rw [hb]; exact h0', ?_⟩
    rw [hb]
    rcases h with h | ⟨g, cs, h1, h2, h3, h4, h5, h6, h7, h8⟩
    · exact .inl h
    · exact .inr ⟨g, cs, h1, h2, (hg g h1).2, (hg g h1).1.trans h4, h5, h6, h7, fun i hi j hj => (h8 i hi j hj).keep hw hF⟩

section
variable {C : Cfg} {W0 : Entry} {F0 : Nat → Prop} {st : St} {a : Act} {w : World} {F : Nat → Prop} {φ : Nat → Place}

theorem Rel.bnew (h : Rel C W0 F0 st a w F φ) {k : Nat} (hk : w.heap.size ≤ k) : W0.B k := .inl (Nat.le_trans h.base.size hk)

/-- Memory has grown; more of it is read only. -/
theorem Rel.grown (h : Rel C W0 F0 st a w F φ) {w' : World} {F' : Nat → Prop} (hb : Below w.heap.size w w') (hF : ∀ k, F k → F' k) (hn : ∀ k, F' k → F k ∨ w.heap.size ≤ k) (hl : ∀ k, F' k → k < w'.heap.size) :
    Rel C W0 F0 st a w' F' φ := by
  have hk : ∀ k, F k → w'.heap[k]? = w.heap[k]? := fun k hk => hb.block k (h.ro k hk)
  refine ⟨fun s x hs => ?_, fun b c hc => ?_, h.inj, hl, h.base.below hb, fun k hk => hF k (h.sub k hk), fun k hk => ?_, h.dfr, h.tsz, fun g x hg => (h.glob g x hg).keep hk hF, h.anc⟩
  · obtain ⟨v, hv, hr⟩ := h.env s x hs
    exact ⟨v, hv, hr.keep hk hF fun _ _ => rfl⟩
  · have hc' := h.heap b c hc
    refine hc'.keep hk hF (fun g hg => ?_) rfl fun _ _ => rfl
    obtain ⟨h1, h2, _⟩ := hc'.lt hg
    refine ⟨hb.block g h1, fun h3 => ?_⟩
    rcases hn g h3 with h4 | h4
    · exact h2 h4
    · omega
  · rcases hn k hk with h1 | h1
    · exact h.new k h1
    · have := h.base.size; exact .inr (.inl (by omega))

theorem Rel.drewN (h : Rel C W0 F0 st a w F φ) (n : Nat) : Rel C W0 F0 st a (w.drewN n) F φ :=
  h.grown ⟨rfl, rfl, rfl, Nat.le_refl _, fun _ _ => rfl⟩ (fun _ hk => hk) (fun _ hk => .inl hk) h.ro

/-- A slot takes a value. -/
theorem Rel.putV (h : Rel C W0 F0 st a w F φ) {d : Nat} {v : Value} {x : AV} (hd : d < C.ntmps) (hv : Rep w F φ v x) : Rel C W0 F0 { st with env := put st.env d x } (a.put (some d) v) w F φ := by
  refine ⟨fun s y hs => ?_, h.heap, h.inj, h.ro, h.base, h.sub, h.new, h.dfr, by simp [Act.put, h.tsz], h.glob, h.anc⟩
  by_cases e : s = d
  · subst e
    rw [get_put_same] at hs
    cases hs
    exact ⟨v, by simp [Act.put, h.tsz, hd], hv⟩
  · simp only [get_put_other _ _ _ _ e] at hs
    obtain ⟨u, hu, hr⟩ := h.env s y hs
    refine ⟨u, ?_, hr⟩
    simp only [Act.put]
    rw [Array.getElem?_setIfInBounds_ne (Ne.symm e)]
    exact hu

/-- A slot takes what is not known. -/
theorem Rel.putU (h : Rel C W0 F0 st a w F φ) (d : Nat) (v : Value) : Rel C W0 F0 { st with env := del st.env d } (a.put (some d) v) w F φ := by
  refine ⟨fun s y hs => ?_, h.heap, h.inj, h.ro, h.base, h.sub, h.new, h.dfr, by simp [Act.put, h.tsz], h.glob, h.anc⟩
  by_cases e : s = d
  · subst e; simp [get_del_same] at hs
  · simp only [get_del_other _ _ _ e] at hs
    obtain ⟨u, hu, hr⟩ := h.env s y hs
    refine ⟨u, ?_, hr⟩
    simp only [Act.put]
    rw [Array.getElem?_setIfInBounds_ne (Ne.symm e)]
    exact hu

theorem namesEnv_get {b : Nat} : ∀ {l : List (Nat × AV)} {s : Nat} {x : AV}, get l s = some x → namesEnv b l = false → x.names b = false
  | [], _, _, h, _ => by simp [get] at h
  | (k, v) :: l, s, x, h, hn => by
    simp only [namesEnv, Bool.or_eq_false_iff] at hn
    simp only [get] at h
    split at h
    · cases h; exact hn.1
    · exact namesEnv_get h hn.2
theorem namesHeap_get {b : Nat} : ∀ {l : List (Nat × BoxC)} {s : Nat} {c : BoxC}, get l s = some c → namesHeap b l = false → c.names b = false ∧ s ≠ b
  | [], _, _, h, _ => by simp [get] at h
  | (k, v) :: l, s, x, h, hn => by
    simp only [namesHeap, Bool.or_eq_false_iff] at hn
    simp only [get] at h
    split at h
    · rename_i hk
      cases h
      have := Nat.eq_of_beq_eq_true hk
      subst this
      refine ⟨hn.1.2, fun e => ?_⟩
      subst e
      simp at hn
    · exact namesHeap_get h hn.2

theorem update_other (φ : Nat → Place) (d : Nat) (pl : Place) {b : Nat} (h : b ≠ d) : (fun k => if k = d then pl else φ k) b = φ b := by simp [h]

theorem anc_put {W0 : Entry} {st : St} {φ : Nat → Place} (h : ∀ b p, W0.A b = some p → 1099511627776 ≤ b ∧ φ b = p ∧ ∀ c, get st.heap b = some c → c.isRow = false) {d : Nat} {c : BoxC} {pl : Place} (hd : (!Nat.blt d 1099511627776) = false) :
    ∀ b p, W0.A b = some p → 1099511627776 ≤ b ∧ (fun k => if k = d then pl else φ k) b = p ∧ ∀ c', get (put st.heap d c) b = some c' → c'.isRow = false := by
  intro b p hb
  obtain ⟨h1, h2, h3⟩ := h b p hb
  have hd : d < 1099511627776 := by
    cases e : Nat.blt d 1099511627776 with
    | false => rw [e] at hd; cases hd
    | true => exact Nat.le_of_ble_eq_true e
  have hne : b ≠ d := by omega
  exact ⟨h1, by simp only [hne, if_false]; exact h2, fun c' hc' => h3 c' (by rwa [get_put_other _ _ _ _ hne] at hc')⟩

/-- A new box. -/
theorem Rel.newBox (h : Rel C W0 F0 st a w F φ) {d : Nat} {c : BoxC} (hf : freshBox st d = true) (hc : c.names d = false) (o : Obj) (pl : Place) (hpl : pl.blk = some w.heap.size)
    (hB : BoxOK (w.alloc o) F (fun k => if k = d then pl else φ k) W0.B d c) :
    Rel C W0 F0 { st with heap := put st.heap d c } a (w.alloc o) F (fun k => if k = d then pl else φ k) := by
  simp only [freshBox, Bool.not_eq_true', Bool.or_eq_false_iff] at hf
  obtain ⟨fe, fh, fl⟩ := hf
  have hk : ∀ k, F k → (w.alloc o).heap[k]? = w.heap[k]? := fun k hk => Below.heap_alloc w o k (h.ro k hk)
  refine ⟨fun s x hs => ?_, fun b c' hc' => ?_, ?_, fun k hk => ?_, h.base.below ⟨rfl, rfl, rfl, by simp, fun k hk => Below.heap_alloc w o k hk⟩, h.sub, h.new, h.dfr, h.tsz, fun g x hg => (h.glob g x hg).keep hk fun _ hk => hk, anc_put h.anc fl⟩
  · obtain ⟨v, hv, hr⟩ := h.env s x hs
    refine ⟨v, hv, hr.keep hk (fun _ hk => hk) fun b hb => update_other φ d pl fun e => ?_⟩
    subst e
    rw [namesEnv_get hs fe] at hb; cases hb
  · by_cases e : b = d
    · subst e
      rw [get_put_same] at hc'
      cases hc'
      exact hB
    · rw [get_put_other _ _ _ _ e] at hc'
      have hb := h.heap b c' hc'
      refine hb.keep hk (fun _ hk => hk) (fun g hg => ?_) (update_other φ d pl e) fun b' hb' => update_other φ d pl fun e => ?_
      · obtain ⟨h1, h2, _⟩ := hb.lt hg
        exact ⟨Below.heap_alloc w o g h1, h2⟩
      · subst e
        rw [(namesHeap_get hc' fh).1] at hb'; cases hb'
  · intro b b' c1 c2 g h1 h2 h3 h4
    by_cases e : b = d
    · by_cases e' : b' = d
      · omega
      · rw [get_put_other _ _ _ _ e'] at h2
        simp only [e, if_true] at h3
        simp only [e', if_false] at h4
        rw [hpl] at h3
        cases h3
        have := ((h.heap b' c2 h2).lt h4).1
        omega
    · rw [get_put_other _ _ _ _ e] at h1
      simp only [e, if_false] at h3
      by_cases e' : b' = d
      · simp only [e', if_true] at h4
        rw [hpl] at h4
        cases h4
        have := ((h.heap b c1 h1).lt h3).1
        omega
      · rw [get_put_other _ _ _ _ e'] at h2
        simp only [e', if_false] at h4
        exact h.inj b b' c1 c2 g h1 h2 h3 h4
  · have := h.ro k hk
    simp; omega

/-- The content of a box has turned, in its own block. -/
theorem Rel.setBox (h : Rel C W0 F0 st a w F φ) {b g : Nat} {c c' : BoxC} {w' : World} (hb : get st.heap b = some c) (hg : (φ b).blk = some g) (hos : w'.os = w.os) (ht : w'.tape = w.tape) (ho : w'.output = w.output)
    (hs : w'.heap.size = w.heap.size) (hw : ∀ k, k ≠ g → w'.heap[k]? = w.heap[k]?) (hkd : c'.isRow = c.isRow) (hB : BoxOK w' F φ W0.B b c') :
    Rel C W0 F0 { st with heap := put st.heap b c' } a w' F φ := by
  obtain ⟨g1, g2, g3⟩ := (h.heap b c hb).lt hg
  have hk : ∀ k, F k → w'.heap[k]? = w.heap[k]? := fun k hk => hw k fun e => g2 (e ▸ hk)
  refine ⟨fun s x hx => ?_, fun b' c1 hc1 => ?_, ?_, fun k hk => by rw [hs]; exact h.ro k hk, h.base.trans (L' := fun k => k = g) ⟨hos, ht, ho, by omega, fun k _ hk => hw k hk⟩ (fun i hi hlt => by subst hi; exact g3.resolve_left (by omega)), h.sub, h.new, h.dfr, h.tsz, fun g x hg => (h.glob g x hg).keep hk fun _ hk => hk, fun b' p hp => ?_⟩
  · obtain ⟨v, hv, hr⟩ := h.env s x hx
    exact ⟨v, hv, hr.keep hk (fun _ hk => hk) fun _ _ => rfl⟩
  · by_cases e : b' = b
    · subst e
      rw [get_put_same] at hc1
      cases hc1
      exact hB
    · rw [get_put_other _ _ _ _ e] at hc1
      have hb' := h.heap b' c1 hc1
      refine hb'.keep hk (fun _ hk => hk) (fun g' hg' => ?_) rfl fun _ _ => rfl
      exact ⟨hw g' fun e' => e (h.inj b' b c1 c g hc1 hb (e' ▸ hg') hg), (hb'.lt hg').2.1⟩
  · intro b1 b2 c1 c2 g' h1 h2 h3 h4
    have i1 : ∃ c1', get st.heap b1 = some c1' := by
      by_cases e : b1 = b
      · exact ⟨c, e ▸ hb⟩
      · rw [get_put_other _ _ _ _ e] at h1; exact ⟨c1, h1⟩
    have i2 : ∃ c2', get st.heap b2 = some c2' := by
      by_cases e : b2 = b
      · exact ⟨c, e ▸ hb⟩
      · rw [get_put_other _ _ _ _ e] at h2; exact ⟨c2, h2⟩
    obtain ⟨c1', i1⟩ := i1
    obtain ⟨c2', i2⟩ := i2
    exact h.inj b1 b2 c1' c2' g' i1 i2 h3 h4
  · obtain ⟨a1, a2, a3⟩ := h.anc b' p hp
    refine ⟨a1, a2, fun c1 hc1 => ?_⟩
    by_cases e : b' = b
    · subst e
      rw [get_put_same] at hc1
      cases hc1
      rw [hkd]; exact a3 c hb
    · rw [get_put_other _ _ _ _ e] at hc1; exact a3 c1 hc1
end
end Go.AV
/- The types that a reckoning leans on, held against the program's own. -/
namespace Go.AV
open Go.RowKit

def kindIs (C : Cfg) (sh : Shape) (d : TypeDesc) : TyK → Prop
  | .int k => d = .int k ∧ sh = .leaf
  | .bool => d = .bool ∧ sh = .leaf
  | .string => d = .string ∧ sh = .leaf
  | .slice e => d = .slice e ∧ sh = .leaf
  | .arr n e => d = .array n e ∧ ∃ te, tyOf C e = some te ∧ sh = .arr n te.sh
  | .struct fs => ∃ fields : Array Field, ∃ ss, d = .struct fields ∧ sh = .agg ss ∧ ss.length = fs.length ∧ fs = fields.toList.map (·.type) ∧
      ∀ i : Nat, ∀ f : Field, fields[i]? = some f → ∃ te, tyOf C f.type = some te ∧ ss[i]? = some te.sh ∧ f.offset = Shape.sizes (ss.take i) ∧ f.name ≠ "_"
  | .other => sh = .leaf ∧ (match d with | .struct _ | .array _ _ => False | _ => True)

def zeroIs (v : Value) : AV → Prop
  | .any => v.oneCell' = true
  | .int k n => v = .int k n ∧ InR k n
  | .bool b => v = .bool b
  | .str l => v = .string ⟨l.toArray⟩
  | .nils => v = .slice none 0 0
  | .nilp => v = .pointer none
  | .st x => zeroIs v x
  | _ => False

structure TyOK (C : Cfg) (t : TypeId) (te : TyE) : Prop where
  info : ∃ d i z, C.P.underlying t = some d ∧ C.P.info? t = some i ∧ i.size = te.sh.size ∧ i.bytes = te.bytes ∧ i.zero = some z ∧ z.cells.size = te.sh.size ∧ kindIs C te.sh d te.kind ∧
    ∀ j, j < te.sh.size → zeroIs (z.cells.getD j undef) (leafAt te.sh te.zero j)
  pos : 0 < te.sh.size
  zst : te.zero.isStat = true
  eqs : te.eqs = true → C.P.eqGuardType C.P.depth t = false ∧ C.P.stoodInHeld t = false ∧ ∃ fs, te.kind = .struct fs ∧
    ∀ e ∈ fs, ∃ tf, tyOf C e = some tf ∧ tf.sh = .leaf ∧ ((∃ k, tf.kind = .int k) ∨ tf.kind = .bool ∨ tf.kind = .string)

def sameNats : List Nat → List Nat → Bool
  | [], [] => true
  | a :: l, b :: m => Nat.beq a b && sameNats l m
  | _, _ => false
theorem sameNats_eq : ∀ {l m : List Nat}, sameNats l m = true → l = m
  | [], [], _ => rfl
  | a :: l, b :: m, h => by
    simp only [sameNats, Bool.and_eq_true] at h
    rw [Nat.eq_of_beq_eq_true h.1, sameNats_eq h.2]
  | [], _ :: _, h | _ :: _, [], h => by simp [sameNats] at h

def kindCheck (C : Cfg) (sh : Shape) (d : TypeDesc) : TyK → Bool
  | .int k => match d, sh with | .int k', .leaf => decide (k' = k) | _, _ => false
  | .bool => match d, sh with | .bool, .leaf => true | _, _ => false
  | .string => match d, sh with | .string, .leaf => true | _, _ => false
  | .slice e => match d, sh with | .slice e', .leaf => Nat.beq e' e | _, _ => false
  | .arr n e => match d, sh with
    | .array n' e', .arr m s => Nat.beq n' n && (Nat.beq e' e && (Nat.beq m n && (match tyOf C e with | some te => s.same te.sh | none => false)))
    | _, _ => false
  | .struct fs => match d, sh with
    | .struct fields, .agg ss => Nat.beq ss.length fs.length && (sameNats fs (fields.toList.map (·.type)) && fieldsCheck C fields.toList ss 0)
    | _, _ => false
  | .other => match d, sh with | .struct _, _ => false | .array _ _, _ => false | _, .leaf => true | _, _ => false
where
  fieldsCheck (C : Cfg) : List Field → List Shape → Nat → Bool
    | [], _, _ => true
    | f :: fs, s :: ss, off => Nat.beq f.offset off && (decide (f.name ≠ "_") && ((match tyOf C f.type with | some te => s.same te.sh | none => false) && fieldsCheck C fs ss (off + s.size)))
    | _ :: _, [], _ => false

def eqsCheck (C : Cfg) (t : TypeId) (te : TyE) : Bool :=
  match te.eqs with
  | false => true
  | true => (!C.P.eqGuardType C.P.depth t) && ((!C.P.stoodInHeld t) && (match te.kind with
    | .struct fs => fs.all fun e => match tyOf C e with
      | some tf => match tf.kind, tf.sh with
        | .int _, .leaf | .bool, .leaf | .string, .leaf => true
        | _, _ => false
      | none => false
    | _ => false))

def zeroCheck (v : Value) : AV → Bool
  | .any => v.oneCell'
  | .int k n => match v with | .int k' n' => decide (k' = k) && (decide (n' = n) && decide (k.wrap n = n)) | _ => false
  | .bool b => match v with | .bool b' => (match b, b' with | true, true | false, false => true | _, _ => false) | _ => false
  | .str l => match v with | .string s => (match s.data.toList, l with | [], [] => true | _, _ => false) | _ => false
  | .nils => match v with | .slice none 0 0 => true | _ => false
  | .nilp => match v with | .pointer none => true | _ => false
  | .st x => zeroCheck v x
  | _ => false

def zerosCheck (z : Array Value) (sh : Shape) (x : AV) : Nat → Bool
  | 0 => true
  | j + 1 => zeroCheck (z.getD j undef) (leafAt sh x j) && zerosCheck z sh x j

def tyCheck (C : Cfg) (t : TypeId) (te : TyE) : Bool :=
  match C.P.underlying t, C.P.info? t with
  | some d, some i => match i.zero with
    | some z => Nat.beq i.size te.sh.size && (Nat.beq i.bytes te.bytes && (Nat.beq z.cells.size te.sh.size && (kindCheck C te.sh d te.kind && (zerosCheck z.cells te.sh te.zero te.sh.size && (Nat.blt 0 te.sh.size && (te.zero.isStat && eqsCheck C t te))))))
    | none => false
  | _, _ => false

theorem zeroCheck_is {v : Value} : ∀ {x : AV}, zeroCheck v x = true → zeroIs v x
  | .any, h => h
  | .int k n, h => by
    cases v <;> simp [zeroCheck] at h
    obtain ⟨rfl, rfl, h⟩ := h
    exact ⟨rfl, h⟩
  | .bool b, h => by
    cases v <;> simp [zeroCheck] at h
    rename_i b'
    cases b <;> cases b' <;> simp_all [zeroIs]
  | .str l, h => by
    cases v <;> simp [zeroCheck] at h
    rename_i s
    split at h
    · rename_i h1
      show Value.string s = .string ⟨([] : List UInt8).toArray⟩
      congr 1
      obtain ⟨⟨d⟩⟩ := s
      simp at h1
      subst h1
      rfl
    · cases h
  | .nils, h => by
    unfold zeroCheck at h
    split at h <;> first | rfl | cases h
  | .nilp, h => by
    unfold zeroCheck at h
    split at h <;> first | rfl | cases h
  | .st x, h => by
    simp only [zeroIs]
    exact zeroCheck_is (by simpa [zeroCheck] using h)
  | .seq _ _ _, h | .seqc _ _ _, h | .nseq _ _ _ _, h | .cov _, h | .rptr _ _, h | .own _ _, h | .ptr _ _, h | .optr _ _ _, h | .clo _ _, h | .agg _, h | .arr _ _, h | .mc _ _, h | .tup _, h | .when _ _, h => by simp [zeroCheck] at h

theorem zerosCheck_is {z : Array Value} {sh : Shape} {x : AV} : ∀ {n : Nat}, zerosCheck z sh x n = true → ∀ j, j < n → zeroIs (z.getD j undef) (leafAt sh x j)
  | 0, _, j, hj => by omega
  | n + 1, h, j, hj => by
    simp only [zerosCheck, Bool.and_eq_true] at h
    by_cases e : j = n
    · subst e; exact zeroCheck_is h.1
    · exact zerosCheck_is h.2 j (by omega)

theorem fieldsCheck_is {C : Cfg} : ∀ {l : List Field} {ss : List Shape} {off : Nat}, kindCheck.fieldsCheck C l ss off = true → ∀ (i : Nat) (f : Field), l[i]? = some f →
    ∃ te, tyOf C f.type = some te ∧ ss[i]? = some te.sh ∧ f.offset = off + Shape.sizes (ss.take i) ∧ f.name ≠ "_"
  | [], _, _, _, i, f, h => by simp at h
  | g :: l, [], _, h, _, _, _ => by simp [kindCheck.fieldsCheck] at h
  | g :: l, s :: ss, off, h, i, f, hf => by
    simp only [kindCheck.fieldsCheck, Bool.and_eq_true] at h
    obtain ⟨h1, h2, h3, h4⟩ := h
    cases i with
    | zero =>
      simp at hf
      subst hf
      split at h3
      · rename_i te hte
        exact ⟨te, hte, by simp [Shape.same_eq _ _ h3], by simp [Nat.eq_of_beq_eq_true h1, Shape.sizes], by simpa using h2⟩
      · cases h3
    | succ i =>
      simp at hf
      obtain ⟨te, a, b, c, d⟩ := fieldsCheck_is h4 i f hf
      exact ⟨te, a, by simpa using b, by rw [c]; simp [Shape.sizes, Nat.add_assoc], d⟩

theorem kindCheck_is {C : Cfg} {sh : Shape} {d : TypeDesc} {k : TyK} (h : kindCheck C sh d k = true) : kindIs C sh d k := by
  cases k with
  | int k => simp only [kindCheck] at h; split at h <;> simp_all [kindIs]
  | bool => simp only [kindCheck] at h; split at h <;> simp_all [kindIs]
  | string => simp only [kindCheck] at h; split at h <;> simp_all [kindIs]
  | slice e =>
    simp only [kindCheck] at h; split at h
    · simp [kindIs, Nat.eq_of_beq_eq_true h]
    · cases h
  | arr n e =>
    simp only [kindCheck] at h; split at h
    · simp only [Bool.and_eq_true] at h
      obtain ⟨h1, h2, h3, h4⟩ := h
      split at h4
      · rename_i te hte
        rw [Nat.eq_of_beq_eq_true h1, Nat.eq_of_beq_eq_true h2, Nat.eq_of_beq_eq_true h3, Shape.same_eq _ _ h4]
        exact ⟨rfl, te, hte, rfl⟩
      · cases h4
    · cases h
  | struct fs =>
    simp only [kindCheck] at h; split at h
    · simp only [Bool.and_eq_true] at h
      obtain ⟨h1, h2, h3⟩ := h
      refine ⟨_, _, rfl, rfl, Nat.eq_of_beq_eq_true h1, sameNats_eq h2, fun i f hf => ?_⟩
      obtain ⟨te, a, b, c, d⟩ := fieldsCheck_is h3 i f (by simpa using hf)
      exact ⟨te, a, b, by simpa using c, d⟩
    · cases h
  | other =>
    simp only [kindCheck] at h
    split at h <;> simp_all [kindIs]

theorem eqsCheck_is {C : Cfg} {t : TypeId} {te : TyE} (h : eqsCheck C t te = true) (he : te.eqs = true) : C.P.eqGuardType C.P.depth t = false ∧ C.P.stoodInHeld t = false ∧ ∃ fs, te.kind = .struct fs ∧
    ∀ e ∈ fs, ∃ tf, tyOf C e = some tf ∧ tf.sh = .leaf ∧ ((∃ k, tf.kind = .int k) ∨ tf.kind = .bool ∨ tf.kind = .string) := by
  simp only [eqsCheck, he, Bool.and_eq_true, Bool.not_eq_true'] at h
  obtain ⟨h1, h2, h3⟩ := h
  refine ⟨h1, h2, ?_⟩
  split at h3
  · rename_i fs hk
    refine ⟨fs, hk, fun e he' => ?_⟩
    have := List.all_eq_true.1 h3 e he'
    split at this
    · rename_i tf htf
      refine ⟨tf, htf, ?_⟩
      split at this
      · rename_i h1 h2; exact ⟨h2, .inl ⟨_, h1⟩⟩
      · rename_i h1 h2; exact ⟨h2, .inr (.inl h1)⟩
      · rename_i h1 h2; exact ⟨h2, .inr (.inr h1)⟩
      · cases this
    · cases this
  · cases h3

theorem tyCheck_ok {C : Cfg} {t : TypeId} {te : TyE} (h : tyCheck C t te = true) : TyOK C t te := by
  unfold tyCheck at h
  split at h
  · rename_i d i hd hi
    split at h
    · rename_i z hz
      simp only [Bool.and_eq_true] at h
      obtain ⟨h1, h2, h3, h4, h5, h6, h7, h8⟩ := h
      exact ⟨⟨d, i, z, hd, hi, Nat.eq_of_beq_eq_true h1, Nat.eq_of_beq_eq_true h2, hz, Nat.eq_of_beq_eq_true h3, kindCheck_is h4, zerosCheck_is h5⟩, Nat.lt_of_succ_le (by simpa [Nat.blt] using h6), h7, eqsCheck_is h8⟩
    · cases h
  · cases h

theorem get_mem {α : Type} : ∀ {l : List (Nat × α)} {s : Nat} {v : α}, get l s = some v → (s, v) ∈ l
  | [], _, _, h => by simp [get] at h
  | (k, u) :: l, s, v, h => by
    simp only [get] at h
    split at h
    · rename_i hk
      cases h
      rw [Nat.eq_of_beq_eq_true hk]; simp
    · exact List.mem_cons_of_mem _ (get_mem h)

/-- All types of the table. -/
def TysOK (C : Cfg) : Prop := ∀ t te, tyOf C t = some te → TyOK C t te
theorem tys_ok {C : Cfg} (h : (C.T.all fun p => tyCheck C p.1 p.2) = true) : TysOK C := fun t te ht =>
  tyCheck_ok (List.all_eq_true.1 h (t, te) (get_mem ht))

theorem zeroIs.rep {v : Value} {w : World} {F : Nat → Prop} : ∀ {x : AV}, zeroIs v x → RepS w F v x
  | .any, h => .any _ h
  | .int k n, h => by obtain ⟨rfl, h⟩ := h; exact .int _ _ h
  | .bool b, h => by cases h; exact .bool _
  | .str l, h => by cases h; exact .str ⟨l.toArray⟩
  | .nils, h => by cases h; exact .nils
  | .nilp, h => by cases h; exact .nilp
  | .st x, h => .st (zeroIs.rep (x := x) h)
  | .seq _ _ _, h | .seqc _ _ _, h | .nseq _ _ _ _, h | .cov _, h | .rptr _ _, h | .own _ _, h | .ptr _ _, h | .optr _ _ _, h | .clo _ _, h | .agg _, h | .arr _ _, h | .mc _ _, h | .tup _, h | .when _ _, h => h.elim
end Go.AV
/- Each operation's reckoning holds of the model: operands, types, loads, stores, new boxes. -/
namespace Go.AV
open Go.RowKit

section
variable {C : Cfg} {W0 : Entry} {F0 : Nat → Prop} {st : St} {a : Act} {w : World} {F : Nat → Prop} {φ : Nat → Place}

theorem constAV_rep {v : Value} {x : AV} (h : constAV v = some x) : RepS w F v x := by
  unfold constAV at h
  split at h
  · split at h
    · rename_i e; cases h; exact .int _ _ (of_decide_eq_true (p := IntKind.wrap _ _ = _) e)
    · cases h
  · cases h; exact .bool _
  · cases h; exact .str _
  · cases h; exact .nils
  · cases h; exact .nilp
  · cases h; exact .any _ rfl
  · cases h; exact .any _ rfl
  · cases h; exact .any _ rfl
  · cases h

theorem Rel.ev (h : Rel C W0 F0 st a w F φ) {x : Operand} {y : AV} (he : ev C st x = some y) : Rep w F φ (a.eval x) y := by
  cases x with
  | tmp t =>
    simp only [AV.ev] at he
    obtain ⟨v, hv, hr⟩ := h.env t y he
    simp only [Act.eval, Array.getD_eq_getD_getElem?, hv, Option.getD_some]
    exact hr
  | const v => exact .stat (constAV_rep he)
  | global g => exact .stat (h.glob g y he)
  | func f =>
    simp only [AV.ev] at he; cases he
    exact .clo f #[] [] rfl fun j hj => by simp at hj

theorem Rep.strip1 {v : Value} : ∀ {x : AV}, Rep w F φ v x → (∀ p ∈ whenOb x, p) → Rep w F φ v (strip1 x)
  | .when q x, h, ho => by
    have hq : q = true := ho (q = true) (by simp [whenOb])
    cases h with
    | stat h => cases h
    | whenT _ h _ => exact h hq
  | .any, h, _ | .int _ _, h, _ | .bool _, h, _ | .str _, h, _ | .nils, h, _ | .nilp, h, _ | .seq _ _ _, h, _ | .seqc _ _ _, h, _ | .rptr _ _, h, _ | .nseq _ _ _ _, h, _ | .cov _, h, _ | .own _ _, h, _ | .ptr _ _, h, _ | .optr _ _ _, h, _
  | .clo _ _, h, _ | .agg _, h, _ | .arr _ _, h, _ | .mc _ _, h, _ | .tup _, h, _ | .st _, h, _ => h

theorem operandObs_mem : ∀ {l : List Operand} {x : Operand} {y : AV}, x ∈ l → ev C st x = some y → ∀ p ∈ whenOb y, p ∈ operandObs C st l
  | [], _, _, h, _, _, _ => by cases h
  | z :: l, x, y, h, he, p, hp => by
    simp only [operandObs]
    rcases List.mem_cons.1 h with rfl | h
    · rw [he]; simp [hp]
    · have := operandObs_mem h he p hp
      split <;> simp [this]

theorem Rel.evS (h : Rel C W0 F0 st a w F φ) {l : List Operand} (ho : ∀ p ∈ operandObs C st l, p) {x : Operand} (hx : x ∈ l) {y : AV} (he : evS C st x = some y) : Rep w F φ (a.eval x) y := by
  unfold AV.evS at he
  split at he
  · rename_i z hz
    cases he
    exact (h.ev hz).strip1 fun p hp => ho p (operandObs_mem hx hz p hp)
  · cases he
end

section
variable {C : Cfg} {t : TypeId} {te : TyE} {w : World}

theorem TyOK.size (h : TyOK C t te) : (sizeOf t).run C.P w = .ok te.sh.size w := by
  obtain ⟨d, i, z, hd, hi, hs, _⟩ := h.info
  simp [sizeOf, typeInfo, hi, hs]

def descAgg : TypeDesc → Bool
  | .struct _ | .array _ _ => true
  | _ => false

theorem kindIs_agg {sh : Shape} {d : TypeDesc} {k : TyK} (h : kindIs C sh d k) : descAgg d = sh.isAgg := by
  cases k with
  | int k => obtain ⟨rfl, rfl⟩ := h; rfl
  | bool => obtain ⟨rfl, rfl⟩ := h; rfl
  | string => obtain ⟨rfl, rfl⟩ := h; rfl
  | slice e => obtain ⟨rfl, rfl⟩ := h; rfl
  | arr n e => obtain ⟨rfl, te, _, rfl⟩ := h; rfl
  | struct fs => obtain ⟨f, ss, rfl, rfl, _⟩ := h; rfl
  | other =>
    obtain ⟨rfl, h⟩ := h
    cases d <;> first | rfl | exact h.elim

theorem run_isAgg {P : Program} {t : TypeId} {d : TypeDesc} (hd : P.underlying t = some d) : (isAgg t).run P w = .ok (descAgg d) w := by
  simp only [isAgg, Sem.run_bind, run_underlying hd, Result.andThen_ok]
  cases d <;> rfl

theorem TyOK.agg (h : TyOK C t te) : (isAgg t).run C.P w = .ok te.sh.isAgg w := by
  obtain ⟨d, i, z, hd, hi, hs, hb, hz, hc, hk, _⟩ := h.info
  rw [run_isAgg hd, kindIs_agg hk]

/-- What stands in a slot behind a load of cells. -/
def loadVal (sh : Shape) (f : Nat → Value) : Value :=
  match sh.isAgg with
  | false => f 0
  | true => .agg ((List.range sh.size).map f).toArray

theorem add_none (g o j : Nat) : (⟨g, o, none⟩ : Addr).add j = ⟨g, o + j, none⟩ := by
  unfold Addr.add; split <;> simp_all

theorem TyOK.runLoad (h : TyOK C t te) (g o : Nat) (f : Nat → Value) (hc : ∀ j, j < te.sh.size → w.cell? ⟨g, o + j, none⟩ = some (f j)) :
    (loadVar t ⟨g, o, none⟩).run C.P w = .ok (loadVal te.sh f) w := by
  have hcell := run_loadCells (P := C.P) w ⟨g, o, none⟩ te.sh.size f (fun j hj => by rw [add_none]; exact hc j hj)
  have h0 : (Go.load ⟨g, o, none⟩).run C.P w = .ok (f 0) w := by
    have := hc 0 h.pos
    rw [Nat.add_zero] at this
    simp [run_load, this]
  simp only [loadVar, Sem.run_bind, h.agg, Result.andThen_ok]
  cases hs : te.sh.isAgg with
  | false => simp only [Bool.false_eq_true, if_false, h0, loadVal, hs]
  | true => simp only [if_true, Sem.run_bind, h.size, Result.andThen_ok, hcell, Sem.run_pure, loadVal, hs]

theorem wrap_rep {F : Nat → Prop} {φ : Nat → Place} {sh : Shape} {y z : AV} {f : Nat → Value} (hw : wrapV sh y = some z) (hr : ∀ j, j < sh.size → Rep w F φ (f j) (leafAt sh y j)) :
    Rep w F φ (loadVal sh f) z := by
  cases sh with
  | leaf =>
    simp only [wrapV] at hw
    split at hw
    · rename_i e
      cases hw
      have := hr 0 (by simp [Shape.size])
      simpa [leafAt, asLeaf, e, loadVal, Shape.isAgg] using this
    · cases hw
  | agg ss =>
    simp only [wrapV, Option.some.injEq] at hw
    subst hw
    exact .mc _ _ _ (by simp) fun j hj => by simpa [hj, Array.getD_eq_getD_getElem?] using hr j hj
  | arr n s =>
    simp only [wrapV, Option.some.injEq] at hw
    subst hw
    exact .mc _ _ _ (by simp) fun j hj => by simpa [hj, Array.getD_eq_getD_getElem?] using hr j hj

theorem one_cells {v : Value} (h : v.oneCell' = true) : v.cells = #[v] := by cases v <;> simp_all [Value.oneCell', Value.cells]

theorem unw_rep {F : Nat → Prop} {φ : Nat → Place} {sh : Shape} {x y : AV} {v : Value} (hu : unwV sh x = some y) (hr : Rep w F φ v x) :
    v.cells.size = sh.size ∧ ∀ j, j < sh.size → Rep w F φ (v.cells.getD j undef) (leafAt sh y j) := by
  unfold unwV at hu
  split at hu
  · split at hu
    · rename_i e
      cases hu
      rw [one_cells (hr.one e)]
      refine ⟨rfl, fun j hj => ?_⟩
      simp only [Shape.size] at hj
      obtain rfl : j = 0 := by omega
      simpa [leafAt, asLeaf, e] using hr
    · cases hu
  · split at hu
    · rename_i e
      cases hu
      rw [Shape.same_eq _ _ e]
      cases hr with
      | stat h =>
        cases h with
        | mc cs _ _ hs hc => exact ⟨hs, fun j hj => .stat (hc j hj)⟩
      | mc cs _ _ hs hc => exact ⟨hs, hc⟩
    · cases hu
  · cases hu

theorem cells_all_one {cs : Array Value} {n : Nat} (hs : cs.size = n) (h : ∀ j, j < n → (cs.getD j undef).oneCell' = true) : ∀ v ∈ cs.toList, v.oneCell' = true := by
  intro v hv
  obtain ⟨j, hj⟩ := List.mem_iff_getElem?.1 hv
  have hl := (List.getElem?_eq_some_iff.1 hj).1
  have := h j (by rw [← hs]; simpa using hl)
  rw [Array.getD_eq_getD_getElem?] at this
  rw [Array.getElem?_toList] at hj
  rw [hj] at this
  exact this

theorem TyOK.runStore (h : TyOK C t te) (g o : Nat) (cur : Array Value) (ty : TypeId) (v : Value) (hg : w.heap[g]? = some (.cells cur ty (0, 0))) (hl : o + te.sh.size ≤ cur.size) (hv : v.cells.size = te.sh.size)
    (h1 : ∀ j, j < te.sh.size → (v.cells.getD j undef).oneCell' = true) :
    (storeVar t ⟨g, o, none⟩ v).run C.P w = .ok () (w.setRow g (cur.toList.take o ++ v.cells.toList ++ cur.toList.drop (o + te.sh.size)).toArray) := by
  have hlen : v.cells.toList.length = te.sh.size := by simpa using hv
  simp only [storeVar, Sem.run_bind, h.size, Result.andThen_ok]
  simp only [hv, ne_eq, not_true_eq_false, if_false]
  have := run_storeCells_at (P := C.P) g o ty v.cells.toList 0 cur w hg (by rw [hlen]; omega) (cells_all_one hv h1)
  rw [Nat.add_zero, hlen] at this
  exact this
end
end Go.AV
/- Operations that only look: each hands back a value that its reckoning names, and leaves the world alone. -/
namespace Go.AV
open Go.RowKit

section
variable {C : Cfg} {W0 : Entry} {F0 : Nat → Prop} {st : St} {a : Act} {w : World} {F : Nat → Prop} {φ : Nat → Place} {e : Operand → Option AV} {dst : Option Nat} {orc : FuncId → List AV → Option AV} {CC : FuncId → List AV → AV → Prop} {r : Res} {o : Oper}

def PureOK (C : Cfg) (o : Oper) (a : Act) (w : World) (F : Nat → Prop) (φ : Nat → Place) (r : Res) : Prop :=
  r.eff = .none ∧ ∃ v, (execOp a.eval o).run C.P w = .ok (.value v) w ∧ Rep w F φ v r.val

theorem pure_move {x : Operand} (ho : o.op = .move x ∨ o.op = .assign x) (hr : absOp C st e dst orc CC (.move x) = some r) (he : ∀ y, e x = some y → Rep w F φ (a.eval x) y) : PureOK C o a w F φ r := by
  simp only [absOp] at hr
  split at hr
  · rename_i v hv
    cases hr
    refine ⟨rfl, a.eval x, ?_, he v hv⟩
    rcases ho with ho | ho <;> simp [execOp, ho]
  · cases hr

theorem run_value {s : Sem Value} {v : Value} {P : Program} (h : s.run P w = .ok v w) : (do pure (Next.value (← s)) : Sem Next).run P w = .ok (.value v) w := by
  simp [h]

theorem Rep.ptr_inv {v : Value} {b : Nat} {p : List Nat} (h : Rep w F φ v (.ptr b p)) : ∃ g, (φ b).blk = some g ∧ pathOK p (φ b).sh ∧ v = .pointer (some ⟨g, pathOff p (φ b).sh, none⟩) := by
  cases h with
  | stat h => cases h
  | ptr _ g _ hb hp => exact ⟨g, hb, hp, rfl⟩
theorem Rep.optr_inv {v : Value} {b i : Nat} {p : List Nat} (h : Rep w F φ v (.optr b i p)) : ∃ g, (φ b).blk = some g ∧ pathOK p (φ b).sh ∧ v = .pointer (some ⟨g, i * (φ b).sh.size + pathOff p (φ b).sh, none⟩) := by
  cases h with
  | stat h => cases h
  | optr _ g _ _ hb hp => exact ⟨g, hb, hp, rfl⟩
theorem Rep.rptr_inv {v : Value} {sh : Shape} {x : AV} (h : Rep w F φ v (.rptr sh x)) : ∃ g o, ∃ cs : Nat → Value, F g ∧ v = .pointer (some ⟨g, o, none⟩) ∧ (∀ j, j < sh.size → w.cell? ⟨g, o + j, none⟩ = some (cs j)) ∧ (∀ j, j < sh.size → RepS w F (cs j) (leafAt sh x j)) := by
  cases h with
  | stat h => cases h with | rptr g o _ _ cs hF hc hr => exact ⟨g, o, cs, hF, rfl, hc, hr⟩
theorem Rep.int_inv {v : Value} {k : IntKind} {n : Int} (h : Rep w F φ v (.int k n)) : v = .int k n ∧ InR k n := by
  cases h with
  | stat h => cases h with | int _ _ h => exact ⟨rfl, h⟩
theorem Rep.bool_inv {v : Value} {b : Bool} (h : Rep w F φ v (.bool b)) : v = .bool b := by
  cases h with
  | stat h => cases h; rfl
theorem Rep.str_inv {v : Value} {l : List UInt8} (h : Rep w F φ v (.str l)) : ∃ s : ByteArray, v = .string s ∧ s.data.toList = l := by
  cases h with
  | stat h => cases h; exact ⟨_, rfl, rfl⟩
theorem Rep.own_inv {v : Value} {b n : Nat} (h : Rep w F φ v (.own b n)) : (∃ g, (φ b).blk = some g ∧ v = .slice (some ⟨g, 0, none⟩) n (φ b).cap ∧ n ≤ (φ b).cap) ∨ ((φ b).blk = none ∧ n = 0 ∧ v = .slice none 0 0) := by
  cases h with
  | stat h => cases h
  | own _ g _ hb hn => exact .inl ⟨g, hb, rfl, hn⟩
  | own0 _ hb => exact .inr ⟨hb, rfl, rfl⟩
theorem Rep.mc_inv {v : Value} {sh : Shape} {x : AV} (h : Rep w F φ v (.mc sh x)) : ∃ cs, v = .agg cs ∧ cs.size = sh.size ∧ ∀ j, j < sh.size → Rep w F φ (cs.getD j undef) (leafAt sh x j) := by
  cases h with
  | stat h => cases h with | mc cs _ _ hs hr => exact ⟨cs, rfl, hs, fun j hj => .stat (hr j hj)⟩
  | mc cs _ _ hs hr => exact ⟨cs, rfl, hs, hr⟩

/-- The cells of a box, and of the part at a path. -/
theorem Rel.cells (h : Rel C W0 F0 st a w F φ) {b : Nat} {tc : TypeId} {sh : Shape} {x : AV} (hb : get st.heap b = some (.cell tc sh x)) : (φ b).sh = sh ∧ ∃ g cs, (φ b).blk = some g ∧ W0.B g ∧ ¬ F g ∧
    w.heap[g]? = some (.cells cs tc (0, 0)) ∧ cs.size = sh.size ∧ ∀ j, j < sh.size → Rep w F φ (cs.getD j undef) (leafAt sh x j) := h.heap b _ hb

theorem cell_of {g : Nat} {cs : Array Value} {ty : TypeId} {fr : Nat × Nat} (hg : w.heap[g]? = some (.cells cs ty fr)) {j : Nat} (hj : j < cs.size) : w.cell? ⟨g, j, none⟩ = some (cs.getD j undef) := by
  simp [World.cell?, hg, hj]

theorem pure_load {t : TypeId} {x : Operand} (h : Rel C W0 F0 st a w F φ) (hT : TysOK C) (ho : o.op = .load t x) (hr : absOp C st e dst orc CC (.load t x) = some r) (he : ∀ y, e x = some y → Rep w F φ (a.eval x) y)
    (hob : ∀ p ∈ r.obs, p) : PureOK C o a w F φ r := by
  simp only [absOp] at hr
  split at hr
  case h_2 => cases hr
  rename_i te hte
  have T := hT t te hte
  have key : ∀ (g off : Nat) (f : Nat → Value) (y z : AV), a.eval x = .pointer (some ⟨g, off, none⟩) → (∀ j, j < te.sh.size → w.cell? ⟨g, off + j, none⟩ = some (f j)) → wrapV te.sh y = some z →
      (∀ j, j < te.sh.size → Rep w F φ (f j) (leafAt te.sh y j)) → ∃ v, (execOp a.eval o).run C.P w = .ok (.value v) w ∧ Rep w F φ v z := by
    intro g off f y z hx hc hz hf
    refine ⟨_, ?_, wrap_rep hz hf⟩
    simp only [execOp, ho]
    refine run_value ?_
    simp only [Instr.loadAt, Instr.sureAddr, hx, Sem.run_bind, Sem.run_pure, Result.andThen_ok, T.runLoad g off f hc]
  split at hr
  · rename_i b p hx
    split at hr
    case h_2 => cases hr
    rename_i sh y hb
    split at hr
    case h_2 => cases hr
    rename_i s z hs hz
    split at hr
    case h_2 => cases hr
    rename_i hsame
    split at hr
    case h_2 => cases hr
    rename_i u hu
    cases hr
    have es := Shape.same_eq _ _ hsame
    subst es
    obtain ⟨g, hg, hp, hv⟩ := (he _ hx).ptr_inv
    obtain ⟨hsh, g', cs, hg', _, _, hh, hsz, hrep⟩ := h.cells hb
    rw [hg] at hg'; cases hg'
    rw [hsh] at hp hv
    have hlt := pathOff_lt p sh te.sh hp hs
    refine ⟨rfl, key g (pathOff p sh) (fun j => cs.getD (pathOff p sh + j) undef) z u hv (fun j hj => cell_of hh (by omega)) hu fun j hj => ?_⟩
    exact (hrep _ (by omega)).strip (nav_leafAt p sh te.sh y z hp hs hz j hj)
  · rename_i b i p hx
    split at hr
    case h_2 => cases hr
    rename_i ty sh n f hb
    split at hr
    case h_2 => cases hr
    rename_i s z hs hz
    split at hr
    case h_2 => cases hr
    rename_i hsame
    split at hr
    case h_2 => cases hr
    rename_i u hu
    cases hr
    have es := Shape.same_eq _ _ hsame
    subst es
    have hin : i < n := hob _ (by simp)
    obtain ⟨g, hg, hp, hv⟩ := (he _ hx).optr_inv
    obtain ⟨hsh, _, hrow⟩ := h.heap b _ hb
    rcases hrow with ⟨h1, _⟩ | ⟨g', cs, hg', _, _, hh, hsz, hn, _, hrep⟩
    · rw [hg] at h1; cases h1
    rw [hg] at hg'; cases hg'
    rw [hsh] at hp hv
    have hlt := pathOff_lt p sh te.sh hp hs
    have hmul : (i + 1) * sh.size ≤ (φ b).cap * sh.size := Nat.mul_le_mul_right _ (by omega)
    rw [Nat.add_mul] at hmul
    refine ⟨rfl, key g (i * sh.size + pathOff p sh) (fun j => cs.getD (i * sh.size + (pathOff p sh + j)) undef) z u hv (fun j hj => ?_) hu fun j hj => ?_⟩
    · rw [Nat.add_assoc]; exact cell_of hh (by omega)
    · exact (Rep.stat (hrep i hin _ (by omega))).strip (nav_leafAt p sh te.sh (f i) z hp hs hz j hj)
  · rename_i sh y hx
    split at hr
    case h_2 => cases hr
    rename_i hsame
    split at hr
    case h_2 => cases hr
    rename_i u hu
    cases hr
    have es := Shape.same_eq _ _ hsame
    subst es
    obtain ⟨g, off, cs, _, hv, hc, hrep⟩ := (he _ hx).rptr_inv
    exact ⟨rfl, key g off cs y u hv hc hu fun j hj => .stat (hrep j hj)⟩
  · cases hr

theorem pure_nilCheck {x : Operand} (ho : o.op = .nilCheck x) (hr : absOp C st e dst orc CC (.nilCheck x) = some r) (he : ∀ y, e x = some y → Rep w F φ (a.eval x) y) : PureOK C o a w F φ r := by
  simp only [absOp] at hr
  split at hr
  · rename_i b p hx; cases hr
    have hv := he _ hx
    obtain ⟨g, _, _, h1⟩ := hv.ptr_inv
    refine ⟨rfl, _, ?_, hv⟩
    rw [h1] at hv ⊢; simp [execOp, ho, h1]
  · rename_i b i p hx; cases hr
    have hv := he _ hx
    obtain ⟨g, _, _, h1⟩ := hv.optr_inv
    refine ⟨rfl, _, ?_, hv⟩
    rw [h1] at hv ⊢; simp [execOp, ho, h1]
  · rename_i s y hx; cases hr
    have hv := he _ hx
    obtain ⟨g, o', cs, _, h1, _⟩ := hv.rptr_inv
    refine ⟨rfl, _, ?_, hv⟩
    rw [h1] at hv ⊢; simp [execOp, ho, h1]
  · rename_i f l hx; cases hr
    have hv := he _ hx
    have h1 : ∃ caps, a.eval x = .func (.func f) #[] caps := by
      generalize a.eval x = v at *
      cases hv with
      | stat h => cases h; exact ⟨_, rfl⟩
      | clo => exact ⟨_, rfl⟩
    obtain ⟨caps, h1⟩ := h1
    refine ⟨rfl, _, ?_, hv⟩
    rw [h1] at hv ⊢; simp [execOp, ho, h1]
  · cases hr

theorem inR_bits {k : IntKind} (n : Int) : InR k (k.wrap n) := by
  unfold InR
  cases k <;> simp only [IntKind.wrap, IntKind.signed, IntKind.bits] <;> simp <;> split <;> simp_all <;> omega
end
end Go.AV
/- Arithmetic, comparisons, conversions, parts, indexes, slices of plain data. -/
namespace Go.AV
open Go.RowKit

section
variable {C : Cfg} {W0 : Entry} {F0 : Nat → Prop} {st : St} {a : Act} {w : World} {F : Nat → Prop} {φ : Nat → Place} {e : Operand → Option AV} {dst : Option Nat} {orc : FuncId → List AV → Option AV} {CC : FuncId → List AV → AV → Prop} {r : Res} {o : Oper}

theorem arith_rep {k : IntKind} {n : Int} (hob : ∀ p ∈ (arith C k n).obs, p) : Rep w F φ (.int k (k.wrap n)) (arith C k n).val := by
  unfold arith at *
  split
  · exact .stat (.int _ _ (inR_bits n))
  · rename_i hw
    simp only [hw] at hob
    have := hob _ (List.mem_singleton.2 rfl)
    unfold InR at this
    exact .stat (by rw [this]; exact .int _ _ this)

theorem arith_eff {k : IntKind} {n : Int} : (arith C k n).eff = .none := by unfold arith; split <;> rfl

theorem eqGuard_int (op : BinOp) (t : TypeId) (x y : Operand) (k k' : IntKind) (m n : Int) : (eqGuard op t x y (.int k m) (.int k' n)).run C.P w = .ok () w := by cases op <;> simp [eqGuard]
theorem eqGuard_bool (op : BinOp) (t : TypeId) (x y : Operand) (m n : Bool) : (eqGuard op t x y (.bool m) (.bool n)).run C.P w = .ok () w := by cases op <;> simp [eqGuard]
theorem eqGuard_str (op : BinOp) (t : TypeId) (x y : Operand) (m n : ByteArray) : (eqGuard op t x y (.string m) (.string n)).run C.P w = .ok () w := by cases op <;> simp [eqGuard]

theorem str_beq (s t : ByteArray) : (s.toList == t.toList) = (s.data.toList == t.data.toList) := by rw [ByteArray.toList_eq, ByteArray.toList_eq]

theorem repB (b : Bool) : Rep w F φ (.bool b) (.bool b) := .stat (.bool b)

theorem eqAV_spec {P : Program} {d : Nat} {t : TypeId} {te : TyE} {dd : TypeDesc} (hd : P.underlying t = some dd) (hk : kindIs C te.sh dd te.kind) {x y : AV} {u v : Value} {b : Bool} (hb : eqAV te.kind x y = some b)
    (rx : Rep w F φ u x) (ry : Rep w F φ v y) : (Op.equalIn (d + 1) t u v).run P w = .ok b w := by
  unfold eqAV at hb
  split at hb
  · rename_i h1
    rw [h1] at hk
    split at hb
    · rename_i e
      cases hb
      obtain ⟨rfl, _⟩ := rx.int_inv
      obtain ⟨rfl, _⟩ := ry.int_inv
      obtain ⟨rfl, _⟩ := hk
      rw [of_decide_eq_true e]
      exact run_equalIn_int w d t _ _ _ _ hd
    · cases hb
  · rename_i h1
    rw [h1] at hk
    cases hb
    obtain rfl := rx.bool_inv
    obtain rfl := ry.bool_inv
    obtain ⟨rfl, _⟩ := hk
    exact run_equalIn_bool' w d t _ _ hd
  · rename_i h1
    rw [h1] at hk
    cases hb
    obtain ⟨s1, rfl, rfl⟩ := rx.str_inv
    obtain ⟨s2, rfl, rfl⟩ := ry.str_inv
    obtain ⟨rfl, _⟩ := hk
    rw [run_equalIn_string w d t _ _ hd, str_beq]
  · cases hb

theorem eqAV_one {k : TyK} {x y : AV} {b : Bool} (h : eqAV k x y = some b) : x.isOne = true ∧ y.isOne = true := by
  unfold eqAV at h
  split at h <;> first | exact ⟨rfl, rfl⟩ | cases h

theorem eqAVs_spec {d : Nat} {xs ys : Array Value} (hT : TysOK C) :
    ∀ (fs : List Field) (ss : List Shape) (l m : List AV) (off : Nat) (b : Bool), eqAVs C (fs.map (·.type)) l m = some b →
    (∀ (i : Nat) (f : Field), fs[i]? = some f → ∃ te, tyOf C f.type = some te ∧ ss[i]? = some te.sh ∧ f.offset = off + Shape.sizes (ss.take i) ∧ f.name ≠ "_") →
    (∀ f ∈ fs, ∃ tf, tyOf C f.type = some tf ∧ tf.sh = .leaf) →
    (∀ j, j < Shape.sizes ss → Rep w F φ (xs.getD (off + j) undef) (leafsAt ss l j) ∧ off + j < xs.size) →
    (∀ j, j < Shape.sizes ss → Rep w F φ (ys.getD (off + j) undef) (leafsAt ss m j) ∧ off + j < ys.size) →
    (Op.eqFields (d + 1) xs ys fs).run C.P w = .ok b w := by
  intro fs
  induction fs with
  | nil =>
    intro ss l m off b hb _ _ _ _
    cases l <;> cases m <;> simp [eqAVs] at hb
    subst hb
    simp [Op.eqFields]
  | cons f fs ih =>
    intro ss l m off b hb hf hk hx hy
    cases l with
    | nil => simp [eqAVs] at hb
    | cons x l =>
      cases m with
      | nil => simp [eqAVs] at hb
      | cons y m =>
        obtain ⟨te, ht, hs0, hoff, hname⟩ := hf 0 f rfl
        obtain ⟨tf, htf, hleaf⟩ := hk f (by simp)
        rw [ht] at htf; cases htf
        cases ss with
        | nil => simp at hs0
        | cons s ss =>
          simp at hs0
          subst hs0
          rw [hleaf] at hf hx hy hoff
          simp only [List.map_cons, eqAVs, ht] at hb
          split at hb
          · rename_i b1 b2 hb1 hb2
            cases hb
            have hx0 := hx 0 (by simp [Shape.sizes, Shape.size]; omega)
            have hy0 := hy 0 (by simp [Shape.sizes, Shape.size]; omega)
            obtain ⟨ox, oy⟩ := eqAV_one hb1
            simp only [Nat.add_zero, leafsAt, Shape.size, Nat.lt_add_one, if_true, leafAt, asLeaf, ox, oy] at hx0 hy0
            have T := hT _ _ ht
            have hagg : (isAgg f.type).run C.P w = .ok false w := by rw [T.agg, hleaf]; rfl
            have hoff' : f.offset = off := by simpa [Shape.sizes] using hoff
            have gx : xs[off]? = some (xs.getD off undef) := by simp [hx0.2]
            have gy : ys[off]? = some (ys.getD off undef) := by simp [hy0.2]
            have px : (part f.type xs f.offset).run C.P w = .ok (xs.getD off undef) w := by simp only [part, Sem.run_bind, hagg, hoff', gx, Result.andThen_ok, Bool.false_eq_true, if_false, Sem.run_pure]
            have py : (part f.type ys f.offset).run C.P w = .ok (ys.getD off undef) w := by simp only [part, Sem.run_bind, hagg, hoff', gy, Result.andThen_ok, Bool.false_eq_true, if_false, Sem.run_pure]
            have hrest : (Op.eqFields (d + 1) xs ys fs).run C.P w = .ok b2 w := by
              refine ih ss l m (off + 1) b2 hb2 (fun i f' hi => ?_) (fun f' hf' => hk f' (by simp [hf'])) (fun j hj => ?_) (fun j hj => ?_)
              · obtain ⟨te', a1, a2, a3, a4⟩ := hf (i + 1) f' (by simpa using hi)
                exact ⟨te', a1, by simpa using a2, by rw [a3]; simp [Shape.sizes, Shape.size, Nat.add_assoc], a4⟩
              · have := hx (1 + j) (by simp [Shape.sizes, Shape.size]; omega)
                simp only [leafsAt] at this
                rw [if_neg (show ¬ 1 + j < Shape.leaf.size by simp [Shape.size]), show 1 + j - Shape.leaf.size = j from by simp [Shape.size], show off + (1 + j) = off + 1 + j from by omega] at this
                exact this
              · have := hy (1 + j) (by simp [Shape.sizes, Shape.size]; omega)
                simp only [leafsAt] at this
                rw [if_neg (show ¬ 1 + j < Shape.leaf.size by simp [Shape.size]), show 1 + j - Shape.leaf.size = j from by simp [Shape.size], show off + (1 + j) = off + 1 + j from by omega] at this
                exact this
            have heq : (Op.equalIn (d + 1) f.type (xs.getD off undef) (ys.getD off undef)).run C.P w = .ok b1 w := by
              obtain ⟨ds, i, z, hd, _, _, _, _, _, hki, _⟩ := T.info
              exact eqAV_spec hd hki hb1 hx0.1 hy0.1
            rw [Op.eqFields]
            simp only [hname, ne_eq, not_false_eq_true, if_true, Sem.run_bind, px, py, heq, Result.andThen_ok, Sem.run_ite, Sem.run_pure, hrest]
            cases b1 <;> simp
          · cases hb

theorem struct_eq {t : TypeId} {te : TyE} {ss ts : List Shape} {l m : List AV} {u v : Value} {b : Bool} (hT : TysOK C) (hte : tyOf C t = some te) (hq : te.eqs = true) (h1 : Shape.agg ss = te.sh) (h2 : Shape.agg ts = te.sh)
    (hb : eqAVs C (fieldsOf te.kind) l m = some b) (rx : Rep w F φ u (.mc (.agg ss) (.agg l))) (ry : Rep w F φ v (.mc (.agg ts) (.agg m))) :
    ∃ xs ys, u = .agg xs ∧ v = .agg ys ∧ C.P.eqGuardType C.P.depth t = false ∧ (Op.equalIn 10000 t (.agg xs) (.agg ys)).run C.P w = .ok b w := by
  have T := hT t te hte
  obtain ⟨e1, e2, fs, hk, hfs⟩ := T.eqs hq
  obtain ⟨d, i, z, hd, _, _, _, _, _, hki, _⟩ := T.info
  rw [hk] at hki hb
  obtain ⟨fields, ss', rfl, hsh, hlen, rfl, hf⟩ := hki
  rw [hsh] at h1 h2
  obtain rfl : ss' = ss := by injection h1 with h; exact h.symm
  obtain rfl : ss' = ts := by injection h2 with h; exact h.symm
  obtain ⟨xs, rfl, hxs, hrx⟩ := rx.mc_inv
  obtain ⟨ys, rfl, hys, hry⟩ := ry.mc_inv
  refine ⟨xs, ys, rfl, rfl, e1, ?_⟩
  have hfo : C.P.fieldsOf t = fields := by simp [Program.fieldsOf, hd]
  rw [run_equalIn_struct w 9999 t xs ys (by rw [hfo]; exact hd) e2, hfo]
  simp only [Shape.size] at hxs hys hrx hry
  refine eqAVs_spec (F := F) (φ := φ) hT fields.toList ss' l m 0 b hb (fun i f hi => ?_) (fun f hfm => ?_) (fun j hj => ?_) (fun j hj => ?_)
  · obtain ⟨te', a1, a2, a3, a4⟩ := hf i f (by simpa using hi)
    exact ⟨te', a1, a2, by rw [a3]; simp, a4⟩
  · obtain ⟨tf, a1, a2, _⟩ := hfs f.type (List.mem_map.2 ⟨f, hfm, rfl⟩)
    exact ⟨tf, a1, a2⟩
  · rw [Nat.zero_add]; exact ⟨hrx j hj, by omega⟩
  · rw [Nat.zero_add]; exact ⟨hry j hj, by omega⟩

theorem pure_bin {op : BinOp} {t t' : TypeId} {x y : Operand} {te : TyE} {u v : AV} (hT : TysOK C) (hte : tyOf C t = some te) (ho : o.op = .binOp op t x y t') (hsh : op ≠ .shl ∧ op ≠ .shr) (hr : binAV C te op u v = some r)
    (hx : Rep w F φ (a.eval x) u) (hy : Rep w F φ (a.eval y) v) (hob : ∀ p ∈ r.obs, p) : PureOK C o a w F φ r := by
  have T := hT t te hte
  unfold PureOK
  simp only [execOp, ho]
  have wr : ∀ {s : Sem Value} {V : Value}, (eqGuard op t x y (a.eval x) (a.eval y)).run C.P w = .ok () w → (binOp op t (a.eval x) (a.eval y)).run C.P w = .ok V w →
      (do let v ← (do eqGuard op t x y (a.eval x) (a.eval y); binOp op t (a.eval x) (a.eval y) : Sem Value); pure (Next.value v) : Sem Next).run C.P w = .ok (.value V) w := by
    intro s V h1 h2
    simp [h1, h2]
  unfold binAV at hr
  split at hr
  · rename_i k m k' n
    split at hr
    case h_2 => cases hr
    rename_i hk
    have hk := of_decide_eq_true hk
    subst hk
    obtain ⟨ex, _⟩ := hx.int_inv
    obtain ⟨ey, _⟩ := hy.int_inv
    rw [ex, ey] at wr ⊢
    have G := fun V => wr (s := pure .nilIface) (V := V) (eqGuard_int op t x y k k m n)
    clear wr
    split at hr <;> first | cases hr | skip
    · exact ⟨arith_eff, _, G (.int k (k.wrap (m + n))) (by simp [binOp, Op.intArith]), arith_rep hob⟩
    · exact ⟨arith_eff, _, G (.int k (k.wrap (m - n))) (by simp [binOp, Op.intArith]), arith_rep hob⟩
    · exact ⟨arith_eff, _, G (.int k (k.wrap (m * n))) (by simp [binOp, Op.intArith]), arith_rep hob⟩
    · have hz : n ≠ 0 := hob _ (by simp)
      exact ⟨arith_eff, _, G (.int k (k.wrap (m.tdiv n))) (by simp [binOp, Op.intDiv, hz]), arith_rep fun p hp => hob p (by simp [hp])⟩
    · have hz : n ≠ 0 := hob _ (by simp)
      have hi : InR k (m.tmod n) := hob _ (by simp)
      exact ⟨rfl, _, G (.int k (m.tmod n)) (by simp [binOp, Op.intDiv, hz]), .stat (.int _ _ hi)⟩
    · exact ⟨rfl, _, G (.bool (m == n)) (by simp [binOp, Op.intCmp]), repB _⟩
    · exact ⟨rfl, _, G (.bool (m != n)) (by simp [binOp, Op.intCmp]), repB _⟩
    · exact ⟨rfl, _, G (.bool (decide (m < n))) (by simp [binOp, Op.intCmp]), repB _⟩
    · exact ⟨rfl, _, G (.bool (decide (m ≤ n))) (by simp [binOp, Op.intCmp]), repB _⟩
    · exact ⟨rfl, _, G (.bool (decide (n < m))) (by simp [binOp, Op.intCmp]), repB _⟩
    · exact ⟨rfl, _, G (.bool (decide (n ≤ m))) (by simp [binOp, Op.intCmp]), repB _⟩
    · exact ⟨rfl, _, G (.int k (bits .and k m n)) (by simp [binOp, intBits_and]), .stat (.int _ _ (inR_bits _))⟩
    · exact ⟨rfl, _, G (.int k (bits .or k m n)) (by simp [binOp, intBits_or]), .stat (.int _ _ (inR_bits _))⟩
    · exact ⟨rfl, _, G (.int k (bits .xor k m n)) (by simp [binOp, intBits_xor]), .stat (.int _ _ (inR_bits _))⟩
  · rename_i m n
    split at hr
    case h_2 => cases hr
    rename_i hk
    obtain ⟨d, i, z, hd, _, _, _, _, _, hki, _⟩ := T.info
    rw [hk] at hki
    obtain ⟨rfl, _⟩ := hki
    have ex := hx.bool_inv
    have ey := hy.bool_inv
    rw [ex, ey] at wr ⊢
    have G := fun V => wr (s := pure .nilIface) (V := V) (eqGuard_bool op t x y m n)
    clear wr
    split at hr <;> first | cases hr | skip
    · exact ⟨rfl, _, G (.bool (m == n)) (by simp [binOp, Op.equal, Op.maxDepth, run_equalIn_bool' w 9999 t m n hd]), repB _⟩
    · exact ⟨rfl, _, G (.bool (!(m == n))) (by simp [binOp, Op.equal, Op.maxDepth, run_equalIn_bool' w 9999 t m n hd]), repB _⟩
  · rename_i m n
    obtain ⟨s1, ex, e1⟩ := hx.str_inv
    obtain ⟨s2, ey, e2⟩ := hy.str_inv
    subst e1 e2
    rw [ex, ey] at wr ⊢
    have G := fun V => wr (s := pure .nilIface) (V := V) (eqGuard_str op t x y s1 s2)
    clear wr
    split at hr <;> first | cases hr | skip
    · exact ⟨rfl, _, G (.bool (s1.data.toList == s2.data.toList)) (by simp only [binOp, Op.stringOp, str_beq, Sem.run_pure]), repB _⟩
    · exact ⟨rfl, _, G (.bool (!(s1.data.toList == s2.data.toList))) (by simp only [binOp, Op.stringOp, str_beq, Sem.run_pure]), repB _⟩
    · have hl := hob _ (List.mem_singleton.2 rfl)
      refine ⟨rfl, .string (s1 ++ s2), G _ ?_, ?_⟩
      · have : ¬ ((s1.size + s2.size : Nat) : Int) > IntKind.i64.max := by
          have e1 : s1.data.toList.length = s1.size := by rw [Array.length_toList]; rfl
          have e2 : s2.data.toList.length = s2.size := by rw [Array.length_toList]; rfl
          rw [e1, e2] at hl
          have : IntKind.i64.max = 9223372036854775807 := by decide
          omega
        simp only [binOp, Op.stringOp, this, if_false, Sem.run_pure]
      · have : (s1 ++ s2).data.toList = s1.data.toList ++ s2.data.toList := by simp
        rw [← this]
        exact .stat (.str _)
  · rename_i ss xs ts ys
    split at hr
    case h_2 => cases hr
    rename_i b hc hb
    simp only [Bool.and_eq_true] at hc
    obtain ⟨us, vs, ex, ey, hg, hq⟩ := struct_eq hT hte hc.1 (Shape.same_eq _ _ hc.2.1) (Shape.same_eq _ _ hc.2.2) hb hx hy
    rw [ex, ey] at wr ⊢
    have G := fun V => wr (s := pure .nilIface) (V := V) (run_eqGuard_agg w op t x y us vs hg)
    clear wr
    split at hr <;> first | cases hr | skip
    · exact ⟨rfl, _, G (.bool b) (by rw [run_eql_struct, hq]; rfl), repB _⟩
    · exact ⟨rfl, _, G (.bool (!b)) (by rw [run_neq_struct, hq]; rfl), repB _⟩
  · cases hr
end
end Go.AV
/- The remaining operations that only look. -/
namespace Go.AV
open Go.RowKit

section
variable {C : Cfg} {W0 : Entry} {F0 : Nat → Prop} {st : St} {a : Act} {w : World} {F : Nat → Prop} {φ : Nat → Place} {e : Operand → Option AV} {dst : Option Nat} {orc : FuncId → List AV → Option AV} {CC : FuncId → List AV → AV → Prop} {r : Res} {o : Oper}

theorem pure_shift {op : BinOp} {t t' : TypeId} {x y : Operand} {u v : AV} (ho : o.op = .binOp op t x y t') (hr : shiftAV op u v = some r)
    (hx : Rep w F φ (a.eval x) u) (hy : Rep w F φ (a.eval y) v) (hob : ∀ p ∈ r.obs, p) : PureOK C o a w F φ r := by
  unfold PureOK
  simp only [execOp, ho]
  unfold shiftAV at hr
  split at hr
  case h_2 => cases hr
  rename_i k m k' n
  obtain ⟨ex, _⟩ := hx.int_inv
  obtain ⟨ey, _⟩ := hy.int_inv
  rw [ex, ey]
  split at hr <;> first | cases hr | skip
  · have hb : 0 ≤ n ∧ n ≤ k.bits := hob _ (by simp)
    exact ⟨rfl, .int k (k.wrap (m * 2 ^ n.toNat)), by simp [eqGuard, binOp, shift_shl k k' m n hb.1 hb.2], .stat (.int _ _ (inR_bits _))⟩
  · have hb : 0 ≤ n ∧ n ≤ k.bits := hob _ (by simp)
    have hi : InR k (m / 2 ^ n.toNat) := hob _ (by simp)
    exact ⟨rfl, .int k (m / 2 ^ n.toNat), by simp [eqGuard, binOp, shift_shr k k' m n hb.1 hb.2], .stat (.int _ _ hi)⟩

theorem pure_binOp {op : BinOp} {t t' : TypeId} {x y : Operand} (hT : TysOK C) (ho : o.op = .binOp op t x y t') (hr : absOp C st e dst orc CC (.binOp op t x y t') = some r)
    (hx : ∀ u, e x = some u → Rep w F φ (a.eval x) u) (hy : ∀ u, e y = some u → Rep w F φ (a.eval y) u) (hob : ∀ p ∈ r.obs, p) : PureOK C o a w F φ r := by
  simp only [absOp] at hr
  split at hr
  · split at hr
    · rename_i h1 h2; exact pure_shift ho hr (hx _ h1) (hy _ h2) hob
    · cases hr
  · split at hr
    · rename_i h1 h2; exact pure_shift ho hr (hx _ h1) (hy _ h2) hob
    · cases hr
  · rename_i n1 n2
    split at hr
    · rename_i h1 h2 h3; exact pure_bin hT h1 ho ⟨n1, n2⟩ hr (hx _ h2) (hy _ h3) hob
    · cases hr

theorem pure_unOp {op : UnOp} {t : TypeId} {x : Operand} (ho : o.op = .unOp op t x) (hr : absOp C st e dst orc CC (.unOp op t x) = some r) (hx : ∀ u, e x = some u → Rep w F φ (a.eval x) u) (hob : ∀ p ∈ r.obs, p) :
    PureOK C o a w F φ r := by
  simp only [absOp] at hr
  split at hr
  · rename_i h1
    cases hr
    have := (hx _ h1).bool_inv
    exact ⟨rfl, .bool (!_), by simp [execOp, ho, Op.unary, this], repB _⟩
  · rename_i k n h1
    cases hr
    obtain ⟨this, _⟩ := (hx _ h1).int_inv
    exact ⟨arith_eff, .int k (k.wrap (0 - n)), by simp [execOp, ho, Op.unary, Op.intArith, this], arith_rep hob⟩
  · cases hr

theorem widen {k k' : IntKind} {n : Int} (hk : kindLe k k' = true) (h : InR k n) : k'.wrap n = n := by
  unfold InR at h
  cases k <;> cases k' <;> simp [kindLe] at hk <;> first | exact h | (simp only [IntKind.wrap, IntKind.signed, IntKind.bits] at h ⊢; simp at h ⊢; (repeat' split at h) <;> (repeat' split) <;> omega)

theorem kind_int {t : TypeId} {te : TyE} {k : IntKind} (T : TyOK C t te) (hk : te.kind = .int k) : C.P.underlying t = some (.int k) := by
  obtain ⟨d, i, z, hd, _, _, _, _, _, hki, _⟩ := T.info
  rw [hk] at hki
  rw [hd, hki.1]
theorem kind_string {t : TypeId} {te : TyE} (T : TyOK C t te) (hk : te.kind = .string) : C.P.underlying t = some .string := by
  obtain ⟨d, i, z, hd, _, _, _, _, _, hki, _⟩ := T.info
  rw [hk] at hki
  rw [hd, hki.1]
theorem kind_slice {t : TypeId} {te : TyE} {el : TypeId} (T : TyOK C t te) (hk : te.kind = .slice el) : C.P.underlying t = some (.slice el) := by
  obtain ⟨d, i, z, hd, _, _, _, _, _, hki, _⟩ := T.info
  rw [hk] at hki
  rw [hd, hki.1]
theorem kind_arr {t : TypeId} {te : TyE} {n : Nat} {el : TypeId} (T : TyOK C t te) (hk : te.kind = .arr n el) : C.P.underlying t = some (.array n el) ∧ ∃ tl, tyOf C el = some tl ∧ te.sh = .arr n tl.sh := by
  obtain ⟨d, i, z, hd, _, _, _, _, _, hki, _⟩ := T.info
  rw [hk] at hki
  exact ⟨by rw [hd, hki.1], hki.2⟩
theorem kind_struct {t : TypeId} {te : TyE} {fs : List TypeId} (T : TyOK C t te) (hk : te.kind = .struct fs) : ∃ (fields : Array Field) (ss : List Shape), C.P.underlying t = some (.struct fields) ∧ te.sh = .agg ss ∧ ss.length = fs.length ∧ fs = fields.toList.map (·.type) ∧
      ∀ i : Nat, ∀ f : Field, fields[i]? = some f → ∃ te, tyOf C f.type = some te ∧ ss[i]? = some te.sh ∧ f.offset = Shape.sizes (ss.take i) ∧ f.name ≠ "_" := by
  obtain ⟨d, i, z, hd, _, _, _, _, _, hki, _⟩ := T.info
  rw [hk] at hki
  obtain ⟨fields, ss, rfl, h⟩ := hki
  exact ⟨fields, ss, hd, h⟩

theorem pure_convert {s d : TypeId} {x : Operand} (hT : TysOK C) (ho : o.op = .convert s d x) (hr : absOp C st e dst orc CC (.convert s d x) = some r) (hx : ∀ u, e x = some u → Rep w F φ (a.eval x) u) : PureOK C o a w F φ r := by
  simp only [absOp] at hr
  split at hr
  · rename_i ts td k n h1 h2 h3
    obtain ⟨ev, hin⟩ := (hx _ h3).int_inv
    split at hr
    · rename_i k0 k' e1 e2
      have u1 := kind_int (hT _ _ h1) e1
      have u2 := kind_int (hT _ _ h2) e2
      have run : (execOp a.eval o).run C.P w = .ok (.value (.int k' (k'.wrap n))) w := by
        simp [execOp, ho, ev, convert, run_underlying u1, run_underlying u2, Conv.intToInt]
      split at hr
      · rename_i hw
        cases hr
        simp only [Bool.and_eq_true] at hw
        have hk0 := of_decide_eq_true hw.1
        subst hk0
        have := widen hw.2 hin
        exact ⟨rfl, _, run, by rw [this]; exact .stat (.int _ _ this)⟩
      · cases hr
        exact ⟨rfl, _, run, .stat (.int _ _ (inR_bits _))⟩
    · cases hr
  · rename_i ts td l h1 h2 h3
    obtain ⟨s', ev, rfl⟩ := (hx _ h3).str_inv
    split at hr
    · rename_i e1 e2
      cases hr
      have u1 := kind_string (hT _ _ h1) e1
      have u2 := kind_string (hT _ _ h2) e2
      exact ⟨rfl, .string s', by simp [execOp, ho, ev, convert, run_underlying u1, run_underlying u2], .stat (.str _)⟩
    · cases hr
  · cases hr

theorem evList_spec : ∀ {l : List Operand} {m : List AV}, evList e l = some m → (∀ x ∈ l, ∀ u, e x = some u → Rep w F φ (a.eval x) u) → l.length = m.length ∧ ∀ j, j < m.length → Rep w F φ ((l.map a.eval).getD j undef) (m.getD j .any)
  | [], m, h, _ => by simp [evList] at h; subst h; exact ⟨rfl, fun j hj => by simp at hj⟩
  | x :: l, m, h, hx => by
    simp only [evList] at h
    split at h
    · rename_i v vs h1 h2
      cases h
      obtain ⟨a1, a2⟩ := evList_spec h2 fun y hy => hx y (by simp [hy])
      refine ⟨by simp [a1], fun j hj => ?_⟩
      cases j with
      | zero => simpa using hx x (by simp) v h1
      | succ j => simpa using a2 j (by simpa using hj)
    · cases h

theorem pure_makeFunc {fn : Fn} {first caps : Array Operand} (ho : o.op = .makeFunc fn first caps) (hr : absOp C st e dst orc CC (.makeFunc fn first caps) = some r)
    (hx : ∀ x ∈ caps.toList, ∀ u, e x = some u → Rep w F φ (a.eval x) u) : PureOK C o a w F φ r := by
  cases fn <;> simp only [absOp] at hr <;> try cases hr
  rename_i f
  split at hr
  · rename_i l h1 h2
    cases hr
    obtain ⟨a1, a2⟩ := evList_spec h2 hx
    have hf : first = #[] := Array.eq_empty_of_size_eq_zero h1
    subst hf
    refine ⟨rfl, .func (.func f) #[] (caps.map a.eval), by simp [execOp, ho, Instr.makeFunc], .clo f _ l (by simpa using a1) fun j hj => ?_⟩
    have := a2 j hj
    simpa [Array.getD_eq_getD_getElem?, List.getD_eq_getElem?_getD] using this
  · cases hr

theorem pure_extract {x : Operand} {i : Nat} (ho : o.op = .extract x i) (hr : absOp C st e dst orc CC (.extract x i) = some r) (hx : ∀ u, e x = some u → Rep w F φ (a.eval x) u) : PureOK C o a w F φ r := by
  simp only [absOp] at hr
  split at hr
  · rename_i l h1
    split at hr
    · rename_i v h2
      cases hr
      have h3 := hx _ h1
      generalize hg : a.eval x = u at h3
      cases h3 with
      | stat h => cases h
      | tup vs _ hs hc =>
        have hi := (List.getElem?_eq_some_iff.1 h2).1
        have := hc i hi
        rw [List.getD_eq_getElem?_getD, h2] at this
        have h4 : vs[i]? = some (vs.getD i undef) := by simp [hs, hi]
        exact ⟨rfl, _, by simp only [execOp, ho, hg, Instr.extract, h4, Sem.run_bind, Sem.run_pure, Result.andThen_ok], this⟩
    · cases hr
  · cases hr

theorem pathOK_append {p : List Nat} {sh s : Shape} {i : Nat} (h : pathOK p sh) (hs : pathSh p sh = some s) : (pathOK [i] s → pathOK (p ++ [i]) sh) ∧ pathOff (p ++ [i]) sh = pathOff p sh + pathOff [i] s := by
  induction p generalizing sh with
  | nil => simp [pathSh] at hs; subst hs; simp [pathOff]
  | cons k p ih =>
    cases sh with
    | leaf => simp [pathOK] at h
    | agg ss =>
      simp only [List.cons_append, pathOK, pathSh, pathOff] at *
      cases hk : ss[k]? with
      | none => simp [hk] at h
      | some t =>
        simp only [hk] at h hs ⊢
        obtain ⟨a1, a2⟩ := ih h hs
        exact ⟨a1, by rw [a2]; omega⟩
    | arr n t =>
      simp only [List.cons_append, pathOK, pathSh, pathOff] at *
      obtain ⟨a1, a2⟩ := ih h.2 hs
      exact ⟨fun hp => ⟨h.1, a1 hp⟩, by rw [a2]; omega⟩

theorem boxSh_spec (h : Rel C W0 F0 st a w F φ) {b : Nat} {p : List Nat} {s : Shape} (hb : boxSh st b p = some s) : pathSh p (φ b).sh = some s := by
  unfold boxSh at hb
  split at hb
  · rename_i sh x hx
    rw [(h.cells hx).1]; exact hb
  · cases hb
theorem rowSh_spec (h : Rel C W0 F0 st a w F φ) {b : Nat} {p : List Nat} {s : Shape} (hb : rowSh st b p = some s) : pathSh p (φ b).sh = some s := by
  unfold rowSh at hb
  split at hb
  · rename_i ty sh n f hx
    rw [(h.heap b _ hx).1]; exact hb
  · cases hb

theorem pure_fieldAddr {t : TypeId} {x : Operand} {f : Nat} (h : Rel C W0 F0 st a w F φ) (hT : TysOK C) (ho : o.op = .fieldAddr t x f) (hr : absOp C st e dst orc CC (.fieldAddr t x f) = some r)
    (hx : ∀ u, e x = some u → Rep w F φ (a.eval x) u) : PureOK C o a w F φ r := by
  simp only [absOp] at hr
  split at hr
  case h_2 => cases hr
  rename_i te v h1 h2
  split at hr
  case h_2 => cases hr
  rename_i hf
  split at hr
  case h_2 => cases hr
  rename_i r' hr'
  cases hr
  have T := hT _ _ h1
  have hkind : ∃ fs, te.kind = .struct fs ∧ f < fs.length := by
    cases hk : te.kind <;> simp [hk, fieldCount, Nat.blt] at hf
    exact ⟨_, rfl, by omega⟩
  obtain ⟨fs, hk, hlt⟩ := hkind
  obtain ⟨fields, ss, hd, hsh, hlen, hfs, hfi⟩ := kind_struct T hk
  have hfl : f < fields.size := by rw [hfs] at hlt; simpa using hlt
  have hff : fields[f]? = some fields[f] := by simp [hfl]
  obtain ⟨tf, htf, hsf, hoff, _⟩ := hfi f _ hff
  have Tf := hT _ _ htf
  have run : ∀ g off, a.eval x = .pointer (some ⟨g, off, none⟩) → (execOp a.eval o).run C.P w = .ok (.value (.pointer (some ⟨g, off + Shape.sizes (ss.take f), none⟩))) w := by
    intro g off hv
    have hpos := Tf.pos
    simp only [execOp, ho]
    refine run_value ?_
    simp only [Instr.fieldAt, Sem.run_bind, run_underlying hd, Result.andThen_ok, hff, hv, Instr.sureAddr, Sem.run_pure, fieldPlace, Tf.size]
    rw [if_neg (by omega)]
    simp [hoff, add_none]
  have hp1 : pathOK [f] te.sh ∧ pathOff [f] te.sh = Shape.sizes (ss.take f) := by
    rw [hsh]; simp [pathOK, pathOff, hsf]
  unfold fieldAV at hr'
  have hrep := hx _ h2
  split at hr'
  · rename_i b p
    split at hr'
    case h_2 => cases hr'
    rename_i s hs
    split at hr'
    case h_2 => cases hr'
    rename_i hsame
    cases hr'
    have := Shape.same_eq _ _ hsame
    subst this
    obtain ⟨g, hg, hp, hv⟩ := hrep.ptr_inv
    obtain ⟨a1, a2⟩ := pathOK_append (i := f) hp (boxSh_spec h hs)
    refine ⟨rfl, _, run g _ hv, ?_⟩
    have := Rep.ptr (w := w) (F := F) (φ := φ) b g (p ++ [f]) hg (a1 hp1.1)
    rw [a2, hp1.2] at this
    exact this
  · rename_i b i p
    split at hr'
    case h_2 => cases hr'
    rename_i s hs
    split at hr'
    case h_2 => cases hr'
    rename_i hsame
    cases hr'
    have := Shape.same_eq _ _ hsame
    subst this
    obtain ⟨g, hg, hp, hv⟩ := hrep.optr_inv
    obtain ⟨a1, a2⟩ := pathOK_append (i := f) hp (rowSh_spec h hs)
    refine ⟨rfl, _, run g _ hv, ?_⟩
    have := Rep.optr (w := w) (F := F) (φ := φ) b g i (p ++ [f]) hg (a1 hp1.1)
    rw [a2, hp1.2, ← Nat.add_assoc] at this
    exact this
  · rename_i ss' xs
    split at hr'
    case h_2 => cases hr'
    rename_i hsame
    have := Shape.same_eq _ _ hsame
    rw [hsh] at this
    obtain rfl : ss' = ss := by injection this
    split at hr'
    case h_2 => cases hr'
    rename_i s y hs hy
    cases hr'
    obtain ⟨g, off, cs, hF, hv, hc, hrr⟩ := hrep.rptr_inv
    refine ⟨rfl, _, run g _ hv, .stat (.rptr g _ s y (fun j => cs (Shape.sizes (ss'.take f) + j)) hF (fun j hj => ?_) fun j hj => ?_)⟩
    · have := sizes_take_get hs
      rw [Nat.add_assoc]; exact hc _ (by simp only [Shape.size]; omega)
    · have h5 := sizes_take_get hs
      have h6 := hrr (Shape.sizes (ss'.take f) + j) (by simp only [Shape.size]; omega)
      simp only [leafAt] at h6
      rwa [leafsAt_get hs hy j hj] at h6
  · cases hr'
end
end Go.AV
/- Indexes, fields of values, slices of plain data, lengths, choices. -/
namespace Go.AV
open Go.RowKit

section
variable {C : Cfg} {W0 : Entry} {F0 : Nat → Prop} {st : St} {a : Act} {w : World} {F : Nat → Prop} {φ : Nat → Place} {e : Operand → Option AV} {dst : Option Nat} {orc : FuncId → List AV → Option AV} {CC : FuncId → List AV → AV → Prop} {r : Res} {o : Oper}

theorem ix_spec {x : Operand} {i : Int} (h : ixAV (e x) = some i) (hx : ∀ u, e x = some u → Rep w F φ (a.eval x) u) : ∃ k, a.eval x = .int k i := by
  unfold ixAV at h
  split at h
  · rename_i k n hn
    cases h
    exact ⟨k, (hx _ hn).int_inv.1⟩
  · cases h

/-- A slice value that reads as a row of plain data. -/
theorem Rep.nseq_seq {N : Nat → Prop} {sh : Shape} {n : Nat} {f : Nat → AV} {v : Value} (h : Rep w F φ v (.nseq N sh n f)) : Rep w F φ v (.seq sh n f) := by
  cases h with
  | stat h => cases h with
    | nseq0 => exact .stat (.seq0 _ _ _ _)
    | nseq _ g o _ cap _ _ cs hF _ _ hn hc hr => exact .stat (.seq g o n cap sh f cs hF hn hc hr)
theorem Rep.seq_inv {v : Value} {sh : Shape} {n : Nat} {f : Nat → AV} (h : Rep w F φ v (.seq sh n f) ∨ Rep w F φ v (.seqc sh n f)) : ∃ A cap, v = .slice A n cap ∧
    (0 < n → n ≤ cap ∧ ∃ g o, ∃ cs : Nat → Nat → Value, A = some ⟨g, o, none⟩ ∧ F g ∧ (∀ i, i < n → ∀ j, j < sh.size → w.cell? ⟨g, o + (i * sh.size + j), none⟩ = some (cs i j)) ∧
      (∀ i, i < n → ∀ j, j < sh.size → RepS w F (cs i j) (leafAt sh (f i) j))) := by
  rcases h with h | h
  · cases h with
    | stat h =>
      cases h with
      | seq0 A cap => exact ⟨A, cap, rfl, fun h => absurd h (by omega)⟩
      | seq g o n cap sh f cs hF hn hc hr => exact ⟨_, cap, rfl, fun _ => ⟨hn, g, o, cs, rfl, hF, hc, hr⟩⟩
  · cases h with
    | stat h =>
      cases h with
      | seqc0 A => exact ⟨A, 0, rfl, fun h => absurd h (by omega)⟩
      | seqc g o n sh f cs hF hc hr => exact ⟨_, n, rfl, fun _ => ⟨Nat.le_refl _, g, o, cs, rfl, hF, hc, hr⟩⟩

theorem pure_indexAddr {t : TypeId} {x ix : Operand} (h : Rel C W0 F0 st a w F φ) (hT : TysOK C) (ho : o.op = .indexAddr t x ix) (hr : absOp C st e dst orc CC (.indexAddr t x ix) = some r)
    (hx : ∀ u, e x = some u → Rep w F φ (a.eval x) u) (hi : ∀ u, e ix = some u → Rep w F φ (a.eval ix) u) (hob : ∀ p ∈ r.obs, p) : PureOK C o a w F φ r := by
  simp only [absOp] at hr
  split at hr
  case h_2 => cases hr
  rename_i te v i h1 h2 h3
  have T := hT _ _ h1
  obtain ⟨k, hk⟩ := ix_spec h3 hi
  have hrep := hx _ h2
  split at hr
  · rename_i el hkind
    have hd := kind_slice T hkind
    split at hr
    case h_2 => cases hr
    rename_i tl htl
    have Tl := hT _ _ htl
    have run : ∀ g off n cap, a.eval x = .slice (some ⟨g, off, none⟩) n cap → 0 ≤ i → i < (n : Int) → (execOp a.eval o).run C.P w = .ok (.value (.pointer (some ⟨g, off + i.toNat * tl.sh.size, none⟩))) w := by
      intro g off n cap hv hi0 hin
      simp only [execOp, ho]
      refine run_value ?_
      simp only [Instr.indexAt, hk, asIntOf, Sem.run_bind, Sem.run_pure, Result.andThen_ok, run_underlying hd, hv, hi0, hin, and_self, if_true, Tl.size, add_none]
    have seqs : ∀ (sh : Shape) (n : Nat) (f : Nat → AV), (Rep w F φ (a.eval x) (.seq sh n f) ∨ Rep w F φ (a.eval x) (.seqc sh n f)) → sh = tl.sh → inIx i n → r = ⟨.rptr sh (f i.toNat), .none, [inIx i n]⟩ → PureOK C o a w F φ r := by
      intro sh n f hrep hsh hin hr
      subst hr hsh
      obtain ⟨A, cap, hv, hcells⟩ := Rep.seq_inv hrep
      obtain ⟨hi0, hin⟩ := hin
      obtain ⟨hn, g, off, cs, rfl, hF, hc, hrr⟩ := hcells (by omega)
      refine ⟨rfl, _, run g off n cap hv hi0 hin, .stat (.rptr g _ _ _ (cs i.toNat) hF (fun j hj => ?_) fun j hj => hrr _ (by omega) j hj)⟩
      rw [Nat.add_assoc]; exact hc _ (by omega) j hj
    split at hr
    · rename_i sh n f
      split at hr
      case h_2 => cases hr
      rename_i hs
      cases hr
      exact seqs sh n f (.inl hrep) (Shape.same_eq _ _ hs) (hob _ (by simp)) rfl
    · rename_i sh n f
      split at hr
      case h_2 => cases hr
      rename_i hs
      cases hr
      exact seqs sh n f (.inr hrep) (Shape.same_eq _ _ hs) (hob _ (by simp)) rfl
    · rename_i N sh n f
      split at hr
      case h_2 => cases hr
      rename_i hs
      cases hr
      exact seqs sh n f (.inl hrep.nseq_seq) (Shape.same_eq _ _ hs) (hob _ (by simp)) rfl
    · rename_i b n
      split at hr
      case h_2 => cases hr
      rename_i ty sh n' f' hb
      split at hr
      case h_2 => cases hr
      rename_i hs
      cases hr
      have hin : inIx i n := hob _ (by simp)
      have hsz := (h.heap b _ hb).1
      have es := Shape.same_eq _ _ hs
      rcases hrep.own_inv with ⟨g, hg, hv, _⟩ | ⟨_, h0, _⟩
      · refine ⟨rfl, _, run g 0 n _ hv hin.1 hin.2, ?_⟩
        have := Rep.optr (w := w) (F := F) (φ := φ) b g i.toNat [] hg (by simp [pathOK])
        rw [hsz, es] at this
        simpa [pathOff] using this
      · have := hin.2; have := hin.1; omega
    · cases hr
  · rename_i n el hkind
    obtain ⟨hd, tl, htl, hsh⟩ := kind_arr T hkind
    have Tl := hT _ _ htl
    have run : ∀ g off, a.eval x = .pointer (some ⟨g, off, none⟩) → 0 ≤ i → i < (n : Int) → (execOp a.eval o).run C.P w = .ok (.value (.pointer (some ⟨g, off + i.toNat * tl.sh.size, none⟩))) w := by
      intro g off hv hi0 hin
      simp only [execOp, ho]
      refine run_value ?_
      simp only [Instr.indexAt, hk, asIntOf, Sem.run_bind, Sem.run_pure, Result.andThen_ok, run_underlying hd, hv, Instr.sureAddr, hi0, hin, and_self, if_true, Tl.size, add_none]
    have hp1 : inIx i n → pathOK [i.toNat] te.sh ∧ pathOff [i.toNat] te.sh = i.toNat * tl.sh.size := by
      intro hin
      rw [hsh]
      have := hin.1; have := hin.2
      exact ⟨⟨by omega, trivial⟩, by simp [pathOff]⟩
    split at hr
    · rename_i b p
      split at hr
      case h_2 => cases hr
      rename_i s hs
      split at hr
      case h_2 => cases hr
      rename_i hsame
      cases hr
      have hin : inIx i n := hob _ (by simp)
      have := Shape.same_eq _ _ hsame
      subst this
      obtain ⟨g, hg, hp, hv⟩ := hrep.ptr_inv
      obtain ⟨a1, a2⟩ := pathOK_append (i := i.toNat) hp (boxSh_spec h hs)
      refine ⟨rfl, _, run g _ hv hin.1 hin.2, ?_⟩
      have := Rep.ptr (w := w) (F := F) (φ := φ) b g (p ++ [i.toNat]) hg (a1 (hp1 hin).1)
      rw [a2, (hp1 hin).2] at this
      exact this
    · rename_i b k' p
      split at hr
      case h_2 => cases hr
      rename_i s hs
      split at hr
      case h_2 => cases hr
      rename_i hsame
      cases hr
      have hin : inIx i n := hob _ (by simp)
      have := Shape.same_eq _ _ hsame
      subst this
      obtain ⟨g, hg, hp, hv⟩ := hrep.optr_inv
      obtain ⟨a1, a2⟩ := pathOK_append (i := i.toNat) hp (rowSh_spec h hs)
      refine ⟨rfl, _, run g _ hv hin.1 hin.2, ?_⟩
      have := Rep.optr (w := w) (F := F) (φ := φ) b g k' (p ++ [i.toNat]) hg (a1 (hp1 hin).1)
      rw [a2, (hp1 hin).2, ← Nat.add_assoc] at this
      exact this
    · rename_i m s m' f
      split at hr
      case h_2 => cases hr
      rename_i hsame
      cases hr
      have hin : inIx i n := hob _ (by simp)
      have := Shape.same_eq _ _ hsame
      rw [hsh] at this
      obtain ⟨rfl, rfl⟩ : m = n ∧ s = tl.sh := by injection this; exact ⟨by assumption, by assumption⟩
      obtain ⟨g, off, cs, hF, hv, hc, hrr⟩ := hrep.rptr_inv
      have hlt : (i.toNat + 1) * tl.sh.size ≤ m * tl.sh.size := Nat.mul_le_mul_right _ (by have := hin.1; have := hin.2; omega)
      rw [Nat.add_mul] at hlt
      refine ⟨rfl, _, run g _ hv hin.1 hin.2, .stat (.rptr g _ _ _ (fun j => cs (i.toNat * tl.sh.size + j)) hF (fun j hj => ?_) fun j hj => ?_)⟩
      · rw [Nat.add_assoc]; exact hc _ (by simp only [Shape.size]; omega)
      · have h6 := hrr (i.toNat * tl.sh.size + j) (by simp only [Shape.size]; omega)
        simp only [leafAt] at h6
        have ht := Tl.pos
        rw [Nat.mul_comm i.toNat, Nat.mul_add_div ht, Nat.mul_add_mod, Nat.div_eq_of_lt hj, Nat.mod_eq_of_lt hj, Nat.add_zero] at h6
        rw [Nat.mul_comm i.toNat]
        exact h6.strip (.st (.refl _))
    · cases hr
  · cases hr

theorem part_rep {t : TypeId} {te : TyE} (T : TyOK C t te) {cs : Array Value} {off : Nat} {x z : AV} (hl : off + te.sh.size ≤ cs.size) (hz : wrapV te.sh x = some z) (hr : ∀ j, j < te.sh.size → Rep w F φ (cs.getD (off + j) undef) (leafAt te.sh x j)) :
    ∃ v, (part t cs off).run C.P w = .ok v w ∧ Rep w F φ v z := by
  have hw := wrap_rep (f := fun j => cs.getD (off + j) undef) hz hr
  refine ⟨_, ?_, hw⟩
  simp only [part, Sem.run_bind, T.agg, Result.andThen_ok, loadVal]
  cases hs : te.sh.isAgg with
  | false =>
    have hp := T.pos
    have : cs[off]? = some (cs.getD off undef) := by simp [show off < cs.size by omega]
    rw [if_neg (by simp)]
    simp only [this, Sem.run_pure, Nat.add_zero]
  | true =>
    rw [if_pos rfl]
    rw [Sem.run_bind, T.size, Result.andThen_ok, Sem.run_pure]
    congr 2
    apply Array.ext
    · simp only [List.size_toArray, List.length_map, List.length_range, Array.size_extract]; omega
    · intro j h1 h2
      simp only [List.size_toArray, List.length_map, List.length_range] at h2
      simp only [Array.getElem_extract, List.getElem_toArray, List.getElem_map, List.getElem_range, Array.getD_eq_getD_getElem?]
      rw [Array.getElem?_eq_getElem (by omega), Option.getD_some]

theorem pure_field {t : TypeId} {x : Operand} {f : Nat} (hT : TysOK C) (ho : o.op = .field t x f) (hr : absOp C st e dst orc CC (.field t x f) = some r)
    (hx : ∀ u, e x = some u → Rep w F φ (a.eval x) u) : PureOK C o a w F φ r := by
  simp only [absOp] at hr
  split at hr
  case h_2 => cases hr
  rename_i te ss xs h1 h2
  split at hr
  case h_2 => cases hr
  rename_i s y hc hs hy
  split at hr
  case h_2 => cases hr
  rename_i z hz
  cases hr
  have T := hT _ _ h1
  simp only [Bool.and_eq_true] at hc
  have hkind : ∃ fs, te.kind = .struct fs ∧ f < fs.length := by
    have := hc.2
    cases hk : te.kind <;> simp [hk, fieldCount, Nat.blt] at this
    exact ⟨_, rfl, by omega⟩
  obtain ⟨fs, hk, hlt⟩ := hkind
  obtain ⟨fields, ss', hd, hsh, hlen, hfs, hfi⟩ := kind_struct T hk
  have := Shape.same_eq _ _ hc.1
  rw [hsh] at this
  obtain rfl : ss = ss' := by injection this
  have hfl : f < fields.size := by rw [hfs] at hlt; simpa using hlt
  have hff : fields[f]? = some fields[f] := by simp [hfl]
  obtain ⟨tf, htf, hsf, hoff, _⟩ := hfi f _ hff
  rw [hs] at hsf
  cases hsf
  obtain ⟨cs, hv, hsz, hrr⟩ := (hx _ h2).mc_inv
  simp only [Shape.size] at hsz
  have h5 := sizes_take_get hs
  obtain ⟨v, hrun, hrep⟩ := part_rep (hT _ _ htf) (cs := cs) (off := Shape.sizes (ss.take f)) (x := y) (z := z) (by omega) hz (fun j hj => by
    have h6 := hrr (Shape.sizes (ss.take f) + j) (by simp only [Shape.size]; omega)
    simp only [leafAt] at h6
    rwa [leafsAt_get hs hy j hj] at h6)
  refine ⟨rfl, v, ?_, hrep⟩
  simp only [execOp, ho]
  refine run_value ?_
  simp only [Instr.field, Sem.run_bind, run_underlying hd, Result.andThen_ok, hff, hv, asAgg, Sem.run_pure, hoff, hrun]

theorem pure_index {t : TypeId} {x ix : Operand} (hT : TysOK C) (ho : o.op = .index t x ix) (hr : absOp C st e dst orc CC (.index t x ix) = some r)
    (hx : ∀ u, e x = some u → Rep w F φ (a.eval x) u) (hi : ∀ u, e ix = some u → Rep w F φ (a.eval ix) u) (hob : ∀ p ∈ r.obs, p) : PureOK C o a w F φ r := by
  simp only [absOp] at hr
  split at hr
  case h_2 => cases hr
  rename_i te v i h1 h2 h3
  have T := hT _ _ h1
  obtain ⟨k, hk⟩ := ix_spec h3 hi
  have hrep := hx _ h2
  split at hr
  · rename_i l hkind
    cases hr
    have hd := kind_string T hkind
    obtain ⟨s, hv, rfl⟩ := hrep.str_inv
    obtain ⟨hi0, hin⟩ : inIx i s.data.toList.length := hob _ (by simp)
    have hl : s.data.toList.length = s.size := by rw [Array.length_toList]; rfl
    have hlt : i.toNat < s.size := by omega
    have hs : s[i.toNat]? = some (s.data.toList.getD i.toNat 0) := by
      rw [ByteArray.getElem?_lt' s _ hlt, List.getD_eq_getElem?_getD, List.getElem?_eq_getElem (by omega), Option.getD_some]
      rfl
    refine ⟨rfl, .int .u8 ((s.data.toList.getD i.toNat 0).toNat : Int), ?_, .stat (.int _ _ ?_)⟩
    · simp only [execOp, ho]
      refine run_value ?_
      simp only [Instr.index, hk, asIntOf, Sem.run_bind, Sem.run_pure, Result.andThen_ok, run_underlying hd, hv, hi0, if_true, hs]
    · have := UInt8.toNat_lt (s.data.toList.getD i.toNat 0)
      unfold InR
      generalize (s.data.toList.getD i.toNat 0).toNat = q at this
      simp only [IntKind.wrap, IntKind.signed, IntKind.bits]
      simp
      omega
  · rename_i n el m s m' f hkind
    split at hr
    case h_2 => cases hr
    rename_i hsame
    split at hr
    case h_2 => cases hr
    rename_i z hz
    cases hr
    obtain ⟨hd, tl, htl, hsh⟩ := kind_arr T hkind
    have Tl := hT _ _ htl
    have hin : inIx i n := hob _ (by simp)
    have := Shape.same_eq _ _ hsame
    rw [hsh] at this
    obtain ⟨rfl, rfl⟩ : m = n ∧ s = tl.sh := by injection this; exact ⟨by assumption, by assumption⟩
    obtain ⟨cs, hv, hsz, hrr⟩ := hrep.mc_inv
    simp only [Shape.size] at hsz
    have hlt : (i.toNat + 1) * tl.sh.size ≤ m * tl.sh.size := Nat.mul_le_mul_right _ (by have := hin.1; have := hin.2; omega)
    rw [Nat.add_mul] at hlt
    obtain ⟨v, hrun, hrep⟩ := part_rep Tl (cs := cs) (off := i.toNat * tl.sh.size) (x := f i.toNat) (z := z) (by omega) hz (fun j hj => by
      have h6 := hrr (i.toNat * tl.sh.size + j) (by simp only [Shape.size]; omega)
      simp only [leafAt] at h6
      have ht := Tl.pos
      rw [Nat.mul_comm i.toNat, Nat.mul_add_div ht, Nat.mul_add_mod, Nat.div_eq_of_lt hj, Nat.mod_eq_of_lt hj, Nat.add_zero] at h6
      rw [Nat.mul_comm i.toNat]
      exact h6.strip (.st (.refl _)))
    refine ⟨rfl, v, ?_, hrep⟩
    simp only [execOp, ho]
    refine run_value ?_
    simp only [Instr.index, hk, asIntOf, Sem.run_bind, Sem.run_pure, Result.andThen_ok, run_underlying hd, hv, hin.1, hin.2, and_self, if_true, Tl.size, hrun]
  · cases hr

theorem pure_pick {c x y : Operand} {p : Bool} {u v z : AV} (ho : o.op = .pick c x y) (hc : Rep w F φ (a.eval c) (.bool p)) (hx : p = true → Rep w F φ (a.eval x) u) (hy : p = false → Rep w F φ (a.eval y) v)
    (hz : pickAV p (isTrue x) (isFalse y) u v = some z) : ∃ V, (execOp a.eval o).run C.P w = .ok (.value V) w ∧ Rep w F φ V z := by
  have hb := hc.bool_inv
  refine ⟨if p then a.eval x else a.eval y, by simp [execOp, ho, asBool, hb], ?_⟩
  have ht : isTrue x = true → a.eval x = .bool true := by
    intro h; unfold isTrue at h; split at h
    · rfl
    · cases h
  have hf : isFalse y = true → a.eval y = .bool false := by
    intro h; unfold isFalse at h; split at h
    · rfl
    · cases h
  unfold pickAV at hz
  split at hz
  · split at hz
    · rename_i h1
      cases hz
      cases p with
      | true => simpa using hx rfl
      | false => simpa [hf h1] using repB (w := w) (F := F) (φ := φ) false
    · rename_i h1 _
      cases hz
      cases p with
      | true => simpa [ht h1] using repB (w := w) (F := F) (φ := φ) true
      | false => simpa using hy rfl
    · cases hz
      cases p with
      | true => simpa using hx rfl
      | false => simpa using hy rfl
  · split at hz
    · rename_i hk
      have := of_decide_eq_true hk
      subst this
      cases hz
      cases p with
      | true => simpa using hx rfl
      | false => simpa using hy rfl
    · cases hz
  · cases hz
end
end Go.AV
/- Cuts of strings and rows, lengths, least and greatest, built structs. -/
namespace Go.AV
open Go.RowKit

section
variable {C : Cfg} {W0 : Entry} {F0 : Nat → Prop} {st : St} {a : Act} {w : World} {F : Nat → Prop} {φ : Nat → Place} {e : Operand → Option AV} {dst : Option Nat} {orc : FuncId → List AV → Option AV} {CC : FuncId → List AV → AV → Prop} {r : Res} {o : Oper}

/-- A bound that is there, or not. -/
def BoundIs (x : Option Value) (d i : Int) : Prop := (x = none ∧ i = d) ∨ ∃ k, x = some (.int k i)

theorem bound_spec {x : Option Operand} {d i : Int} (h : bndOf e d x = some i) (hx : ∀ y ∈ x.toList, ∀ u, e y = some u → Rep w F φ (a.eval y) u) : BoundIs (x.map a.eval) d i := by
  cases x with
  | none => simp [bndOf] at h; exact .inl ⟨rfl, h.symm⟩
  | some y =>
    obtain ⟨k, hk⟩ := ix_spec (x := y) h (hx y (by simp))
    exact .inr ⟨k, by simp [hk]⟩

theorem run_bound {P : Program} {k : IntKind} {i : Int} {y : Nat} {code : BoundsCode} (h0 : 0 ≤ i) (h1 : i ≤ (y : Int)) : (Instr.sliceBound (.int k i) y code).run P w = .ok i.toNat w := by
  simp [Instr.sliceBound, asIntOf, h0, h1]

theorem run_bounds {P : Program} {isSlice : Bool} {len cap : Nat} {lo hi : Option Value} {l h : Int} (hlo : BoundIs lo 0 l) (hhi : BoundIs hi len h) (h0 : 0 ≤ l) (h1 : l ≤ h) (h2 : h ≤ (cap : Int)) :
    (Instr.sliceBounds isSlice len cap lo hi none).run P w = .ok (l.toNat, h.toNat, cap) w := by
  have b1 := fun k code => run_bound (w := w) (P := P) (k := k) (i := l) (y := h.toNat) (code := code) h0 (by omega)
  have b2 := fun k code => run_bound (w := w) (P := P) (k := k) (i := h) (y := cap) (code := code) (by omega) h2
  rcases hlo with ⟨rfl, rfl⟩ | ⟨k, rfl⟩ <;> rcases hhi with ⟨rfl, rfl⟩ | ⟨k', rfl⟩ <;> (try simp only [Int.toNat_natCast] at b1 b2)
  · simp [Instr.sliceBounds]
  · simp [Instr.sliceBounds, b2]
  · simp [Instr.sliceBounds, b1]
  · simp [Instr.sliceBounds, b1, b2]

theorem run_bounds3 {P : Program} {len cap : Nat} {lo : Option Value} {k' km : IntKind} {l h m : Int} (hlo : BoundIs lo 0 l) (h0 : 0 ≤ l) (h1 : l ≤ h) (h2 : h ≤ m) (h3 : m ≤ (cap : Int)) :
    (Instr.sliceBounds true len cap lo (some (.int k' h)) (some (.int km m))).run P w = .ok (l.toNat, h.toNat, m.toNat) w := by
  have b1 := fun k code => run_bound (w := w) (P := P) (k := k) (i := l) (y := h.toNat) (code := code) h0 (by omega)
  have b2 := fun k code => run_bound (w := w) (P := P) (k := k) (i := h) (y := m.toNat) (code := code) (by omega) (by omega)
  have b3 := fun k code => run_bound (w := w) (P := P) (k := k) (i := m) (y := cap) (code := code) (by omega) h3
  rcases hlo with ⟨rfl, rfl⟩ | ⟨k, rfl⟩
  · simp [Instr.sliceBounds, b2, b3]
  · simp [Instr.sliceBounds, b1, b2, b3]

theorem sliceAt_slice {P : Program} {t : TypeId} {d : TypeDesc} (hd : P.underlying t = some d) (hn : descAgg d = false) (x : Value) (lo hi mx : Option Value) : (Instr.sliceAt t x lo hi mx).run P w = (Instr.slice t x lo hi mx).run P w := by
  simp only [Instr.sliceAt, Sem.run_bind, run_underlying hd, Result.andThen_ok]
  cases d <;> first | rfl | simp [descAgg] at hn

theorem cut_rep {A : Option Addr} {n cap m : Nat} {sh : Shape} {f : Nat → AV} {l h : Int} (hcells : 0 < n → n ≤ cap ∧ ∃ g o, ∃ cs : Nat → Nat → Value, A = some ⟨g, o, none⟩ ∧ F g ∧ (∀ i, i < n → ∀ j, j < sh.size → w.cell? ⟨g, o + (i * sh.size + j), none⟩ = some (cs i j)) ∧
      (∀ i, i < n → ∀ j, j < sh.size → RepS w F (cs i j) (leafAt sh (f i) j))) (h0 : 0 ≤ l) (h1 : l ≤ h) (h2 : h ≤ (n : Int)) (hm : h.toNat ≤ m) :
    RepS w F (.slice (if m = l.toNat then A else A.map (·.add (l.toNat * sh.size))) (h.toNat - l.toNat) (m - l.toNat)) (.seq sh (h - l).toNat (fun i => f (l.toNat + i))) ∧
    (m = h.toNat → RepS w F (.slice (if m = l.toNat then A else A.map (·.add (l.toNat * sh.size))) (h.toNat - l.toNat) (m - l.toNat)) (.seqc sh (h - l).toNat (fun i => f (l.toNat + i)))) := by
  have en : (h - l).toNat = h.toNat - l.toNat := by omega
  rw [en]
  by_cases hz : h.toNat - l.toNat = 0
  · rw [hz]
    refine ⟨.seq0 _ _ _ _, fun hm' => ?_⟩
    rw [show m - l.toNat = 0 from by omega]
    exact .seqc0 _ _ _
  · obtain ⟨hn, g, o', cs, rfl, hF, hc, hr⟩ := hcells (by omega)
    rw [if_neg (by omega)]
    simp only [Option.map_some, add_none]
    have c1 : ∀ i, i < h.toNat - l.toNat → ∀ j, j < sh.size → w.cell? ⟨g, o' + l.toNat * sh.size + (i * sh.size + j), none⟩ = some (cs (l.toNat + i) j) := by
      intro i hi j hj
      have := hc (l.toNat + i) (by omega) j hj
      rw [Nat.add_mul] at this
      rw [show o' + l.toNat * sh.size + (i * sh.size + j) = o' + (l.toNat * sh.size + i * sh.size + j) from by omega]
      exact this
    have c2 : ∀ i, i < h.toNat - l.toNat → ∀ j, j < sh.size → RepS w F (cs (l.toNat + i) j) (leafAt sh (f (l.toNat + i)) j) := fun i hi j hj => hr (l.toNat + i) (by omega) j hj
    refine ⟨.seq g _ _ _ sh _ (fun i => cs (l.toNat + i)) hF (by omega) c1 c2, fun hm' => ?_⟩
    rw [show m - l.toNat = h.toNat - l.toNat from by omega]
    exact .seqc g _ _ sh _ (fun i => cs (l.toNat + i)) hF c1 c2

theorem pure_slice {t : TypeId} {x : Operand} {lo hi mx : Option Operand} (h : Rel C W0 F0 st a w F φ) (hT : TysOK C) (ho : o.op = .slice t x lo hi mx) (hr : absOp C st e dst orc CC (.slice t x lo hi mx) = some r)
    (hx : ∀ u, e x = some u → Rep w F φ (a.eval x) u) (hlo : ∀ y ∈ lo.toList, ∀ u, e y = some u → Rep w F φ (a.eval y) u) (hhi : ∀ y ∈ hi.toList, ∀ u, e y = some u → Rep w F φ (a.eval y) u)
    (hmx : ∀ y ∈ mx.toList, ∀ u, e y = some u → Rep w F φ (a.eval y) u) (hob : ∀ p ∈ r.obs, p) : PureOK C o a w F φ r := by
  simp only [absOp] at hr
  split at hr
  case h_2 => cases hr
  rename_i te v h1 h2
  have T := hT _ _ h1
  have hrep := hx _ h2
  split at hr
  · rename_i hkind
    have hd := kind_string T hkind
    split at hr
    case h_2 => cases hr
    rename_i l
    split at hr
    case h_2 => cases hr
    rename_i p q hp hq
    cases hr
    obtain ⟨s, hv, rfl⟩ := hrep.str_inv
    have hl : s.data.toList.length = s.size := by rw [Array.length_toList]; rfl
    obtain ⟨b0, b1, b2⟩ : 0 ≤ p ∧ p ≤ q ∧ q ≤ (s.data.toList.length : Int) := hob _ (by simp)
    rw [hl] at b2 hq
    refine ⟨rfl, .string (s.extract p.toNat q.toNat), ?_, ?_⟩
    · simp only [execOp, ho]
      refine run_value ?_
      rw [sliceAt_slice hd rfl]
      simp only [Option.map_none, Instr.slice, Sem.run_bind, run_underlying hd, Result.andThen_ok, hv, Option.isSome_none, Bool.false_eq_true, if_false, Sem.run_pure,
        run_bounds (bound_spec hp hlo) (bound_spec hq hhi) b0 b1 b2]
    · have : (s.data.toList.drop p.toNat).take (q - p).toNat = (s.extract p.toNat q.toNat).data.toList := by
        rw [Lib.extract_data, show (q - p).toNat = q.toNat - p.toNat from by omega]
      simp only [this]
      exact .stat (.str _)
  · rename_i el hkind
    have hd := kind_slice T hkind
    have run2 : ∀ {tl : TyE} {A : Option Addr} {n cap : Nat} {p q : Int}, tyOf C el = some tl → a.eval x = .slice A n cap → BoundIs (lo.map a.eval) 0 p → BoundIs (hi.map a.eval) n q → mx = none → 0 ≤ p → p ≤ q → q ≤ (cap : Int) →
        (execOp a.eval o).run C.P w = .ok (.value (.slice (if cap = p.toNat then A else A.map (·.add (p.toNat * tl.sh.size))) (q.toNat - p.toNat) (cap - p.toNat))) w := by
      intro tl A n cap p q htl hv bl bh hm b0 b1 b2
      subst hm
      simp only [execOp, ho]
      refine run_value ?_
      rw [sliceAt_slice hd rfl]
      simp only [Option.map_none, Instr.slice, Sem.run_bind, run_underlying hd, Result.andThen_ok, hv, Sem.run_pure, run_bounds bl bh b0 b1 b2, (hT _ _ htl).size]
    split at hr
    · rename_i tl sh n f htl
      split at hr
      · rename_i p q hs hp hq
        cases hr
        have es := Shape.same_eq _ _ hs
        subst es
        obtain ⟨b0, b1, b2⟩ : 0 ≤ p ∧ p ≤ q ∧ q ≤ (n : Int) := hob _ (by simp)
        obtain ⟨A, cap, hv, hcells⟩ := Rep.seq_inv (.inl hrep)
        have hcap : q.toNat ≤ cap := by
          rcases Nat.eq_zero_or_pos n with h0 | h0
          · have : q.toNat = 0 := by omega
            omega
          · have := (hcells h0).1; omega
        exact ⟨rfl, _, run2 htl hv (bound_spec hp hlo) (bound_spec hq hhi) rfl b0 b1 (by omega), .stat (cut_rep hcells b0 b1 b2 hcap).1⟩
      · rename_i p q m hs hp hq
        split at hr
        case h_2 => cases hr
        rename_i mm hmm hsome
        cases hr
        have es := Shape.same_eq _ _ hs
        subst es
        obtain ⟨b0, b1, b2, b3⟩ : 0 ≤ p ∧ p ≤ q ∧ q ≤ (n : Int) ∧ mm = q := hob _ (by simp)
        subst b3
        obtain ⟨A, cap, hv, hcells⟩ := Rep.seq_inv (.inl hrep)
        have hcap : mm.toNat ≤ cap := by
          rcases Nat.eq_zero_or_pos n with h0 | h0
          · have : mm.toNat = 0 := by omega
            omega
          · have := (hcells h0).1; omega
        obtain ⟨km, hkm⟩ := ix_spec hmm (hmx m (by simp))
        have hhi' : ∃ kh, hi.map a.eval = some (.int kh mm) := by
          rcases bound_spec hq hhi with ⟨h3, h4⟩ | h3
          · rw [Option.map_eq_none_iff] at h3
            rw [h3] at hsome; cases hsome
          · exact h3
        obtain ⟨kh, hkh⟩ := hhi'
        refine ⟨rfl, _, ?_, .stat ((cut_rep (m := mm.toNat) hcells b0 b1 b2 (Nat.le_refl _)).2 rfl)⟩
        simp only [execOp, ho]
        refine run_value ?_
        rw [sliceAt_slice hd rfl]
        simp only [Option.map_some, Instr.slice, Sem.run_bind, run_underlying hd, Result.andThen_ok, hv, Sem.run_pure, hkm, hkh, run_bounds3 (bound_spec hp hlo) b0 b1 (Int.le_refl _) (show mm ≤ (cap : Int) by omega), (hT _ _ htl).size]
      · cases hr
    · rename_i tl b n htl
      split at hr
      case h_2 => cases hr
      rename_i ty sh n' f' hb
      split at hr
      case h_2 => cases hr
      rename_i q hs hp hq
      cases hr
      obtain ⟨b0, b1⟩ : 0 ≤ q ∧ q ≤ (n : Int) := hob _ (by simp)
      rcases hrep.own_inv with ⟨g, hg, hv, hn⟩ | ⟨hg, h0, hv⟩
      · refine ⟨rfl, _, run2 htl hv (bound_spec hp hlo) (bound_spec hq hhi) rfl (Int.le_refl _) b0 (by omega), ?_⟩
        have hA : (if (φ b).cap = (0 : Int).toNat then some (⟨g, 0, none⟩ : Addr) else (some (⟨g, 0, none⟩ : Addr)).map (·.add ((0 : Int).toNat * tl.sh.size))) = some ⟨g, 0, none⟩ := by
          split <;> simp [add_none]
        rw [hA]
        exact .own b g q.toNat hg (by omega)
      · subst h0
        have hq0 : q = 0 := by omega
        subst hq0
        refine ⟨rfl, _, run2 htl hv (bound_spec hp hlo) (bound_spec hq hhi) rfl (Int.le_refl _) (Int.le_refl _) (by simp), ?_⟩
        simp
        exact .own0 b hg
    · cases hr
  · cases hr
end
end Go.AV
/- Operations that write or make memory: stores, new boxes. -/
namespace Go.AV
open Go.RowKit

section
variable {C : Cfg} {W0 : Entry} {F0 : Nat → Prop} {st st' : St} {a : Act} {w : World} {F : Nat → Prop} {φ : Nat → Place} {e : Operand → Option AV} {dst : Option Nat} {orc : FuncId → List AV → Option AV} {CC : FuncId → List AV → AV → Prop} {r : Res} {o : Oper}
  {next : Act → World → Prop} {Q : Exit → Act → World → Prop}

/-- What follows an operation. -/
def Next (C : Cfg) (W0 : Entry) (F0 : Nat → Prop) (st' : St) (a : Act) (o : Oper) (x : AV) (next : Act → World → Prop) : Prop :=
  ∀ v w' F' φ', Rel C W0 F0 st' a w' F' φ' → (o.dst.isSome = true → Rep w' F' φ' v x) → next (a.put o.dst v) w'

theorem wp_of_pure (h : Rel C W0 F0 st a w F φ) (hp : PureOK C o a w F φ r) (hst : applyEff st o.dst r.eff = some st') (hn : Next C W0 F0 st' a o r.val next) : o.wp C.P a w next Q := by
  obtain ⟨he, v, hrun, hrep⟩ := hp
  rw [he] at hst
  simp only [applyEff, Option.some.injEq] at hst
  subst hst
  unfold Oper.wp
  rw [hrun]
  exact hn v w F φ h fun _ => hrep

theorem RepS.unstrip {v : Value} {x y : AV} (hs : Strip x y) (h : RepS w F v y) : RepS w F v x := by
  induction hs with
  | refl => exact h
  | st _ ih => exact .st (ih h)

theorem splice_get {cur new : Array Value} {off n : Nat} (hn : new.size = n) (hl : off + n ≤ cur.size) (j : Nat) :
    ((cur.toList.take off ++ new.toList ++ cur.toList.drop (off + n)).toArray).getD j undef = if off ≤ j ∧ j < off + n then new.getD (j - off) undef else cur.getD j undef := by
  have l1 : (cur.toList.take off).length = off := by simp; omega
  have l2 : new.toList.length = n := by simpa using hn
  rw [Array.getD_eq_getD_getElem?, List.getElem?_toArray]
  by_cases h1 : j < off
  · rw [List.append_assoc, List.getElem?_append_left (by omega), List.getElem?_take_of_lt h1, if_neg (by omega), Array.getD_eq_getD_getElem?, Array.getElem?_toList]
  · rw [List.append_assoc, List.getElem?_append_right (by omega), l1]
    by_cases h2 : j < off + n
    · rw [List.getElem?_append_left (by omega), if_pos (by omega), Array.getD_eq_getD_getElem?, Array.getElem?_toList]
    · rw [List.getElem?_append_right (by omega), l2, List.getElem?_drop, if_neg (by omega), Array.getD_eq_getD_getElem?, Array.getElem?_toList]
      congr 2
      omega
theorem splice_size {cur new : Array Value} {off n : Nat} (hn : new.size = n) (hl : off + n ≤ cur.size) : ((cur.toList.take off ++ new.toList ++ cur.toList.drop (off + n)).toArray).size = cur.size := by
  simp; omega

theorem set_rep {p : List Nat} {sh s : Shape} {x y x' : AV} {cs : Array Value} {V : Array Value} (hp : pathOK p sh) (hs : pathSh p sh = some s) (hx : setAt p sh x y = some x') (hold : ∀ j, j < sh.size → Rep w F φ (cs.getD j undef) (leafAt sh x j))
    (hnew : ∀ j, j < s.size → Rep w F φ (V.getD j undef) (leafAt s y j)) (j : Nat) (hj : j < sh.size) :
    Rep w F φ (if pathOff p sh ≤ j ∧ j < pathOff p sh + s.size then V.getD (j - pathOff p sh) undef else cs.getD j undef) (leafAt sh x' j) := by
  obtain ⟨h1, h2⟩ := setAt_leafAt p sh s x y x' hp hs hx j
  split
  · rename_i hin
    obtain ⟨z, hz, rfl, h3⟩ := h1 hin
    have hr := hnew (j - pathOff p sh) (by omega)
    rcases h3 with h3 | h3
    · rw [h3]; exact hr
    · exact .stat (.unstrip hz (hr.toS (stat_leafAt s y _ h3)))
  · rename_i hin
    rw [h2 hj hin]
    exact hold j hj

theorem set_repS {p : List Nat} {sh s : Shape} {x y x' : AV} {f : Nat → Value} {V : Array Value} (hp : pathOK p sh) (hs : pathSh p sh = some s) (hx : setAt p sh x y = some x') (hold : ∀ j, j < sh.size → RepS w F (f j) (leafAt sh x j))
    (hnew : ∀ j, j < s.size → RepS w F (V.getD j undef) (leafAt s y j)) (j : Nat) (hj : j < sh.size) :
    RepS w F (if pathOff p sh ≤ j ∧ j < pathOff p sh + s.size then V.getD (j - pathOff p sh) undef else f j) (leafAt sh x' j) := by
  obtain ⟨h1, h2⟩ := setAt_leafAt p sh s x y x' hp hs hx j
  split
  · rename_i hin
    obtain ⟨z, hz, rfl, h3⟩ := h1 hin
    exact .unstrip hz (hnew (j - pathOff p sh) (by omega))
  · rename_i hin
    rw [h2 hj hin]
    exact hold j hj

theorem setRow_keep {g : Nat} {cs : Array Value} {k : Nat} (hk : k ≠ g) : (w.setRow g cs).heap[k]? = w.heap[k]? := setRow_other w g k cs hk

theorem wp_store {t : TypeId} {x v : Operand} (h : Rel C W0 F0 st a w F φ) (hT : TysOK C) (ho : o.op = .store t x v) (hr : absOp C st e o.dst orc CC (.store t x v) = some r)
    (hx : ∀ u, e x = some u → Rep w F φ (a.eval x) u) (hv : ∀ u, e v = some u → Rep w F φ (a.eval v) u) (hob : ∀ p ∈ r.obs, p) (hst : applyEff st o.dst r.eff = some st') (hn : Next C W0 F0 st' a o r.val next) : o.wp C.P a w next Q := by
  simp only [absOp] at hr
  split at hr
  case h_2 => cases hr
  rename_i te u h1 h2 hd
  split at hr
  case h_2 => cases hr
  rename_i y hy
  have T := hT _ _ h1
  obtain ⟨hvs, hvr⟩ := unw_rep hy (hv _ h2)
  have hone : ∀ j, j < te.sh.size → ((a.eval v).cells.getD j undef).oneCell' = true := fun j hj => (hvr j hj).leaf1 te.sh y j
  have fin : ∀ {g off : Nat} {cs : Array Value} {ty : TypeId}, a.eval x = .pointer (some ⟨g, off, none⟩) → w.heap[g]? = some (.cells cs ty (0, 0)) → off + te.sh.size ≤ cs.size →
      Rel C W0 F0 st' a (w.setRow g (cs.toList.take off ++ (a.eval v).cells.toList ++ cs.toList.drop (off + te.sh.size)).toArray) F φ → o.wp C.P a w next Q := by
    intro g off cs ty hxv hg hl hR
    unfold Oper.wp
    have : (execOp a.eval o).run C.P w = .ok .skip (w.setRow g (cs.toList.take off ++ (a.eval v).cells.toList ++ cs.toList.drop (off + te.sh.size)).toArray) := by
      simp only [execOp, ho, Instr.storeAt, hxv, Instr.sureAddr, Sem.run_bind, Sem.run_pure, Result.andThen_ok, T.runStore g off cs ty (a.eval v) hg hl hvs hone]
    rw [this]
    exact hn undef _ F φ hR (by rw [hd]; simp)
  split at hr
  · rename_i b p hxe
    split at hr
    case h_2 => cases hr
    rename_i sh z hb
    split at hr
    case h_2 => cases hr
    rename_i s z' hs hz
    split at hr
    case h_2 => cases hr
    rename_i hsame
    cases hr
    have es := Shape.same_eq _ _ hsame
    subst es
    obtain ⟨g, hg, hp, hxv⟩ := (hx _ hxe).ptr_inv
    obtain ⟨hsh, g', cs, hg', hbase, hnF, hh, hsz, hrep⟩ := h.cells hb
    rw [hg] at hg'; cases hg'
    rw [hsh] at hp hxv
    have hlt := pathOff_lt p sh te.sh hp hs
    refine fin hxv hh (by omega) ?_
    simp only [applyEff, Option.some.injEq] at hst
    subst hst
    refine h.setBox hb hg rfl rfl rfl (by simp) (fun k hk => setRow_keep hk) rfl ⟨hsh, g, _, hg, hbase, hnF, setRow_heap w g cs _ _ _ hh, by rw [splice_size hvs (by omega)]; exact hsz, fun j hj => ?_⟩
    rw [splice_get hvs (by omega)]
    exact (set_rep hp hs hz hrep hvr j hj).keep (fun k hk => setRow_keep fun e => hnF (e ▸ hk)) (fun _ hk => hk) fun _ _ => rfl
  · rename_i b i p hxe
    split at hr
    case h_2 => cases hr
    rename_i ty sh n f hb
    split at hr
    case h_2 => cases hr
    rename_i s z' hs hz
    split at hr
    case h_2 => cases hr
    rename_i hsame
    cases hr
    simp only [Bool.and_eq_true] at hsame
    have es := Shape.same_eq _ _ hsame.1
    subst es
    have hin : i < n := hob _ (by simp)
    obtain ⟨g, hg, hp, hxv⟩ := (hx _ hxe).optr_inv
    obtain ⟨hsh, hty, hrow⟩ := h.heap b _ hb
    rcases hrow with ⟨h1, _⟩ | ⟨g', cs, hg', hbase, hnF, hh, hsz, hncap, hmax, hrep⟩
    · rw [hg] at h1; cases h1
    rw [hg] at hg'; cases hg'
    rw [hsh] at hp hxv
    have hlt := pathOff_lt p sh te.sh hp hs
    have hmul : (i + 1) * sh.size ≤ (φ b).cap * sh.size := Nat.mul_le_mul_right _ (by omega)
    rw [Nat.add_mul] at hmul
    refine fin hxv hh (by omega) ?_
    simp only [applyEff, Option.some.injEq] at hst
    subst hst
    refine h.setBox hb hg rfl rfl rfl (by simp) (fun k hk => setRow_keep hk) rfl ⟨hsh, hty, .inr ⟨g, _, hg, hbase, hnF, setRow_heap w g cs _ _ _ hh, by rw [splice_size hvs (by omega)]; exact hsz, hncap, hmax, fun k hk j hj => ?_⟩⟩
    rw [splice_get hvs (by omega)]
    refine RepS.keep (w := w) (F := F) ?_ (fun k hk => setRow_keep fun e => hnF (e ▸ hk)) (fun _ hk => hk)
    by_cases hki : k = i
    · subst hki
      rw [show (fun j => if j = k then z' else f j) k = z' from by simp]
      have h5 := set_repS (V := (a.eval v).cells) hp hs hz (fun j hj => hrep k hk j hj) (fun j hj => (hvr j hj).toS (stat_leafAt te.sh y j hsame.2)) j hj
      have e1 : (k * sh.size + pathOff p sh ≤ k * sh.size + j ∧ k * sh.size + j < k * sh.size + pathOff p sh + te.sh.size) ↔ (pathOff p sh ≤ j ∧ j < pathOff p sh + te.sh.size) := by omega
      have e2 : k * sh.size + j - (k * sh.size + pathOff p sh) = j - pathOff p sh := by omega
      simp only [e1, e2]
      exact h5
    · rw [show (fun j => if j = i then z' else f j) k = f k from by simp [hki], if_neg]
      · exact hrep k hk j hj
      · intro ⟨h5, h6⟩
        rcases Nat.lt_or_gt_of_ne hki with h7 | h7
        · have : (k + 1) * sh.size ≤ i * sh.size := Nat.mul_le_mul_right _ h7
          rw [Nat.add_mul] at this; omega
        · have : (i + 1) * sh.size ≤ k * sh.size := Nat.mul_le_mul_right _ h7
          rw [Nat.add_mul] at this; omega
  · cases hr

theorem cell_new (cs : Array Value) (t : TypeId) : (w.alloc (.cells cs t)).heap[w.heap.size]? = some (.cells cs t (0, 0)) := heap_alloc_new w _

/-- A new box of one tree. -/
theorem Rel.newCell (h : Rel C W0 F0 st a w F φ) {d : Nat} {sh : Shape} {x : AV} {cs : Array Value} {t : TypeId} (hst : applyEff st (some d) (.new (.cell t sh x)) = some st') (hs : cs.size = sh.size)
    (hr : ∀ j, j < sh.size → Rep w F φ (cs.getD j undef) (leafAt sh x j)) :
    ∃ φ', Rel C W0 F0 st' a (w.alloc (.cells cs t)) F φ' ∧ Rep (w.alloc (.cells cs t)) F φ' (.pointer (some ⟨w.heap.size, 0, none⟩)) (.ptr d []) := by
  simp only [applyEff] at hst
  split at hst
  case h_2 => cases hst
  rename_i hc
  cases hst
  simp only [Bool.and_eq_true, Bool.not_eq_true'] at hc
  have hk : ∀ k, F k → (w.alloc (.cells cs t)).heap[k]? = w.heap[k]? := fun k hk => Below.heap_alloc w _ k (h.ro k hk)
  refine ⟨fun k => if k = d then ⟨some w.heap.size, 0, sh, t⟩ else φ k, h.newBox hc.1 hc.2 _ _ rfl ⟨by simp, w.heap.size, cs, by simp, h.bnew (Nat.le_refl _), fun hF => ?_, cell_new cs t, hs, fun j hj => ?_⟩, ?_⟩
  · have := h.ro _ hF; omega
  · refine (hr j hj).keep hk (fun _ hk => hk) fun b hb => update_other φ d _ fun e => ?_
    subst e
    have := names_leafAt sh x j hb
    rw [show x.names b = false from hc.2] at this
    cases this
  · have := Rep.ptr (w := w.alloc (.cells cs t)) (F := F) (φ := fun k => if k = d then ⟨some w.heap.size, 0, sh, t⟩ else φ k) d w.heap.size [] (by simp) (by simp [pathOK])
    simpa [pathOff] using this

/-- A new row of the call's own. -/
theorem Rel.newRow (h : Rel C W0 F0 st a w F φ) {d : Nat} {sh : Shape} {n cap : Nat} {f : Nat → AV} {cs : Array Value} {t : TypeId} (hst : applyEff st (some d) (.new (.row t sh n f)) = some st') (hs : cs.size = cap * sh.size) (hn : n ≤ cap) (hm : cap ≤ maxLen)
    (hr : ∀ i, i < n → ∀ j, j < sh.size → RepS w F (cs.getD (i * sh.size + j) undef) (leafAt sh (f i) j)) :
    ∃ φ', Rel C W0 F0 st' a (w.alloc (.cells cs t)) F φ' ∧ Rep (w.alloc (.cells cs t)) F φ' (.slice (some ⟨w.heap.size, 0, none⟩) n cap) (.own d n) := by
  simp only [applyEff] at hst
  split at hst
  case h_2 => cases hst
  rename_i hc
  cases hst
  simp only [Bool.and_eq_true, Bool.not_eq_true'] at hc
  have hk : ∀ k, F k → (w.alloc (.cells cs t)).heap[k]? = w.heap[k]? := fun k hk => Below.heap_alloc w _ k (h.ro k hk)
  refine ⟨fun k => if k = d then ⟨some w.heap.size, cap, sh, t⟩ else φ k, h.newBox hc.1 hc.2 _ _ rfl ⟨by simp, by simp, .inr ⟨w.heap.size, cs, by simp, h.bnew (Nat.le_refl _), fun hF => ?_, cell_new cs t, by simpa using hs, by simpa using hn, by simpa using hm, fun i hi j hj => ?_⟩⟩, ?_⟩
  · have := h.ro _ hF; omega
  · exact (hr i hi j hj).keep hk (fun _ hk => hk)
  · have := Rep.own (w := w.alloc (.cells cs t)) (F := F) (φ := fun k => if k = d then ⟨some w.heap.size, cap, sh, t⟩ else φ k) d w.heap.size n (by simp) (by simpa using hn)
    simpa using this

theorem wp_alloc {t : TypeId} (h : Rel C W0 F0 st a w F φ) (hT : TysOK C) (ho : o.op = .alloc t) (hr : absOp C st e o.dst orc CC (.alloc t) = some r) (hst : applyEff st o.dst r.eff = some st') (hn : Next C W0 F0 st' a o r.val next) : o.wp C.P a w next Q := by
  simp only [absOp] at hr
  split at hr
  case h_2 => cases hr
  rename_i te d h1 hd
  cases hr
  rw [hd] at hst
  have T := hT _ _ h1
  obtain ⟨dd, i, z, hu, hi, hs, hb, hz, hc, hk, hzr⟩ := T.info
  obtain ⟨φ', hR, hrep⟩ := h.newCell (t := t) hst hc fun j hj => .stat (hzr j hj).rep
  unfold Oper.wp
  have : (execOp a.eval o).run C.P w = .ok (.value (.pointer (some ⟨w.heap.size, 0, none⟩))) (w.alloc (.cells z.cells t)) := by
    simp only [execOp, ho, Instr.alloc, newVar, Go.newRow, Sem.run_bind, zeroValue, typeInfo, run_program, Result.andThen_ok, hi, Sem.run_pure, hz, run_newObj]
    rfl
  rw [this]
  exact hn _ _ _ _ hR fun _ => hrep

theorem wp_box {t : TypeId} {x : Operand} (h : Rel C W0 F0 st a w F φ) (ho : o.op = .box t x) (hr : absOp C st e o.dst orc CC (.box t x) = some r) (hx : ∀ u, e x = some u → Rep w F φ (a.eval x) u) (hst : applyEff st o.dst r.eff = some st')
    (hn : Next C W0 F0 st' a o r.val next) : o.wp C.P a w next Q := by
  simp only [absOp] at hr
  split at hr
  case h_2 => cases hr
  rename_i te d v h1 hd h2
  split at hr
  case h_2 => cases hr
  rename_i y hy
  cases hr
  rw [hd] at hst
  obtain ⟨hs, hrr⟩ := unw_rep hy (hx _ h2)
  obtain ⟨φ', hR, hrep⟩ := h.newCell (t := t) hst hs hrr
  unfold Oper.wp
  have : (execOp a.eval o).run C.P w = .ok (.value (.pointer (some ⟨w.heap.size, 0, none⟩))) (w.alloc (.cells (a.eval x).cells t)) := by
    simp only [execOp, ho, Instr.box, newVar, Go.newRow, Sem.run_bind, Result.andThen_ok, Sem.run_pure, run_newObj]
    rfl
  rw [this]
  exact hn _ _ _ _ hR fun _ => hrep
end
end Go.AV
/- Built structs and rows, lengths, least and greatest, copies. -/
namespace Go.AV
open Go.RowKit

section
variable {C : Cfg} {W0 : Entry} {F0 : Nat → Prop} {st st' : St} {a : Act} {w : World} {F : Nat → Prop} {φ : Nat → Place} {e : Operand → Option AV} {dst : Option Nat} {orc : FuncId → List AV → Option AV} {CC : FuncId → List AV → AV → Prop} {r : Res} {o : Oper}
  {next : Act → World → Prop} {Q : Exit → Act → World → Prop}

/-- One part goes in. -/
theorem fill_step (place : Nat → Option (Nat × Nat)) (cells : Array Value) (i off size : Nat) (v : Value) (rest : List (Nat × Value)) (hp : place i = some (off, size)) (hv : v.cells.size = size) (hl : off + size ≤ cells.size) :
    ∃ cells', Instr.fill place cells ((i, v) :: rest) = Instr.fill place cells' rest ∧ cells'.size = cells.size ∧
      ∀ k, k < cells.size → cells'.getD k undef = if off ≤ k ∧ k < off + size then v.cells.getD (k - off) undef else cells.getD k undef := by
  obtain ⟨h1, h2⟩ := Great.foldl_set off v.cells.toList 0 cells
  refine ⟨_, ?_, h1, fun k hk => ?_⟩
  · rw [Instr.fill, hp]
    simp only [hv, ne_eq, not_true_eq_false, decide_false, Bool.false_or, gt_iff_lt, decide_eq_true_eq]
    rw [if_neg (by simp; omega)]
    congr 1
    rw [← Array.foldl_toList, Array.toList_zipIdx]
  · rw [Array.getD_eq_getD_getElem?, h2 k]
    simp only [Nat.add_zero, Array.length_toList, hv]
    by_cases hc : off ≤ k ∧ k < off + size
    · rw [if_pos ⟨hc.1, hc.2, hk⟩, if_pos hc, Array.getElem?_toList, Array.getD_eq_getD_getElem?]
    · rw [if_neg (fun h => hc ⟨h.1, h.2.1⟩), if_neg hc, Array.getD_eq_getD_getElem?]

theorem fill_struct {ss : List Shape} {place : Nat → Option (Nat × Nat)} (hpl : ∀ i s, ss[i]? = some s → place i = some (Shape.sizes (ss.take i), s.size)) :
    ∀ (l : List (Nat × Operand)) (ps : List (Nat × AV)) (zs ys : List AV) (cells : Array Value), evParts e l = some ps → setPart ss zs ps = some ys → (∀ p ∈ l, ∀ u, e p.2 = some u → Rep w F φ (a.eval p.2) u) → cells.size = Shape.sizes ss → zs.length = ss.length →
    (∀ k, k < Shape.sizes ss → Rep w F φ (cells.getD k undef) (leafsAt ss zs k)) →
    ∃ cells', Instr.fill place cells (l.map fun p => (p.1, a.eval p.2)) = some cells' ∧ cells'.size = Shape.sizes ss ∧ ∀ k, k < Shape.sizes ss → Rep w F φ (cells'.getD k undef) (leafsAt ss ys k)
  | [], ps, zs, ys, cells, h1, h2, _, hs, _, hr => by
    simp [evParts] at h1; subst h1
    simp [setPart] at h2; subst h2
    exact ⟨cells, by simp [Instr.fill], hs, hr⟩
  | (i, x) :: l, ps, zs, ys, cells, h1, h2, hx, hs, hz, hr => by
    simp only [evParts] at h1
    split at h1
    case h_2 => cases h1
    rename_i v vs hv hvs
    cases h1
    simp only [setPart] at h2
    split at h2
    case h_2 => cases h2
    rename_i s hsi
    split at h2
    case h_2 => cases h2
    rename_i y hy
    obtain ⟨u1, u2⟩ := unw_rep hy (hx (i, x) (by simp) v hv)
    have hsz := sizes_take_get hsi
    obtain ⟨cells', f1, f2, f3⟩ := fill_step place cells i _ _ (a.eval x) (l.map fun p => (p.1, a.eval p.2)) (hpl i s hsi) u1 (by omega)
    obtain ⟨c2, g1, g2, g3⟩ := fill_struct hpl l vs (zs.set i y) ys cells' hvs h2 (fun p hp => hx p (by simp [hp])) (f2.trans hs) (by simpa using hz) (fun k hk => by
      rw [f3 k (by omega), leafsAt_set hsi y k (by rw [hz]; exact (List.getElem?_eq_some_iff.1 hsi).1)]
      by_cases hc : Shape.sizes (ss.take i) ≤ k ∧ k < Shape.sizes (ss.take i) + s.size
      · rw [if_pos hc, if_pos hc]; exact u2 _ (by omega)
      · rw [if_neg hc, if_neg hc]; exact hr k hk)
    exact ⟨c2, by rw [List.map_cons, f1]; exact g1, g2, g3⟩

theorem setElems_len {s : Shape} {len : Nat} : ∀ (ps : List (Nat × AV)) (zs ys : List AV), setElems s len zs ps = some ys → ys.length = zs.length
  | [], zs, ys, h => by simp [setElems] at h; rw [h]
  | (i, v) :: l, zs, ys, h => by
    simp only [setElems] at h
    split at h
    case h_2 => cases h
    split at h
    case h_2 => cases h
    rw [setElems_len l _ ys h, List.length_set]

theorem fill_elems {s : Shape} {len : Nat} :
    ∀ (l : List (Nat × Operand)) (ps : List (Nat × AV)) (zs ys : List AV) (cells : Array Value), evParts e l = some ps → setElems s len zs ps = some ys → (∀ p ∈ l, ∀ u, e p.2 = some u → Rep w F φ (a.eval p.2) u) → cells.size = len * s.size → zs.length = len →
    (∀ i, i < len → ∀ j, j < s.size → RepS w F (cells.getD (i * s.size + j) undef) (leafAt s (zs.getD i .any) j)) →
    ∃ cells', Instr.fill (fun i => some (i * s.size, s.size)) cells (l.map fun p => (p.1, a.eval p.2)) = some cells' ∧ cells'.size = len * s.size ∧ ∀ i, i < len → ∀ j, j < s.size → RepS w F (cells'.getD (i * s.size + j) undef) (leafAt s (ys.getD i .any) j)
  | [], ps, zs, ys, cells, h1, h2, _, hs, _, hr => by
    simp [evParts] at h1; subst h1
    simp [setElems] at h2; subst h2
    exact ⟨cells, by simp [Instr.fill], hs, hr⟩
  | (i, x) :: l, ps, zs, ys, cells, h1, h2, hx, hs, hz, hr => by
    simp only [evParts] at h1
    split at h1
    case h_2 => cases h1
    rename_i v vs hv hvs
    cases h1
    simp only [setElems] at h2
    split at h2
    case h_2 => cases h2
    rename_i y hy
    split at h2
    case h_2 => cases h2
    rename_i hc
    simp only [Bool.and_eq_true] at hc
    have hi : i < len := by have := hc.2; simp [Nat.blt] at this; omega
    obtain ⟨u1, u2⟩ := unw_rep hy (hx (i, x) (by simp) v hv)
    have hmul : (i + 1) * s.size ≤ len * s.size := Nat.mul_le_mul_right _ hi
    rw [Nat.add_mul] at hmul
    obtain ⟨cells', f1, f2, f3⟩ := fill_step (fun i => some (i * s.size, s.size)) cells i _ _ (a.eval x) (l.map fun p => (p.1, a.eval p.2)) rfl u1 (by omega)
    obtain ⟨c2, g1, g2, g3⟩ := fill_elems l vs (zs.set i y) ys cells' hvs h2 (fun p hp => hx p (by simp [hp])) (f2.trans hs) (by simpa using hz) (fun k hk j hj => by
      have hk2 : (k + 1) * s.size ≤ len * s.size := Nat.mul_le_mul_right _ hk
      rw [Nat.add_mul] at hk2
      rw [f3 _ (by omega)]
      by_cases hki : k = i
      · subst hki
        rw [if_pos (by omega), show k * s.size + j - k * s.size = j from by omega]
        have : (zs.set k y).getD k .any = y := by simp [hz, hk]
        rw [this]
        exact (u2 j hj).toS (stat_leafAt s y j hc.1)
      · have : (zs.set i y).getD k .any = zs.getD k .any := by simp [List.getElem?_set, Ne.symm hki]
        rw [this, if_neg]
        · exact hr k hk j hj
        · intro ⟨h5, h6⟩
          rcases Nat.lt_or_gt_of_ne hki with h7 | h7
          · have : (k + 1) * s.size ≤ i * s.size := Nat.mul_le_mul_right _ h7
            rw [Nat.add_mul] at this; omega
          · have : (i + 1) * s.size ≤ k * s.size := Nat.mul_le_mul_right _ h7
            rw [Nat.add_mul] at this; omega)
    exact ⟨c2, by rw [List.map_cons, f1]; exact g1, g2, g3⟩

theorem places_ok (hT : TysOK C) : ∀ fs : List Field, (∀ f ∈ fs, ∃ te, tyOf C f.type = some te) →
    ∃ places, fs.mapM (fun f => (C.P.info? f.type).map fun i => (f.offset, i.size)) = some places ∧ places.length = fs.length ∧ ∀ (i : Nat) (f : Field), fs[i]? = some f → ∃ te, tyOf C f.type = some te ∧ places[i]? = some (f.offset, te.sh.size)
  | [], _ => ⟨[], rfl, rfl, fun i f h => by simp at h⟩
  | g :: fs, h => by
    obtain ⟨te, hte⟩ := h g (by simp)
    obtain ⟨d, i, z, _, hi, hs, _⟩ := (hT _ _ hte).info
    obtain ⟨places, h1, h2, h3⟩ := places_ok hT fs fun f hf => h f (by simp [hf])
    refine ⟨(g.offset, te.sh.size) :: places, by simp [List.mapM_cons, hi, h1, hs], by simp [h2], fun j f hj => ?_⟩
    cases j with
    | zero => simp at hj; subst hj; exact ⟨te, hte, rfl⟩
    | succ j => simpa using h3 j f (by simpa using hj)

theorem parts_map (parts : Array (Nat × Operand)) : (parts.map fun (i, x) => (i, a.eval x)).toList = parts.toList.map fun p => (p.1, a.eval p.2) := by simp

theorem pure_build {t : TypeId} {parts : Array (Nat × Operand)} (hT : TysOK C) (ho : o.op = .build t parts) (hr : absOp C st e dst orc CC (.build t parts) = some r)
    (hx : ∀ p ∈ parts.toList, ∀ u, e p.2 = some u → Rep w F φ (a.eval p.2) u) : PureOK C o a w F φ r := by
  simp only [absOp] at hr
  split at hr
  case h_2 => cases hr
  rename_i te ps h1 h2
  have T := hT _ _ h1
  obtain ⟨d, i, z, hd, hi, hs, hb, hz, hzs, hk, hzr⟩ := T.info
  split at hr
  · rename_i ss zs hsh hzero
    split at hr
    case h_2 => cases hr
    rename_i ys hys hlen
    cases hr
    have hstruct : ∃ fields : Array Field, ss.length = fields.size ∧ d = .struct fields ∧ ∀ i : Nat, ∀ f : Field, fields[i]? = some f → ∃ te, tyOf C f.type = some te ∧ ss[i]? = some te.sh ∧ f.offset = Shape.sizes (ss.take i) ∧ f.name ≠ "_" := by
      rw [hsh] at hk
      cases hkk : te.kind <;> rw [hkk] at hk <;> simp only [kindIs] at hk
      all_goals first
        | (obtain ⟨_, h⟩ := hk; cases h; done)
        | (obtain ⟨_, _, _, h⟩ := hk; cases h; done)
        | (obtain ⟨h, _⟩ := hk; cases h; done)
        | skip
      obtain ⟨fields, ss', rfl, hss, hl1, hl2, hf⟩ := hk
      cases hss
      exact ⟨fields, by rw [hl1, hl2]; simp, rfl, hf⟩
    obtain ⟨fields, hlenf, rfl, hf'⟩ := hstruct
    rw [hsh] at hzs hzr
    rw [hzero] at hzr
    simp only [Shape.size] at hzs hzr
    obtain ⟨places, p1, p2, p3⟩ := places_ok hT fields.toList fun f hf => by
      obtain ⟨j, hj⟩ := List.mem_iff_getElem?.1 hf
      obtain ⟨te', h, _⟩ := hf' j f (by simpa using hj)
      exact ⟨te', h⟩
    have hpl : ∀ (i : Nat) (s : Shape), ss[i]? = some s → places[i]? = some (Shape.sizes (ss.take i), s.size) := by
      intro i s his
      have hlt : i < fields.size := by
        have := (List.getElem?_eq_some_iff.1 his).1
        omega
      obtain ⟨tf, a1, a2, a3, _⟩ := hf' i fields[i] (by simp [hlt])
      obtain ⟨tf', b1, b2⟩ := p3 i fields[i] (by simp [hlt])
      rw [a1] at b1; cases b1
      rw [his] at a2; cases a2
      rw [b2, a3]
    obtain ⟨cells, f1, f2, f3⟩ := fill_struct (w := w) (F := F) (φ := φ) (a := a) (place := (places.toArray[·]?)) (by simpa using hpl) parts.toList ps zs ys z.cells h2 hys hx hzs (Nat.eq_of_beq_eq_true hlen) (fun k hk => .stat (hzr k hk).rep)
    have hb' : C.P.built t (parts.map fun (i, x) => (i, a.eval x)).toList = some cells := by
      unfold Program.built
      rw [hi, hd, parts_map]
      simp only [hz, p1]
      exact f1
    refine ⟨rfl, .agg cells, ?_, .mc _ _ _ f2 f3⟩
    simp only [execOp, ho]
    exact run_value (run_build w t _ cells hb')
  · rename_i n s m f hsh hzero
    split at hr
    case h_2 => cases hr
    rename_i ys hys
    cases hr
    have harr : ∃ el tl, d = .array n el ∧ tyOf C el = some tl ∧ s = tl.sh := by
      rw [hsh] at hk
      cases hkk : te.kind <;> rw [hkk] at hk <;> simp only [kindIs] at hk
      all_goals first
        | (obtain ⟨_, h⟩ := hk; cases h; done)
        | (obtain ⟨_, _, _, h, _⟩ := hk; cases h; done)
        | (obtain ⟨h, _⟩ := hk; cases h; done)
        | skip
      obtain ⟨rfl, tl, htl, hs⟩ := hk
      cases hs
      exact ⟨_, tl, rfl, htl, rfl⟩
    obtain ⟨el, tl, rfl, htl, rfl⟩ := harr
    have Tl := hT _ _ htl
    obtain ⟨_, ie, _, _, hie, hse, _⟩ := Tl.info
    rw [hsh] at hzs hzr
    rw [hzero] at hzr
    simp only [Shape.size] at hzs hzr
    have hpos := Tl.pos
    obtain ⟨cells, f1, f2, f3⟩ := fill_elems (w := w) (F := F) (φ := φ) (a := a) parts.toList ps ((List.range n).map f) ys z.cells h2 hys hx hzs (by simp) (fun i hi j hj => by
      have hmul : (i + 1) * tl.sh.size ≤ n * tl.sh.size := Nat.mul_le_mul_right _ hi
      rw [Nat.add_mul] at hmul
      have := (hzr (i * tl.sh.size + j) (by omega)).rep (w := w) (F := F)
      simp only [leafAt] at this
      rw [Nat.mul_comm i, Nat.mul_add_div hpos, Nat.mul_add_mod, Nat.div_eq_of_lt hj, Nat.mod_eq_of_lt hj, Nat.add_zero] at this
      rw [Nat.mul_comm i]
      have hg : ((List.range n).map f).getD i .any = f i := by simp [hi]
      rw [hg]
      exact this.strip (.st (.refl _)))
    have hb' : C.P.built t (parts.map fun (i, x) => (i, a.eval x)).toList = some cells := by
      unfold Program.built
      rw [hi, hd, parts_map]
      simp only [hz, hie, hse]
      exact f1
    refine ⟨rfl, .agg cells, ?_, .stat (.mc _ _ _ f2 fun k hk => ?_)⟩
    · simp only [execOp, ho]
      exact run_value (run_build w t _ cells hb')
    · simp only [Shape.size] at hk
      simp only [leafAt]
      have hkn := (Nat.div_lt_iff_lt_mul hpos).2 hk
      have := f3 (k / tl.sh.size) hkn (k % tl.sh.size) (Nat.mod_lt _ hpos)
      have hlen : ys.length = n := by rw [setElems_len _ _ _ hys]; simp
      have hgd : ys.getD (k / tl.sh.size) .any = ys.getD (k / tl.sh.size) (f 0) := by simp [List.getD_eq_getElem?_getD, List.getElem?_eq_getElem (hlen ▸ hkn)]
      rw [hgd] at this
      rw [Nat.mul_comm (k / tl.sh.size), Nat.div_add_mod] at this
      exact .st this
  · cases hr
end
end Go.AV
/- New rows, lengths, least and greatest, copies. -/
namespace Go.AV
open Go.RowKit

section
variable {C : Cfg} {W0 : Entry} {F0 : Nat → Prop} {st st' : St} {a : Act} {w : World} {F : Nat → Prop} {φ : Nat → Place} {e : Operand → Option AV} {dst : Option Nat} {orc : FuncId → List AV → Option AV} {CC : FuncId → List AV → AV → Prop} {r : Res} {o : Oper}
  {next : Act → World → Prop} {Q : Exit → Act → World → Prop}

theorem getD_madeCells (z : Array Value) (n k : Nat) (hk : k < n) : (madeCells z n).getD k undef = z[k % z.size]! := by
  simp [madeCells, hk]

theorem made_get {z : Array Value} {n i j : Nat} (hi : i < n) (hj : j < z.size) : (madeCells z (n * z.size)).getD (i * z.size + j) undef = z.getD j undef := by
  have hmul : (i + 1) * z.size ≤ n * z.size := Nat.mul_le_mul_right _ hi
  rw [Nat.add_mul] at hmul
  rw [getD_madeCells _ _ _ (by omega), Nat.mul_comm i, Nat.mul_add_mod, Nat.mod_eq_of_lt hj]
  rw [getElem!_pos z j hj, Array.getD_eq_getD_getElem?, Array.getElem?_eq_getElem hj, Option.getD_some]

theorem wp_buildSlice' {t : TypeId} {len : Nat} {parts : Array (Nat × Operand)} (h : Rel C W0 F0 st a w F φ) (hT : TysOK C) (ho : o.op = .buildSlice t len parts) (hr : absOp C st e o.dst orc CC (.buildSlice t len parts) = some r)
    (hx : ∀ p ∈ parts.toList, ∀ u, e p.2 = some u → Rep w F φ (a.eval p.2) u) (hob : ∀ p ∈ r.obs, p) (hst : applyEff st o.dst r.eff = some st') (hn : Next C W0 F0 st' a o r.val next) : o.wp C.P a w next Q := by
  simp only [absOp] at hr
  split at hr
  case h_2 => cases hr
  rename_i te ps d h1 h2 hd
  split at hr
  case h_2 => cases hr
  rename_i el hkind
  split at hr
  case h_2 => cases hr
  rename_i tl htl
  split at hr
  case h_2 => cases hr
  rename_i ys hys hzst
  cases hr
  rw [hd] at hst
  have T := hT _ _ h1
  have Tl := hT _ _ htl
  have hu := kind_slice T hkind
  obtain ⟨dd, ie, z, hue, hie, hse, _, hz, hzs, _, hzr⟩ := Tl.info
  have hpos := Tl.pos
  have hsmall : len * tl.sh.size ≤ 16777216 := hob _ (by simp)
  obtain ⟨cells, f1, f2, f3⟩ := fill_elems (w := w) (F := F) (φ := φ) (a := a) (len := len) parts.toList ps (List.replicate len tl.zero) ys (madeCells z.cells (len * z.cells.size)) h2 hys hx (by rw [size_madeCells, hzs]) (by simp) (fun i hi j hj => by
    have := made_get (z := z.cells) hi (show j < z.cells.size by omega)
    rw [hzs] at this
    rw [hzs, this]
    have hg : (List.replicate len tl.zero).getD i .any = tl.zero := by simp [hi]
    rw [hg]
    exact (hzr j hj).rep)
  have hrun : (Instr.buildSlice t len (parts.map fun (i, x) => (i, a.eval x))).run C.P w = .ok (.slice (some ⟨w.heap.size, 0, none⟩) len len) (w.alloc (.cells cells el)) := by
    by_cases h0 : len * tl.sh.size = 0
    · have hlen : len = 0 := by
        rcases Nat.mul_eq_zero.1 h0 with h | h
        · exact h
        · omega
      subst hlen
      have hp : parts.toList = [] := by
        cases hpp : parts.toList with
        | nil => rfl
        | cons p l =>
          obtain ⟨i, x⟩ := p
          rw [hpp] at h2
          simp only [evParts] at h2
          split at h2
          · cases h2
            simp only [setElems] at hys
            split at hys
            · split at hys
              · rename_i hc
                simp [Nat.blt] at hc
              · cases hys
            · cases hys
          · cases h2
      have hp' : parts = #[] := by
        rw [← Array.toList_eq_nil_iff]; exact hp
      subst hp'
      have hc : cells = #[] := by
        apply Array.eq_empty_of_size_eq_zero
        simpa using f2
      subst hc
      simp [Instr.buildSlice, run_underlying hu, sizeOf, typeInfo, hie, Instr.fill, Go.newRow, Array.range_zero']
    · refine run_buildSlice w t el len _ cells ie z hu hie hz (by rw [hse]; omega) (by rw [hse]; exact h0) ?_
      rw [parts_map, hse]
      have : (Array.range (len * tl.sh.size)).map (z.cells[· % z.cells.size]!) = madeCells z.cells (len * z.cells.size) := by unfold madeCells; rw [hzs]
      rw [this]
      exact f1
  obtain ⟨φ', hR, hrep⟩ := h.newRow (t := el) (cap := len) hst f2 (Nat.le_refl _) (by unfold maxLen; have := Nat.le_mul_of_pos_right len hpos; omega) f3
  unfold Oper.wp
  have : (execOp a.eval o).run C.P w = .ok (.value (.slice (some ⟨w.heap.size, 0, none⟩) len len)) (w.alloc (.cells cells el)) := by
    simp only [execOp, ho, Sem.run_bind, hrun, Result.andThen_ok, Sem.run_pure]
  rw [this]
  exact hn _ _ _ _ hR fun _ => hrep

theorem wp_makeSlice {t : TypeId} {ln cp : Operand} (h : Rel C W0 F0 st a w F φ) (hT : TysOK C) (ho : o.op = .makeSlice t ln cp) (hr : absOp C st e o.dst orc CC (.makeSlice t ln cp) = some r)
    (hl : ∀ u, e ln = some u → Rep w F φ (a.eval ln) u) (hc : ∀ u, e cp = some u → Rep w F φ (a.eval cp) u) (hob : ∀ p ∈ r.obs, p) (hst : applyEff st o.dst r.eff = some st') (hn : Next C W0 F0 st' a o r.val next) : o.wp C.P a w next Q := by
  simp only [absOp] at hr
  split at hr
  case h_2 => cases hr
  rename_i te n c d h1 h2 h3 hd
  split at hr
  case h_2 => cases hr
  rename_i el hkind
  split at hr
  case h_2 => cases hr
  rename_i tl htl
  split at hr
  case h_2 => cases hr
  rename_i hzst
  cases hr
  rw [hd] at hst
  have T := hT _ _ h1
  have Tl := hT _ _ htl
  have hu := kind_slice T hkind
  obtain ⟨dd, ie, z, hue, hie, hse, hbe, hz, hzs, _, hzr⟩ := Tl.info
  obtain ⟨o1, o2, o3, o4⟩ : 0 ≤ n ∧ n ≤ c ∧ (tl.bytes : Int) * c ≤ 140737488355328 ∧ c ≤ 9223372036854775807 := hob _ (by simp)
  obtain ⟨kl, ekl⟩ := ix_spec h2 hl
  obtain ⟨kc, ekc⟩ := ix_spec h3 hc
  have hrun := run_make (P := C.P) w t el ie z hu hie hz kl kc n c o1 o2 (by rw [hbe]; omega) o4
  rw [hse, ← hzs] at hrun
  obtain ⟨φ', hR, hrep⟩ := h.newRow (t := el) (cap := c.toNat) (cs := madeCells z.cells (c.toNat * z.cells.size)) hst (by rw [size_madeCells, hzs]) (by omega) (by unfold maxLen; omega) (fun i hi j hj => by
    have := made_get (z := z.cells) (n := c.toNat) (i := i) (by omega) (show j < z.cells.size by omega)
    rw [hzs] at this
    rw [hzs, this]
    exact (hzr j hj).rep)
  unfold Oper.wp
  have : (execOp a.eval o).run C.P w = .ok (.value (.slice (some ⟨w.heap.size, 0, none⟩) n.toNat c.toNat)) (w.alloc (.cells (madeCells z.cells (c.toNat * z.cells.size)) el)) := by
    simp only [execOp, ho, ekl, ekc, Sem.run_bind, hrun, Result.andThen_ok, Sem.run_pure]
  rw [this]
  exact hn _ _ _ _ hR fun _ => hrep

theorem call_builtin {c : Call} {b : Builtin} (ho : o.op = .call c) (hc : c.callee = .builtin b) {V : Value} {w' : World}
    (hrun : (builtin b c.argTypes o.type (c.args.map fun | .const _ => true | _ => false) (c.args.map a.eval)).run C.P w = .ok (.value V) w') : (execOp a.eval o).run C.P w = .ok (.value V) w' := by
  obtain ⟨callee, args, tys⟩ := c
  cases hc
  simp only [execOp, ho, resolve, Sem.run_bind, Sem.run_pure, Result.andThen_ok, invoke]
  exact hrun

theorem inR_nat {n : Nat} (h : (n : Int) ≤ 9223372036854775807) : InR .i64 (n : Int) := by
  unfold InR; rw [IntKind.wrap_i64]; omega

theorem lenAV_spec {v : Value} {x : AV} {n : Nat} (h : lenAV x = some n) (hr : Rep w F φ v x) : ∃ A c, v = .slice A n c := by
  unfold lenAV at h
  split at h
  · cases h; obtain ⟨A, c, hv, _⟩ := Rep.seq_inv (.inl hr); exact ⟨A, c, hv⟩
  · cases h; obtain ⟨A, c, hv, _⟩ := Rep.seq_inv (.inr hr); exact ⟨A, c, hv⟩
  · cases h
    rcases hr.own_inv with ⟨g, _, hv, _⟩ | ⟨_, h0, hv⟩
    · exact ⟨_, _, hv⟩
    · subst h0; exact ⟨_, _, hv⟩
  · cases h; obtain ⟨A, c, hv, _⟩ := Rep.seq_inv (.inl hr.nseq_seq); exact ⟨A, c, hv⟩
  · cases h
    cases hr with
    | stat h => cases h; exact ⟨_, _, rfl⟩
  · cases h

theorem pure_len {c : Call} (hT : TysOK C) (ho : o.op = .call c) (hc : c.callee = .builtin .len) (hr : absOp C st e dst orc CC (.call c) = some r) (hx : ∀ x ∈ c.args.toList, ∀ u, e x = some u → Rep w F φ (a.eval x) u)
    (hob : ∀ p ∈ r.obs, p) : PureOK C o a w F φ r := by
  simp only [absOp, hc] at hr
  split at hr
  case h_2 => cases hr
  rename_i x t hargs htys
  split at hr
  case h_2 => cases hr
  rename_i te v h1 h2
  have T := hT _ _ h1
  have hrep := hx x (by rw [hargs]; simp) v h2
  have ea : c.args = #[x] := by rw [← Array.toArray_toList (xs := c.args), hargs]
  have et : c.argTypes = #[t] := by rw [← Array.toArray_toList (xs := c.argTypes), htys]
  have run : ∀ n : Nat, (Builtin.len_ #[t] o.type #[a.eval x]).run C.P w = .ok (goInt n) w → (execOp a.eval o).run C.P w = .ok (.value (.int .i64 n)) w := by
    intro n hl
    refine call_builtin ho hc ?_
    rw [ea, et]
    simp only [builtin, Sem.run_bind]
    have : (#[x].map a.eval) = #[a.eval x] := by simp
    rw [this, hl]
    rfl
  split at hr
  · rename_i el hkind
    split at hr
    case h_2 => cases hr
    rename_i n hn
    cases hr
    have hu := kind_slice T hkind
    have hin : (n : Int) ≤ 9223372036854775807 := hob _ (by simp)
    obtain ⟨A, cp, hv⟩ := lenAV_spec hn hrep
    exact ⟨rfl, _, run n (by simp [Builtin.len_, run_underlying hu, hv]), .stat (.int _ _ (inR_nat hin))⟩
  · rename_i hkind
    split at hr
    case h_2 => cases hr
    rename_i l
    cases hr
    have hu := kind_string T hkind
    have hin : (l.length : Int) ≤ 9223372036854775807 := hob _ (by simp)
    obtain ⟨s, hv, rfl⟩ := hrep.str_inv
    have hs : s.data.toList.length = s.size := by rw [Array.length_toList]; rfl
    exact ⟨rfl, _, run _ (by simp only [Builtin.len_, run_underlying hu, hv, hs, Sem.run_bind, Sem.run_pure, Result.andThen_ok, List.getElem?_toArray, List.getElem?_cons_zero]), .stat (.int _ _ (inR_nat hin))⟩
  · rename_i n el hkind
    split at hr
    case h_2 => cases hr
    rename_i hn
    cases hr
    obtain ⟨hu, _⟩ := kind_arr T hkind
    have hin : (n : Int) ≤ 9223372036854775807 := by have := Nat.le_of_ble_eq_true hn; omega
    exact ⟨rfl, _, run n (by simp [Builtin.len_, run_underlying hu]), .stat (.int _ _ (inR_nat hin))⟩
  · cases hr

theorem pure_min {c : Call} (ho : o.op = .call c) (hc : c.callee = .builtin .min) (hr : absOp C st e dst orc CC (.call c) = some r) (hx : ∀ x ∈ c.args.toList, ∀ u, e x = some u → Rep w F φ (a.eval x) u) : PureOK C o a w F φ r := by
  simp only [absOp, hc] at hr
  split at hr
  case h_2 => cases hr
  rename_i x y hargs
  split at hr
  case h_2 => cases hr
  rename_i k m k' n h1 h2
  split at hr
  case h_2 => cases hr
  rename_i hk
  have := of_decide_eq_true hk
  subst this
  cases hr
  have ea : c.args = #[x, y] := by rw [← Array.toArray_toList (xs := c.args), hargs]
  obtain ⟨e1, i1⟩ := (hx x (by rw [hargs]; simp) _ h1).int_inv
  obtain ⟨e2, i2⟩ := (hx y (by rw [hargs]; simp) _ h2).int_inv
  refine ⟨rfl, .int k (if n < m then n else m), call_builtin ho hc ?_, ?_⟩
  · rw [ea]
    simp [builtin, Builtin.min_, e1, e2, Builtin.min2]
  · split
    · exact .stat (.int _ _ i2)
    · exact .stat (.int _ _ i1)

theorem pure_max {c : Call} (ho : o.op = .call c) (hc : c.callee = .builtin .max) (hr : absOp C st e dst orc CC (.call c) = some r) (hx : ∀ x ∈ c.args.toList, ∀ u, e x = some u → Rep w F φ (a.eval x) u) : PureOK C o a w F φ r := by
  simp only [absOp, hc] at hr
  split at hr
  case h_2 => cases hr
  rename_i x y hargs
  split at hr
  case h_2 => cases hr
  rename_i k m k' n h1 h2
  split at hr
  case h_2 => cases hr
  rename_i hk
  have := of_decide_eq_true hk
  subst this
  cases hr
  have ea : c.args = #[x, y] := by rw [← Array.toArray_toList (xs := c.args), hargs]
  obtain ⟨e1, i1⟩ := (hx x (by rw [hargs]; simp) _ h1).int_inv
  obtain ⟨e2, i2⟩ := (hx y (by rw [hargs]; simp) _ h2).int_inv
  refine ⟨rfl, .int k (if m < n then n else m), call_builtin ho hc ?_, ?_⟩
  · rw [ea]
    simp [builtin, Builtin.max_, e1, e2, Builtin.max2]
  · split
    · exact .stat (.int _ _ i2)
    · exact .stat (.int _ _ i1)
end
end Go.AV
