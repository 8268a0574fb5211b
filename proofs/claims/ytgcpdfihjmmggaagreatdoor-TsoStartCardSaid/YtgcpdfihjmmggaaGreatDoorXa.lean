import Derived.WalkKit
import Derived.WalkLawsBesides
namespace Go.AV
open Go.RowKit
inductive Shape where
  | leaf
  | agg (l : List Shape)
  | arr (n : Nat) (s : Shape)
mutual
def Shape.size : Shape -> Nat
  | .leaf => 1
  | .agg l => Shape.sizes l
  | .arr n s => n * s.size
def Shape.sizes : List Shape -> Nat
  | [] => 0
  | s :: l => s.size + Shape.sizes l
end
mutual
def Shape.same : Shape -> Shape -> Bool
  | .leaf, .leaf => true
  | .agg l, .agg m => Shape.sames l m
  | .arr n s, .arr m t => Nat.beq n m && s.same t
  | _, _ => false
def Shape.sames : List Shape -> List Shape -> Bool
  | [], [] => true
  | s :: l, t :: m => s.same t && Shape.sames l m
  | _, _ => false
end
mutual
theorem Shape.same_eq : ∀ (s t : Shape), s.same t = true -> s = t
  | .leaf, .leaf, _ => rfl
  | .agg l, .agg m, h => by rw [Shape.sames_eq l m (by simpa [Shape.same] using h)]
  | .arr n s, .arr m t, h => by
    simp only [Shape.same, Bool.and_eq_true] at h
    rw [Nat.eq_of_beq_eq_true h.1, Shape.same_eq s t h.2]
  | .leaf, .agg _, h | .leaf, .arr _ _, h | .agg _, .leaf, h | .agg _, .arr _ _, h | .arr _ _, .leaf, h | .arr _ _, .agg _, h => by simp [Shape.same] at h
theorem Shape.sames_eq : ∀ (l m : List Shape), Shape.sames l m = true -> l = m
  | [], [], _ => rfl
  | s :: l, t :: m, h => by
    simp only [Shape.sames, Bool.and_eq_true] at h
    rw [Shape.same_eq s t h.1, Shape.sames_eq l m h.2]
  | [], _ :: _, h | _ :: _, [], h => by simp [Shape.sames] at h
end
def Shape.isAgg : Shape -> Bool
  | .leaf => false
  | _ => true
inductive AV where
  | any
  | int (k : IntKind) (n : Int)
  | bool (b : Bool)
  | str (l : List UInt8)
  | nils
  | nilp
  | seq (sh : Shape) (n : Nat) (f : Nat -> AV)
  | seqc (sh : Shape) (n : Nat) (f : Nat -> AV)
  | rptr (sh : Shape) (x : AV)
  | own (b : Nat) (n : Nat)
  | ptr (b : Nat) (path : List Nat)
  | optr (b : Nat) (i : Nat) (path : List Nat)
  | clo (f : FuncId) (caps : List AV)
  | agg (l : List AV)
  | arr (n : Nat) (f : Nat -> AV)
  | mc (sh : Shape) (x : AV)
  | tup (l : List AV)
  | st (x : AV)
  | when (q : Bool) (x : AV)
  | nseq (N : Nat -> Prop) (sh : Shape) (n : Nat) (f : Nat -> AV)
  | cov (N : Nat -> Prop)
def AV.isOne : AV -> Bool
  | .agg _ | .arr _ _ | .mc _ _ | .tup _ | .st _ | .when _ _ => false
  | _ => true
def z10 (x : AV) : AV := match x.isOne with | true => x | false => .any
mutual
def z6 : Shape -> AV -> Nat -> AV
  | .leaf, x, _ => z10 x
  | .agg ss, .agg xs, j => zf ss xs j
  | .arr _ s, .arr _ f, j => .st (z6 s (f (j / s.size)) (j % s.size))
  | _, _, _ => .any
def zf : List Shape -> List AV -> Nat -> AV
  | s :: ss, x :: xs, j => if j < s.size then z6 s x j else zf ss xs (j - s.size)
  | _, _, _ => .any
end
def zk : List Nat -> Shape -> Nat
  | [], _ => 0
  | i :: p, .agg ss => Shape.sizes (ss.take i) + (match ss[i]? with | some s => zk p s | none => 0)
  | i :: p, .arr _ s => i * s.size + zk p s
  | _ :: _, .leaf => 0
def z1m : List Nat -> Shape -> Option Shape
  | [], s => some s
  | i :: p, .agg ss => match ss[i]? with | some s => z1m p s | none => none
  | _ :: p, .arr _ s => z1m p s
  | _ :: _, .leaf => none
def z1h : List Nat -> Shape -> Prop
  | [], _ => True
  | i :: p, .agg ss => match ss[i]? with | some s => z1h p s | none => False
  | i :: p, .arr n s => i < n /\ z1h p s
  | _ :: _, .leaf => False
def nav : List Nat -> Shape -> AV -> Option AV
  | [], _, x => some x
  | i :: p, .agg ss, .agg xs => match ss[i]? with
    | some s => match xs[i]? with
      | some x => nav p s x
      | none => none
    | none => none
  | i :: p, .arr _ s, .arr _ f => nav p s (f i)
  | _ :: _, _, _ => none
mutual
def AV.isStat : AV -> Bool
  | .own _ _ | .ptr _ _ | .optr _ _ _ | .tup _ | .when _ _ => false
  | .agg l | .clo _ l => AV.areStat l
  | .mc _ x => x.isStat
  | _ => true
def AV.areStat : List AV -> Bool
  | [] => true
  | x :: l => x.isStat && AV.areStat l
end
def z7t : List Nat -> Shape -> AV -> AV -> Option AV
  | [], _, _, y => some y
  | i :: p, .agg ss, .agg xs, y => match ss[i]? with
    | some s => match xs[i]? with
      | some x => match z7t p s x y with
        | some x' => some (.agg (xs.set i x'))
        | none => none
      | none => none
    | none => none
  | i :: p, .arr _ s, .arr m f, y => match z7t p s (f i) y with
    | some x' => if y.isStat then some (.arr m (fun j => if j = i then x' else f j)) else none
    | none => none
  | _ :: _, _, _, _ => none
theorem z2s {ss : List Shape} {i : Nat} {s : Shape} (h : ss[i]? = some s) : Shape.sizes (ss.take i) + s.size <= Shape.sizes ss := by
  induction ss generalizing i with
  | nil => simp at h
  | cons t ss ih =>
    cases i with
    | zero => simp at h; subst h; simp [Shape.sizes]
    | succ i => simp at h; simp only [List.take_succ_cons, Shape.sizes]; have := ih h; omega
theorem z50 {ss : List Shape} {xs : List AV} {i : Nat} {s : Shape} {x : AV} (h : ss[i]? = some s) (hx : xs[i]? = some x) (k : Nat) (hk : k < s.size) :
    zf ss xs (Shape.sizes (ss.take i) + k) = z6 s x k := by
  induction ss generalizing i xs with
  | nil => simp at h
  | cons t ss ih =>
    cases xs with
    | nil => simp at hx
    | cons y xs =>
      cases i with
      | zero => simp at h hx; subst h hx; simp [zf, Shape.sizes, hk]
      | succ i =>
        simp at h hx
        simp only [List.take_succ_cons, Shape.sizes, zf]
        rw [if_neg (by omega), show t.size + Shape.sizes (ss.take i) + k - t.size = Shape.sizes (ss.take i) + k from by omega]
        exact ih h hx
theorem za4 {ss : List Shape} {xs : List AV} {i : Nat} {s : Shape} (h : ss[i]? = some s) (y : AV) (j : Nat) (hi : i < xs.length) :
    zf ss (xs.set i y) j = if Shape.sizes (ss.take i) <= j /\ j < Shape.sizes (ss.take i) + s.size then z6 s y (j - Shape.sizes (ss.take i)) else zf ss xs j := by
  induction ss generalizing i xs j with
  | nil => simp at h
  | cons t ss ih =>
    cases xs with
    | nil => simp at hi
    | cons x xs =>
      cases i with
      | zero =>
        simp at h; subst h
        simp only [List.set_cons_zero, zf, List.take_zero, Shape.sizes, Nat.zero_le, true_and, Nat.zero_add, Nat.sub_zero]
        split <;> rfl
      | succ i =>
        simp at h hi
        simp only [List.set_cons_succ, zf, List.take_succ_cons, Shape.sizes]
        by_cases hj : j < t.size
        . rw [if_pos hj, if_neg (by omega), if_pos hj]
        . rw [if_neg hj, if_neg hj, ih h _ hi]
          by_cases hc : Shape.sizes (ss.take i) <= j - t.size /\ j - t.size < Shape.sizes (ss.take i) + s.size
          . rw [if_pos hc, if_pos (by omega), show j - t.size - Shape.sizes (ss.take i) = j - (t.size + Shape.sizes (ss.take i)) from by omega]
          . rw [if_neg hc, if_neg (by omega)]
inductive Strip : AV -> AV -> Prop
  | refl (x : AV) : Strip x x
  | st {x y : AV} : Strip x y -> Strip (.st x) y
theorem z1n : ∀ (p : List Nat) (sh s : Shape), z1h p sh -> z1m p sh = some s -> zk p sh + s.size <= sh.size
  | [], sh, s, _, h => by simp [z1m] at h; subst h; simp [zk]
  | i :: p, .agg ss, s, hp, h => by
    simp only [z1h, z1m, zk] at *
    cases hs : ss[i]? with
    | none => simp [hs] at h
    | some t =>
      simp only [hs] at hp h ⊢
      have h1 := z1n p t s hp h
      have h2 := z2s hs
      simp only [Shape.size]
      omega
  | i :: p, .arr n t, s, hp, h => by
    simp only [z1h, z1m, zk, Shape.size] at *
    have h1 := z1n p t s hp.2 h
    have h2 : (i + 1) * t.size <= n * t.size := Nat.mul_le_mul_right _ hp.1
    rw [Nat.add_mul] at h2
    omega
  | _ :: _, .leaf, _, hp, _ => by simp [z1h] at hp
theorem z41 : ∀ (p : List Nat) (sh s : Shape) (x y : AV), z1h p sh -> z1m p sh = some s -> nav p sh x = some y -> ∀ j, j < s.size -> Strip (z6 sh x (zk p sh + j)) (z6 s y j)
  | [], sh, s, x, y, _, h, hn, j, _ => by
    simp [z1m] at h; simp [nav] at hn; subst h hn
    simp [zk]; exact .refl _
  | i :: p, sh, s, x, y, hp, h, hn, j, hj => by
    cases sh with
    | leaf => simp [z1h] at hp
    | agg ss =>
      cases x with
      | agg xs =>
        simp only [z1h, z1m, zk, nav] at *
        cases hs : ss[i]? with
        | none => simp [hs] at h
        | some t =>
          cases hx : xs[i]? with
          | none => simp [hs, hx] at hn
          | some x =>
            simp only [hs, hx] at hp h hn ⊢
            have h1 := z1n p t s hp h
            have h2 := z41 p t s x y hp h hn j hj
            simp only [z6]
            rw [Nat.add_assoc, z50 hs hx _ (by omega)]
            exact h2
      | _ => simp [nav] at hn
    | arr n t =>
      cases x with
      | arr m f =>
        simp only [z1h, z1m, zk, nav] at *
        have h1 := z1n p t s hp.2 h
        have h2 := z41 p t s (f i) y hp.2 h hn j hj
        simp only [z6]
        have ht : 0 < t.size := by omega
        have e : i * t.size + zk p t + j = t.size * i + (zk p t + j) := by rw [Nat.mul_comm]; omega
        rw [e, Nat.mul_add_div ht, Nat.mul_add_mod, Nat.div_eq_of_lt (by omega), Nat.mod_eq_of_lt (by omega)]
        exact .st h2
      | _ => simp [nav] at hn
theorem z4b : ∀ (p : List Nat) (sh s : Shape) (x y x' : AV), z1h p sh -> z1m p sh = some s -> z7t p sh x y = some x' -> ∀ j,
    (zk p sh <= j /\ j < zk p sh + s.size -> ∃ z, Strip (z6 sh x' j) z /\ z = z6 s y (j - zk p sh) /\ (z6 sh x' j = z ∨ y.isStat = true)) /\
    (j < sh.size -> ¬ (zk p sh <= j /\ j < zk p sh + s.size) -> z6 sh x' j = z6 sh x j)
  | [], sh, s, x, y, x', _, h, hn, j => by
    simp [z1m] at h; simp [z7t] at hn; subst h hn
    refine ⟨fun _ => ⟨_, .refl _, by simp [zk], .inl rfl⟩, fun h1 h2 => ?_⟩
    simp [zk] at h2; omega
  | i :: p, sh, s, x, y, x', hp, h, hn, j => by
    cases sh with
    | leaf => simp [z1h] at hp
    | agg ss =>
      cases x with
      | agg xs =>
        simp only [z1h, z1m, zk, z7t] at *
        cases hs : ss[i]? with
        | none => simp [hs] at h
        | some t =>
          cases hx : xs[i]? with
          | none => simp [hs, hx] at hn
          | some x =>
            simp only [hs, hx] at hp h hn ⊢
            cases hy : z7t p t x y with
            | none => simp [hy] at hn
            | some z =>
              simp only [hy, Option.some.injEq] at hn
              subst hn
              have h1 := z1n p t s hp h
              have h2 := z4b p t s x y z hp h hy (j - Shape.sizes (ss.take i))
              have hi : i < xs.length := (List.getElem?_eq_some_iff.1 hx).1
              simp only [z6]
              rw [za4 hs z j hi]
              constructor
              . intro hj
                rw [if_pos (by omega)]
                have := h2.1 (by omega)
                rw [show j - (Shape.sizes (ss.take i) + zk p t) = j - Shape.sizes (ss.take i) - zk p t from by omega]
                exact this
              . intro hj hnj
                by_cases hc : Shape.sizes (ss.take i) <= j /\ j < Shape.sizes (ss.take i) + t.size
                . rw [if_pos hc, h2.2 (by omega) (by omega)]
                  have := z50 hs hx (j - Shape.sizes (ss.take i)) (by omega)
                  rw [show Shape.sizes (ss.take i) + (j - Shape.sizes (ss.take i)) = j from by omega] at this
                  exact this.symm
                . rw [if_neg hc]
      | _ => simp [z7t] at hn
    | arr n t =>
      cases x with
      | arr m f =>
        simp only [z1h, z1m, zk, z7t] at *
        cases hy : z7t p t (f i) y with
        | none => simp [hy] at hn
        | some z =>
          simp only [hy] at hn
          cases hst : y.isStat with
          | false => simp [hst] at hn
          | true =>
            simp only [hst, if_true, Option.some.injEq] at hn
            subst hn
            have h1 := z1n p t s hp.2 h
            have h2 := fun j => z4b p t s (f i) y z hp.2 h hy j
            simp only [z6]
            constructor
            . intro hj
              have ht : 0 < t.size := by omega
              have e : j = t.size * i + (j - i * t.size) := by rw [Nat.mul_comm]; omega
              have ed : j / t.size = i := by rw [e, Nat.mul_add_div ht, Nat.div_eq_of_lt (by omega)]; omega
              have em : j % t.size = j - i * t.size := by
                have := Nat.div_add_mod j t.size
                rw [ed, Nat.mul_comm] at this; omega
              rw [ed, em, if_pos rfl]
              obtain ⟨z', hz, hz', _⟩ := (h2 (j - i * t.size)).1 (by omega)
              exact ⟨z', .st hz, by rw [hz']; congr 1; omega, .inr (by trivial)⟩
            . intro hj hnj
              by_cases ed : j / t.size = i
              . rw [if_pos ed]
                have ht : 0 < t.size := by
                  rcases Nat.eq_zero_or_pos t.size with h0 | h0
                  . simp [Shape.size, h0] at hj
                  . exact h0
                have em : i * t.size + j % t.size = j := by
                  have := Nat.div_add_mod j t.size
                  rw [ed, Nat.mul_comm] at this; omega
                rw [(h2 (j % t.size)).2 (Nat.mod_lt _ ht) (by omega), ed]
              . rw [if_neg ed]
      | _ => simp [z7t] at hn
theorem z1g : ∀ {l : List AV}, AV.areStat l = true -> ∀ j, (l.getD j .any).isStat = true
  | [], _, j => by simp [AV.isStat]
  | x :: l, h, 0 => by simp only [AV.areStat, Bool.and_eq_true] at h; simpa using h.1
  | x :: l, h, j + 1 => by simp only [AV.areStat, Bool.and_eq_true] at h; simpa using z1g h.2 j
mutual
theorem z1w : ∀ (sh : Shape) (x : AV) (j : Nat), x.isStat = true -> (z6 sh x j).isStat = true
  | .leaf, x, j, h => by
    simp only [z6, z10]; split <;> first | exact h | rfl
  | .agg ss, x, j, h => by
    cases x with
    | agg xs => simp only [z6]; exact z94 ss xs j (by simpa [AV.isStat] using h)
    | _ => simp [z6, AV.isStat]
  | .arr n s, x, j, h => by
    cases x with
    | arr m f => simp [z6, AV.isStat]
    | _ => simp [z6, AV.isStat]
theorem z94 : ∀ (ss : List Shape) (xs : List AV) (j : Nat), AV.areStat xs = true -> (zf ss xs j).isStat = true
  | s :: ss, x :: xs, j, h => by
    simp only [zf]
    simp only [AV.areStat, Bool.and_eq_true] at h
    split
    . exact z1w s x j h.1
    . exact z94 ss xs _ h.2
  | [], _, _, _ => by simp [zf, AV.isStat]
  | _ :: _, [], _, _ => by simp [zf, AV.isStat]
end
def InR (k : IntKind) (n : Int) : Prop := k.wrap n = n
inductive RepS (w : World) (F : Nat -> Prop) : Value -> AV -> Prop
  | any (v : Value) (h : v.oneCell' = true) : RepS w F v .any
  | int (k : IntKind) (n : Int) (h : InR k n) : RepS w F (.int k n) (.int k n)
  | bool (b : Bool) : RepS w F (.bool b) (.bool b)
  | str (s : ByteArray) : RepS w F (.string s) (.str s.data.toList)
  | clo (f : FuncId) (caps : Array Value) (l : List AV) (hs : caps.size = l.length) (hc : ∀ j, j < l.length -> RepS w F (caps.getD j undef) (l.getD j .any)) :
      RepS w F (.func (.func f) #[] caps) (.clo f l)
  | nils : RepS w F (.slice none 0 0) .nils
  | nilp : RepS w F (.pointer none) .nilp
  | seq0 (a : Option Addr) (cap : Nat) (sh : Shape) (f : Nat -> AV) : RepS w F (.slice a 0 cap) (.seq sh 0 f)
  | seqc0 (a : Option Addr) (sh : Shape) (f : Nat -> AV) : RepS w F (.slice a 0 0) (.seqc sh 0 f)
  | seq (g o n cap : Nat) (sh : Shape) (f : Nat -> AV) (cs : Nat -> Nat -> Value) (hF : F g) (hn : n <= cap)
      (hc : ∀ i, i < n -> ∀ j, j < sh.size -> w.cell? ⟨g, o + (i * sh.size + j), none⟩ = some (cs i j))
      (hr : ∀ i, i < n -> ∀ j, j < sh.size -> RepS w F (cs i j) (z6 sh (f i) j)) : RepS w F (.slice (some ⟨g, o, none⟩) n cap) (.seq sh n f)
  | seqc (g o n : Nat) (sh : Shape) (f : Nat -> AV) (cs : Nat -> Nat -> Value) (hF : F g)
      (hc : ∀ i, i < n -> ∀ j, j < sh.size -> w.cell? ⟨g, o + (i * sh.size + j), none⟩ = some (cs i j))
      (hr : ∀ i, i < n -> ∀ j, j < sh.size -> RepS w F (cs i j) (z6 sh (f i) j)) : RepS w F (.slice (some ⟨g, o, none⟩) n n) (.seqc sh n f)
  | rptr (g o : Nat) (sh : Shape) (x : AV) (cs : Nat -> Value) (hF : F g)
      (hc : ∀ j, j < sh.size -> w.cell? ⟨g, o + j, none⟩ = some (cs j))
      (hr : ∀ j, j < sh.size -> RepS w F (cs j) (z6 sh x j)) : RepS w F (.pointer (some ⟨g, o, none⟩)) (.rptr sh x)
  | mc (cs : Array Value) (sh : Shape) (x : AV) (hs : cs.size = sh.size)
      (hr : ∀ j, j < sh.size -> RepS w F (cs.getD j undef) (z6 sh x j)) : RepS w F (.agg cs) (.mc sh x)
  | st {v : Value} {x : AV} (h : RepS w F v x) : RepS w F v (.st x)
  | nseq0 (N : Nat -> Prop) (a : Option Addr) (cap : Nat) (sh : Shape) (f : Nat -> AV) : RepS w F (.slice a 0 cap) (.nseq N sh 0 f)
  | nseq (N : Nat -> Prop) (g o n cap : Nat) (sh : Shape) (f : Nat -> AV) (cs : Nat -> Nat -> Value) (hF : F g) (hN : N g) (hb : ∃ cs ty, w.heap[g]? = some (.cells cs ty (0, 0))) (hn : n <= cap)
      (hc : ∀ i, i < n -> ∀ j, j < sh.size -> w.cell? ⟨g, o + (i * sh.size + j), none⟩ = some (cs i j))
      (hr : ∀ i, i < n -> ∀ j, j < sh.size -> RepS w F (cs i j) (z6 sh (f i) j)) : RepS w F (.slice (some ⟨g, o, none⟩) n cap) (.nseq N sh n f)
  | cov (N : Nat -> Prop) (v : Value) (h : v.oneCell' = true) (hN : ∀ k, F k ∨ N k) : RepS w F v (.cov N)
theorem RepS.strip {w : World} {F : Nat -> Prop} {v : Value} {x y : AV} (hs : Strip x y) (h : RepS w F v x) : RepS w F v y := by
  induction hs with
  | refl => exact h
  | st _ ih => cases h with | st h => exact ih h
theorem RepS.keep {w w' : World} {F F' : Nat -> Prop} {v : Value} {x : AV} (h : RepS w F v x) (hw : ∀ k, F k -> w'.heap[k]? = w.heap[k]?) (hF : ∀ k, F k -> F' k) : RepS w' F' v x := by
  have hc : ∀ g o s, F g -> w'.cell? ⟨g, o, s⟩ = w.cell? ⟨g, o, s⟩ := fun g o s hg => World.cell?_of_block (hw g hg)
  induction h with
  | any _ h => exact .any _ h
  | int _ _ h => exact .int _ _ h
  | clo f caps l hs _ ih => exact .clo f caps l hs ih
  | bool => exact .bool _
  | str => exact .str _
  | nils => exact .nils
  | nilp => exact .nilp
  | seq0 => exact .seq0 _ _ _ _
  | seqc0 => exact .seqc0 _ _ _
  | seq g o n cap sh f cs hg hn h1 h2 ih => exact .seq g o n cap sh f cs (hF _ hg) hn (fun i hi j hj => (hc _ _ _ hg).trans (h1 i hi j hj)) ih
  | seqc g o n sh f cs hg h1 h2 ih => exact .seqc g o n sh f cs (hF _ hg) (fun i hi j hj => (hc _ _ _ hg).trans (h1 i hi j hj)) ih
  | rptr g o sh x cs hg h1 h2 ih => exact .rptr g o sh x cs (hF _ hg) (fun j hj => (hc _ _ _ hg).trans (h1 j hj)) ih
  | mc cs sh x hs _ ih => exact .mc cs sh x hs ih
  | st _ ih => exact .st ih
  | nseq0 => exact .nseq0 _ _ _ _ _
  | nseq N g o n cap sh f cs hg hN hb hn h1 h2 ih => exact .nseq N g o n cap sh f cs (hF _ hg) hN (by rw [hw g hg]; exact hb) hn (fun i hi j hj => (hc _ _ _ hg).trans (h1 i hi j hj)) ih
  | cov N v h hN => exact .cov N v h fun k => (hN k).imp (hF k) id
structure Place where
  blk : Option Nat
  cap : Nat
  sh : Shape
  ty : TypeId
inductive Rep (w : World) (F : Nat -> Prop) (φ : Nat -> Place) : Value -> AV -> Prop
  | stat {v : Value} {x : AV} (h : RepS w F v x) : Rep w F φ v x
  | st {v : Value} {x : AV} (h : RepS w F v x) : Rep w F φ v (.st x)
  | own (b g n : Nat) (hb : (φ b).blk = some g) (hn : n <= (φ b).cap) : Rep w F φ (.slice (some ⟨g, 0, none⟩) n (φ b).cap) (.own b n)
  | own0 (b : Nat) (hb : (φ b).blk = none) : Rep w F φ (.slice none 0 0) (.own b 0)
  | ptr (b g : Nat) (p : List Nat) (hb : (φ b).blk = some g) (hp : z1h p (φ b).sh) : Rep w F φ (.pointer (some ⟨g, zk p (φ b).sh, none⟩)) (.ptr b p)
  | optr (b g i : Nat) (p : List Nat) (hb : (φ b).blk = some g) (hp : z1h p (φ b).sh) : Rep w F φ (.pointer (some ⟨g, i * (φ b).sh.size + zk p (φ b).sh, none⟩)) (.optr b i p)
  | clo (f : FuncId) (caps : Array Value) (l : List AV) (hs : caps.size = l.length) (hc : ∀ j, j < l.length -> Rep w F φ (caps.getD j undef) (l.getD j .any)) :
      Rep w F φ (.func (.func f) #[] caps) (.clo f l)
  | mc (cs : Array Value) (sh : Shape) (x : AV) (hs : cs.size = sh.size)
      (hr : ∀ j, j < sh.size -> Rep w F φ (cs.getD j undef) (z6 sh x j)) : Rep w F φ (.agg cs) (.mc sh x)
  | tup (vs : Array Value) (l : List AV) (hs : vs.size = l.length) (hc : ∀ j, j < l.length -> Rep w F φ (vs.getD j undef) (l.getD j .any)) : Rep w F φ (.tuple vs) (.tup l)
  | whenT {v : Value} {x : AV} (q : Bool) (h : q = true -> Rep w F φ v x) (h' : q = false -> v = undef ∨ x = .any) : Rep w F φ v (.when q x)
mutual
def AV.names (b : Nat) : AV -> Bool
  | .own c _ | .ptr c _ | .optr c _ _ => Nat.beq c b
  | .agg l | .tup l | .clo _ l => AV.namesL b l
  | .mc _ x | .when _ x => x.names b
  | _ => false
def AV.namesL (b : Nat) : List AV -> Bool
  | [] => false
  | x :: l => x.names b || AV.namesL b l
end
theorem z7c {b : Nat} : ∀ {l : List AV} {j : Nat}, (l.getD j .any).names b = true -> AV.namesL b l = true
  | [], j, h => by simp [AV.names] at h
  | x :: l, 0, h => by simp at h; simp [AV.namesL, h]
  | x :: l, j + 1, h => by
    simp only [List.getD_cons_succ] at h
    simp [AV.namesL, z7c h]
mutual
theorem z32 {b : Nat} : ∀ (sh : Shape) (x : AV) (j : Nat), (z6 sh x j).names b = true -> x.names b = true
  | .leaf, x, j, h => by
    simp only [z6, z10] at h; split at h <;> first | exact h | simp [AV.names] at h
  | .agg ss, x, j, h => by
    cases x with
    | agg xs => simp only [z6] at h; simp only [AV.names]; exact z7u ss xs j h
    | _ => simp [z6, AV.names] at h
  | .arr n s, x, j, h => by
    cases x with
    | arr m f => simp [z6, AV.names] at h
    | _ => simp [z6, AV.names] at h
theorem z7u {b : Nat} : ∀ (ss : List Shape) (xs : List AV) (j : Nat), (zf ss xs j).names b = true -> AV.namesL b xs = true
  | s :: ss, x :: xs, j, h => by
    simp only [zf] at h
    simp only [AV.namesL, Bool.or_eq_true]
    split at h
    . exact .inl (z32 s x j h)
    . exact .inr (z7u ss xs _ h)
  | [], _, _, h => by simp [zf, AV.names] at h
  | _ :: _, [], _, h => by simp [zf, AV.names] at h
end
theorem Rep.keep {w w' : World} {F F' : Nat -> Prop} {φ φ' : Nat -> Place} {v : Value} {x : AV} (h : Rep w F φ v x) (hw : ∀ k, F k -> w'.heap[k]? = w.heap[k]?) (hF : ∀ k, F k -> F' k)
    (hφ : ∀ b, x.names b = true -> φ' b = φ b) : Rep w' F' φ' v x := by
  induction h with
  | stat h => exact .stat (h.keep hw hF)
  | st h => exact .st (h.keep hw hF)
  | own b g n hb hn =>
    have e := hφ b (by simp [AV.names])
    rw [<- e] at hb hn ⊢
    exact .own b g n hb hn
  | own0 b hb => exact .own0 b (by rw [hφ b (by simp [AV.names])]; exact hb)
  | ptr b g p hb hp =>
    have e := hφ b (by simp [AV.names])
    rw [<- e] at hb hp ⊢
    exact .ptr b g p hb hp
  | optr b g i p hb hp =>
    have e := hφ b (by simp [AV.names])
    rw [<- e] at hb hp ⊢
    exact .optr b g i p hb hp
  | clo f caps l hs _ ih => exact .clo f caps l hs fun j hj => ih j hj fun b hb => hφ b (by simp only [AV.names]; exact z7c hb)
  | mc cs sh x hs _ ih => exact .mc cs sh x hs fun j hj => ih j hj fun b hb => hφ b (by simp only [AV.names]; exact z32 sh x j hb)
  | tup vs l hs _ ih => exact .tup vs l hs fun j hj => ih j hj fun b hb => hφ b (by simp only [AV.names]; exact z7c hb)
  | whenT q _ h' ih => exact .whenT q (fun hq => ih hq fun b hb => hφ b (by simpa [AV.names] using hb)) h'
theorem Rep.strip {w : World} {F : Nat -> Prop} {φ : Nat -> Place} {v : Value} {x y : AV} (hs : Strip x y) (h : Rep w F φ v x) : Rep w F φ v y := by
  induction hs with
  | refl => exact h
  | st _ ih =>
    cases h with
    | stat h => cases h with | st h => exact ih (.stat h)
    | st h => exact ih (.stat h)
theorem Rep.toS {w : World} {F : Nat -> Prop} {φ : Nat -> Place} {v : Value} {x : AV} (h : Rep w F φ v x) (hs : x.isStat = true) : RepS w F v x := by
  induction h with
  | stat h => exact h
  | st h => exact .st h
  | mc cs sh x hsz _ ih =>
    refine .mc cs sh x hsz fun j hj => ih j hj ?_
    exact z1w sh x j (by simpa [AV.isStat] using hs)
  | clo f caps l hsz _ ih =>
    refine .clo f caps l hsz fun j hj => ih j hj ?_
    exact z1g (by simpa [AV.isStat] using hs) j
  | _ => simp [AV.isStat] at hs
theorem RepS.one {w : World} {F : Nat -> Prop} {v : Value} {x : AV} (h : RepS w F v x) (hx : x.isOne = true) : v.oneCell' = true := by
  cases h with
  | any _ h => exact h
  | cov _ _ h => exact h
  | mc => simp [AV.isOne] at hx
  | st => simp [AV.isOne] at hx
  | _ => rfl
theorem Rep.one {w : World} {F : Nat -> Prop} {φ : Nat -> Place} {v : Value} {x : AV} (h : Rep w F φ v x) (hx : x.isOne = true) : v.oneCell' = true := by
  cases h with
  | stat h => exact h.one hx
  | st => simp [AV.isOne] at hx
  | mc => simp [AV.isOne] at hx
  | tup => simp [AV.isOne] at hx
  | whenT => simp [AV.isOne] at hx
  | _ => rfl
mutual
theorem RepS.leaf1 {w : World} {F : Nat -> Prop} {v : Value} : ∀ (sh : Shape) (x : AV) (j : Nat), RepS w F v (z6 sh x j) -> v.oneCell' = true
  | .leaf, x, j, h => by
    simp only [z6, z10] at h
    split at h
    . rename_i e; exact h.one e
    . exact h.one rfl
  | .agg ss, x, j, h => by
    cases x with
    | agg xs => simp only [z6] at h; exact RepS.leafs1 ss xs j h
    | _ => simp only [z6] at h; exact h.one rfl
  | .arr n s, x, j, h => by
    cases x with
    | arr m f => simp only [z6] at h; cases h with | st h => exact RepS.leaf1 s _ _ h
    | _ => simp only [z6] at h; exact h.one rfl
theorem RepS.leafs1 {w : World} {F : Nat -> Prop} {v : Value} : ∀ (ss : List Shape) (xs : List AV) (j : Nat), RepS w F v (zf ss xs j) -> v.oneCell' = true
  | s :: ss, x :: xs, j, h => by
    simp only [zf] at h
    split at h
    . exact RepS.leaf1 s x j h
    . exact RepS.leafs1 ss xs _ h
  | [], _, _, h => by simp only [zf] at h; exact h.one rfl
  | _ :: _, [], _, h => by simp only [zf] at h; exact h.one rfl
end
mutual
theorem Rep.leaf1 {w : World} {F : Nat -> Prop} {φ : Nat -> Place} {v : Value} : ∀ (sh : Shape) (x : AV) (j : Nat), Rep w F φ v (z6 sh x j) -> v.oneCell' = true
  | .leaf, x, j, h => by
    simp only [z6, z10] at h
    split at h
    . rename_i e; exact h.one e
    . exact h.one rfl
  | .agg ss, x, j, h => by
    cases x with
    | agg xs => simp only [z6] at h; exact Rep.leafs1 ss xs j h
    | _ => simp only [z6] at h; exact h.one rfl
  | .arr n s, x, j, h => by
    cases x with
    | arr m f =>
      simp only [z6] at h
      cases h with
      | stat h => cases h with | st h => exact RepS.leaf1 s _ _ h
      | st h => exact RepS.leaf1 s _ _ h
    | _ => simp only [z6] at h; exact h.one rfl
theorem Rep.leafs1 {w : World} {F : Nat -> Prop} {φ : Nat -> Place} {v : Value} : ∀ (ss : List Shape) (xs : List AV) (j : Nat), Rep w F φ v (zf ss xs j) -> v.oneCell' = true
  | s :: ss, x :: xs, j, h => by
    simp only [zf] at h
    split at h
    . exact Rep.leaf1 s x j h
    . exact Rep.leafs1 ss xs _ h
  | [], _, _, h => by simp only [zf] at h; exact h.one rfl
  | _ :: _, [], _, h => by simp only [zf] at h; exact h.one rfl
end
end Go.AV
namespace Go.AV
open Go.RowKit
def get {α : Type} : List (Nat × α) -> Nat -> Option α
  | [], _ => none
  | (k, v) :: l, s => match Nat.beq k s with
    | true => some v
    | false => get l s
def del {α : Type} : List (Nat × α) -> Nat -> List (Nat × α)
  | [], _ => []
  | (k, v) :: l, s => match Nat.beq k s with
    | true => del l s
    | false => (k, v) :: del l s
def put {α : Type} (l : List (Nat × α)) (s : Nat) (v : α) : List (Nat × α) := (s, v) :: del l s
inductive BoxC where
  | cell (ty : TypeId) (sh : Shape) (x : AV)
  | row (ty : TypeId) (sh : Shape) (n : Nat) (f : Nat -> AV)
structure St where
  env : List (Nat × AV)
  heap : List (Nat × BoxC)
inductive TyK where
  | int (k : IntKind)
  | bool
  | string
  | slice (e : TypeId)
  | arr (n : Nat) (e : TypeId)
  | struct (fs : List TypeId)
  | other
structure TyE where
  sh : Shape
  zero : AV
  bytes : Nat
  kind : TyK
  eqs : Bool
structure Cfg where
  P : Program
  T : List (Nat × TyE)
  G : List (Nat × AV)
  wraps : Bool
  ntmps : Nat
  fresh : FuncId -> List AV -> Option (List BoxC) := fun _ _ => none
  CCF : FuncId -> List AV -> AV -> List BoxC -> Prop := fun _ _ _ _ => False
  mkr : FuncId -> List AV -> Option (AV × BoxC) := fun _ _ => none
  isMk : FuncId -> Nat -> Bool := fun _ _ => false
  lent : FuncId -> List AV -> List BoxC -> Option (AV × List (Option BoxC)) := fun _ _ _ => none
  CCL : FuncId -> List AV -> List BoxC -> AV -> List (Option BoxC) -> Prop := fun _ _ _ _ _ => False
  pan : FuncId -> List AV -> List BoxC -> Option (Bool × Value) := fun _ _ _ => none
  CCP : FuncId -> List AV -> List BoxC -> Bool -> Value -> Prop := fun _ _ _ _ _ => False
  mayPan : FuncId -> Bool := fun _ => false
  told : Bool := false
  layB : Nat -> Bool := fun _ => false
inductive Eff where
  | none
  | new (c : BoxC)
  | upd (b : Nat) (c : BoxC)
  | grow (b : Nat) (c : BoxC)
structure Res where
  val : AV
  eff : Eff
  obs : List Prop
def zfl : Value -> Option AV
  | .int k n => match decide (k.wrap n = n) with | true => some (.int k n) | false => none
  | .bool b => some (.bool b)
  | .string s => some (.str s.data.toList)
  | .slice none 0 0 => some .nils
  | .pointer none => some .nilp
  | .nilFunc | .nilIface | .map none => some .any
  | _ => none
def ev (C : Cfg) (st : St) : Operand -> Option AV
  | .tmp t => get st.env t
  | .const v => zfl v
  | .global g => get C.G g
  | .func f => some (.clo f [])
def strip1 : AV -> AV
  | .when _ x => x
  | x => x
def z95 : AV -> List Prop
  | .when q' _ => [q' = true]
  | _ => []
def z9k (sh : Shape) (x : AV) : Option AV :=
  match sh with
  | .leaf => match x.isOne with | true => some x | false => none
  | _ => some (.mc sh x)
def unwV (sh : Shape) (x : AV) : Option AV :=
  match sh, x with
  | .leaf, x => match x.isOne with | true => some x | false => none
  | sh, .mc sh' y => match sh.same sh' with | true => some y | false => none
  | _, _ => none
def zcn : Operand -> Bool
  | .const (.bool false) => true
  | _ => false
def zgw : Operand -> Bool
  | .const (.bool true) => true
  | _ => false
def zjf (p : Bool) (xf yf : Bool) : AV -> AV -> Option AV
  | .bool a, .bool b => match yf, xf with
    | true, _ => some (.bool (p && a))
    | _, true => some (.bool (p || b))
    | _, _ => some (.bool (bif p then a else b))
  | .int k a, .int k' b => match decide (k = k') with | true => some (.int k (bif p then a else b)) | false => none
  | _, _ => none
def z8j (C : Cfg) (k : IntKind) (n : Int) : Res :=
  match C.wraps with
  | true => ⟨.int k (k.wrap n), .none, []⟩
  | false => ⟨.int k n, .none, [InR k n]⟩
def eqAV (k : TyK) (x y : AV) : Option Bool :=
  match k, x, y with
  | .int _, .int k a, .int k' b => match decide (k = k') with | true => some (a == b) | false => none
  | .bool, .bool a, .bool b => some (a == b)
  | .string, .str a, .str b => some (a == b)
  | _, _, _ => none
def tyOf (C : Cfg) (t : TypeId) : Option TyE := get C.T t
def ze0 (C : Cfg) : List TypeId -> List AV -> List AV -> Option Bool
  | [], [], [] => some true
  | t :: ts, x :: l, y :: m => match tyOf C t with
    | some te => match eqAV te.kind x y, ze0 C ts l m with
      | some a, some b => some (a && b)
      | _, _ => none
    | none => none
  | _, _, _ => none
def za5 (k : TyK) (f g : Nat -> AV) : List Nat -> Option Bool
  | [] => some true
  | i :: l => match eqAV k (f i) (g i), za5 k f g l with
    | some a, some b => some (a && b)
    | _, _ => none
def zrd (C : Cfg) (te : TyE) (n : Nat) (f g : Nat -> AV) : Option Bool :=
  match te.kind with
  | .arr m e => match Nat.beq m n, tyOf C e with
    | true, some tf => za5 tf.kind f g (List.range n)
    | _, _ => none
  | _ => none
def fieldsOf : TyK -> List TypeId
  | .struct fs => fs
  | _ => []
def za6 (op : BinOp) : AV -> AV -> Option Res
  | .int k a, .int _ b => match op with
    | .shl => some ⟨.int k (k.wrap (a * 2 ^ b.toNat)), .none, [0 <= b /\ b <= k.bits]⟩
    | .shr => some ⟨.int k (a / 2 ^ b.toNat), .none, [0 <= b /\ b <= k.bits, InR k (a / 2 ^ b.toNat)]⟩
    | _ => none
  | _, _ => none
def zjg (C : Cfg) (te : TyE) (op : BinOp) (x y : AV) : Option Res :=
  match x, y with
  | .int k a, .int k' b => match decide (k = k') with
    | true => match op with
      | .add => some (z8j C k (a + b))
      | .sub => some (z8j C k (a - b))
      | .mul => some (z8j C k (a * b))
      | .quo => some { z8j C k (a.tdiv b) with obs := (b ≠ 0) :: (z8j C k (a.tdiv b)).obs }
      | .rem => some ⟨.int k (a.tmod b), .none, [b ≠ 0, InR k (a.tmod b)]⟩
      | .eql => some ⟨.bool (a == b), .none, []⟩
      | .neq => some ⟨.bool (a != b), .none, []⟩
      | .lss => some ⟨.bool (decide (a < b)), .none, []⟩
      | .leq => some ⟨.bool (decide (a <= b)), .none, []⟩
      | .gtr => some ⟨.bool (decide (b < a)), .none, []⟩
      | .geq => some ⟨.bool (decide (b <= a)), .none, []⟩
      | .and => some ⟨.int k (bits .and k a b), .none, []⟩
      | .or => some ⟨.int k (bits .or k a b), .none, []⟩
      | .xor => some ⟨.int k (bits .xor k a b), .none, []⟩
      | _ => none
    | false => none
  | .bool a, .bool b => match te.kind with
    | .bool => match op with
      | .eql => some ⟨.bool (a == b), .none, []⟩
      | .neq => some ⟨.bool (!(a == b)), .none, []⟩
      | _ => none
    | _ => none
  | .str a, .str b => match op with
    | .eql => some ⟨.bool (a == b), .none, []⟩
    | .neq => some ⟨.bool (!(a == b)), .none, []⟩
    | .add => some ⟨.str (a ++ b), .none, [((a.length + b.length : Nat) : Int) <= 9223372036854775807]⟩
    | _ => none
  | .mc (.agg ss) (.agg xs), .mc (.agg ts) (.agg ys) => match te.eqs && ((Shape.agg ss).same te.sh && (Shape.agg ts).same te.sh), ze0 C (fieldsOf te.kind) xs ys with
    | true, some b => match op with
      | .eql => some ⟨.bool b, .none, []⟩
      | .neq => some ⟨.bool (!b), .none, []⟩
      | _ => none
    | _, _ => none
  | .mc (.arr n s) (.arr _ f), .mc (.arr m s') (.arr _ g) => match te.eqs && ((Shape.arr n s).same te.sh && (Shape.arr m s').same te.sh), zrd C te n f g with
    | true, some b => match op with
      | .eql => some ⟨.bool b, .none, []⟩
      | .neq => some ⟨.bool (!b), .none, []⟩
      | _ => none
    | _, _ => none
  | _, _ => none
def zjh : IntKind -> IntKind -> Bool
  | .u8, .u8 | .u8, .i64 | .u8, .u64 | .u8, .i32 | .u8, .u32 | .i64, .i64 | .u64, .u64 | .i32, .i32 | .i32, .i64 | .u32, .u32 | .u32, .i64 | .u32, .u64 => true
  | _, _ => false
def za7 (ss : List Shape) (zs : List AV) : List (Nat × AV) -> Option (List AV)
  | [] => some zs
  | (i, v) :: l => match ss[i]? with
    | some s => match unwV s v with
      | some y => za7 ss (zs.set i y) l
      | none => none
    | none => none
def z3n (s : Shape) (len : Nat) (zs : List AV) : List (Nat × AV) -> Option (List AV)
  | [] => some zs
  | (i, v) :: l => match unwV s v with
    | some y => match y.isStat && Nat.blt i len with
      | true => z3n s len (zs.set i y) l
      | false => none
    | none => none
def z3f (e : Operand -> Option AV) : List (Nat × Operand) -> Option (List (Nat × AV))
  | [] => some []
  | (i, x) :: l => match e x, z3f e l with
    | some v, some vs => some ((i, v) :: vs)
    | _, _ => none
def z2e (e : Operand -> Option AV) : List Operand -> Option (List AV)
  | [] => some []
  | x :: l => match e x, z2e e l with
    | some v, some vs => some (v :: vs)
    | _, _ => none
def z6n (b : Nat) : List (Nat × AV) -> Bool
  | [] => false
  | (_, x) :: l => x.names b || z6n b l
def BoxC.isRow : BoxC -> Bool
  | .row _ _ _ _ => true
  | _ => false
def BoxC.names (b : Nat) : BoxC -> Bool
  | .cell _ _ x => x.names b
  | .row _ _ _ _ => false
def z4o (b : Nat) : List (Nat × BoxC) -> Bool
  | [] => false
  | (k, c) :: l => Nat.beq k b || c.names b || z4o b l
def z18 (st : St) (b : Nat) : Bool := !(z6n b st.env || (z4o b st.heap || !Nat.blt b 1099511627776))
def z5t (b : Nat) : List (Nat × AV) -> List (Nat × AV)
  | [] => []
  | (k, x) :: l => (k, match x.names b with | true => .when false .any | false => x) :: z5t b l
mutual
def AV.kill (b : Nat) : AV -> AV
  | .own c n => match Nat.beq c b with | true => .any | false => .own c n
  | .ptr c p => match Nat.beq c b with | true => .any | false => .ptr c p
  | .optr c i p => match Nat.beq c b with | true => .any | false => .optr c i p
  | .clo f l => match AV.namesL b l with | true => .any | false => .clo f l
  | .agg l => .agg (AV.killL b l)
  | x => x
def AV.killL (b : Nat) : List AV -> List AV
  | [] => []
  | x :: l => x.kill b :: AV.killL b l
end
def BoxC.kill (b : Nat) (c : BoxC) : BoxC :=
  match c with
  | .cell tc sh x => match x.names b with | true => .cell tc sh (x.kill b) | false => .cell tc sh x
  | c => c
def z4c (b : Nat) : List (Nat × BoxC) -> List (Nat × BoxC)
  | [] => []
  | (k, c) :: l => (k, c.kill b) :: z4c b l
mutual
def frz (h : List (Nat × BoxC)) : AV -> Option (AV × List Prop)
  | .own b n => match get h b with
    | some (.row _ sh n' f) => some (.seq sh n f, [n <= n'])
    | _ => none
  | .ptr b p => match get h b with
    | some (.cell _ sh x) => match z1m p sh, nav p sh x with
      | some s, some y => match y.isStat with
        | true => some (.rptr s y, [])
        | false => none
      | _, _ => none
    | _ => none
  | .agg l => match frzs h l with | some (m, ps) => some (.agg m, ps) | none => none
  | .clo f l => match frzs h l with | some (m, ps) => some (.clo f m, ps) | none => none
  | .mc sh x => match frz h x with | some (y, ps) => some (.mc sh y, ps) | none => none
  | .optr _ _ _ | .tup _ | .when _ _ => none
  | x => some (x, [])
def frzs (h : List (Nat × BoxC)) : List AV -> Option (List AV × List Prop)
  | [] => some ([], [])
  | x :: l => match frz h x, frzs h l with
    | some (y, ps), some (m, qs) => some (y :: m, ps ++ qs)
    | _, _ => none
end
mutual
def AV.isScalar : AV -> Bool
  | .int _ _ | .bool _ | .str _ | .nils | .nilp => true
  | .agg l | .tup l => AV.areScalar l
  | .mc _ x => x.isScalar
  | .arr _ _ => false
  | _ => false
def AV.areScalar : List AV -> Bool
  | [] => true
  | x :: l => x.isScalar && AV.areScalar l
end
def AV.isRes : AV -> Bool
  | .tup l => AV.areStat l
  | x => x.isStat
def zre : AV -> Option Nat
  | .seq _ n _ | .seqc _ n _ | .own _ n | .nseq _ _ n _ => some n
  | .nils => some 0
  | _ => none
def zik (st : St) (b : Nat) (p : List Nat) : Option Shape :=
  match get st.heap b with
  | some (.cell _ sh _) => z1m p sh
  | _ => none
def rowSh (st : St) (b : Nat) (p : List Nat) : Option Shape :=
  match get st.heap b with
  | some (.row _ sh _ _) => z1m p sh
  | _ => none
def inIx (i : Int) (n : Nat) : Prop := 0 <= i /\ i < (n : Int)
def ixAV : Option AV -> Option Int
  | some (.int _ i) => some i
  | _ => none
def z71 (e : Operand -> Option AV) (d : Int) : Option Operand -> Option Int
  | none => some d
  | some o => ixAV (e o)
def z7d (st : St) (te : TyE) (f : Nat) : AV -> Option AV
  | .ptr b p => match zik st b p with
    | some s => match s.same te.sh with
      | true => some (.ptr b (p ++ [f]))
      | false => none
    | none => none
  | .optr b i p => match rowSh st b p with
    | some s => match s.same te.sh with
      | true => some (.optr b i (p ++ [f]))
      | false => none
    | none => none
  | .rptr (.agg ss) (.agg xs) => match (Shape.agg ss).same te.sh with
    | true => match ss[f]?, xs[f]? with
      | some s, some x => some (.rptr s x)
      | _, _ => none
    | false => none
  | _ => none
def z6o : TyK -> Nat
  | .struct fs => fs.length
  | _ => 0
mutual
def AV.sub (n : Nat -> Nat) : AV -> AV
  | .own b k => .own (n b) k
  | .ptr b p => .ptr (n b) p
  | .optr b i p => .optr (n b) i p
  | .agg l => .agg (AV.subL n l)
  | .tup l => .tup (AV.subL n l)
  | .mc sh x => .mc sh (x.sub n)
  | x => x
def AV.subL (n : Nat -> Nat) : List AV -> List AV
  | [] => []
  | x :: l => x.sub n :: AV.subL n l
end
mutual
def AV.only0 (m : Nat -> Bool) : AV -> Bool
  | .own b _ | .ptr b _ | .optr b _ _ => m b
  | .agg l | .tup l => AV.only0L m l
  | .mc _ x => x.only0 m
  | .when _ _ => false
  | .clo _ l => AV.areStat l
  | _ => true
def AV.only0L (m : Nat -> Bool) : List AV -> Bool
  | [] => true
  | x :: l => x.only0 m && AV.only0L m l
end
def AV.leafy : AV -> Bool
  | .agg _ | .arr _ _ | .mc _ _ | .tup _ | .when _ _ => false
  | _ => true
def zn3 : AV -> Bool
  | .mc _ _ => true
  | y => y.leafy
def z5u : List AV -> Bool
  | [] => true
  | x :: l => zn3 x && z5u l
def below (k : Nat) (b : Nat) : Bool := Nat.blt b k
def z45 (m : Nat -> Bool) : AV -> Bool
  | .tup l => z5u l && AV.only0L m l
  | y => zn3 y && y.only0 m
def mkAt (C : Cfg) (fx : Operand) (dst : Option Nat) : Option (FuncId × Nat) :=
  match fx, dst with
  | .func f, some d => match C.isMk f d with
    | true => some (f, d)
    | false => none
  | _, _ => none
def zgx (C : Cfg) (f : FuncId) (d : Nat) (as : List AV) : Option Res :=
  match C.mkr f as with
  | some (r, .row ty sh n g) => match AV.areStat as && z45 (below 1) r with
    | true => some ⟨r.sub (fun _ => d), .new (.row ty sh n g), [C.CCF f as r [.row ty sh n g]]⟩
    | false => none
  | _ => none
def zj (C : Cfg) (st : St) (e : Operand -> Option AV) (dst : Option Nat) (orc : FuncId -> List AV -> Option AV) (CC : FuncId -> List AV -> AV -> Prop) : Op -> Option Res
  | .move x | .assign x => match e x with | some v => some ⟨v, .none, []⟩ | none => none
  | .alloc t => match tyOf C t, dst with
    | some te, some d => some ⟨.ptr d [], .new (.cell t te.sh te.zero), []⟩
    | _, _ => none
  | .box t x => match tyOf C t, dst, e x with
    | some te, some d, some v => match unwV te.sh v with
      | some y => some ⟨.ptr d [], .new (.cell t te.sh y), []⟩
      | none => none
    | _, _, _ => none
  | .build t parts => match tyOf C t, z3f e parts.toList with
    | some te, some ps => match te.sh, te.zero with
      | .agg ss, .agg zs => match za7 ss zs ps, Nat.beq zs.length ss.length with
        | some ys, true => some ⟨.mc (.agg ss) (.agg ys), .none, []⟩
        | _, _ => none
      | .arr n s, .arr _ f => match z3n s n ((List.range n).map f) ps with
        | some ys => some ⟨.mc (.arr n s) (.arr n (fun i => ys.getD i (f 0))), .none, []⟩
        | none => none
      | _, _ => none
    | _, _ => none
  | .buildSlice t len parts => match tyOf C t, z3f e parts.toList, dst with
    | some te, some ps, some d => match te.kind with
      | .slice el => match tyOf C el with
        | some tl => match z3n tl.sh len (List.replicate len tl.zero) ps, tl.zero.isStat with
          | some ys, true => match C.layB d with
            | false => some ⟨.own d len, .new (.row el tl.sh len (fun i => ys.getD i .any)), [len * tl.sh.size <= 16777216]⟩
            | true => some ⟨.seq tl.sh len (fun i => ys.getD i .any), .none, [len * tl.sh.size <= 16777216]⟩
          | _, _ => none
        | none => none
      | _ => none
    | _, _, _ => none
  | .load t a => match tyOf C t with
    | some te => match e a with
      | some (.ptr b p) => match get st.heap b with
        | some (.cell _ sh x) => match z1m p sh, nav p sh x with
          | some s, some y => match s.same te.sh with
            | true => match z9k te.sh y with | some z => some ⟨z, .none, []⟩ | none => none
            | false => none
          | _, _ => none
        | _ => none
      | some (.optr b i p) => match get st.heap b with
        | some (.row _ sh n f) => match z1m p sh, nav p sh (f i) with
          | some s, some y => match s.same te.sh with
            | true => match z9k te.sh y with | some z => some ⟨z, .none, [i < n]⟩ | none => none
            | false => none
          | _, _ => none
        | _ => none
      | some (.rptr sh x) => match sh.same te.sh with
        | true => match z9k te.sh x with | some z => some ⟨z, .none, []⟩ | none => none
        | false => none
      | _ => none
    | none => none
  | .store t a v => match tyOf C t, e v, dst with
    | some te, some v, none => match unwV te.sh v with
      | some y => match e a with
        | some (.ptr b p) => match get st.heap b with
          | some (.cell tc sh x) => match z1m p sh, z7t p sh x y with
            | some s, some x' => match s.same te.sh with
              | true => some ⟨.any, .upd b (.cell tc sh x'), []⟩
              | false => none
            | _, _ => none
          | _ => none
        | some (.optr b i p) => match get st.heap b with
          | some (.row ty sh n f) => match z1m p sh, z7t p sh (f i) y with
            | some s, some x' => match s.same te.sh && y.isStat with
              | true => some ⟨.any, .upd b (.row ty sh n (fun j => if j = i then x' else f j)), [i < n]⟩
              | false => none
            | _, _ => none
          | _ => none
        | _ => none
      | none => none
    | _, _, _ => none
  | .nilCheck x => match e x with
    | some (.ptr b p) => some ⟨.ptr b p, .none, []⟩
    | some (.optr b i p) => some ⟨.optr b i p, .none, []⟩
    | some (.rptr s x) => some ⟨.rptr s x, .none, []⟩
    | some (.clo f l) => some ⟨.clo f l, .none, []⟩
    | _ => none
  | .binOp op t x y _ => match op with
    | .shl | .shr => match e x, e y with
      | some a, some b => za6 op a b
      | _, _ => none
    | _ => match tyOf C t, e x, e y with
      | some te, some a, some b => zjg C te op a b
      | _, _, _ => none
  | .unOp op _ x => match op, e x with
    | .not, some (.bool b) => some ⟨.bool (!b), .none, []⟩
    | .neg, some (.int k n) => some (z8j C k (0 - n))
    | _, _ => none
  | .convert src dst x => match tyOf C src, tyOf C dst, e x with
    | some ts, some td, some (.int k n) => match ts.kind, td.kind with
      | .int k0, .int k' => match decide (k0 = k) && zjh k k' with
        | true => some ⟨.int k' n, .none, []⟩
        | false => some ⟨.int k' (k'.wrap n), .none, []⟩
      | _, _ => none
    | some ts, some td, some (.str l) => match ts.kind, td.kind with
      | .string, .string => some ⟨.str l, .none, []⟩
      | _, _ => none
    | _, _, _ => none
  | .makeFunc (.func f) first captured => match first.size, z2e e captured.toList with
    | 0, some l => some ⟨.clo f l, .none, []⟩
    | _, _ => none
  | .makeSlice t ln cp => match tyOf C t, ixAV (e ln), ixAV (e cp), dst with
    | some te, some n, some c, some d => match te.kind with
      | .slice el => match tyOf C el with
        | some tl => match tl.zero.isStat with
          | true => some ⟨.own d n.toNat, .new (.row el tl.sh n.toNat (fun _ => tl.zero)), [0 <= n /\ n <= c /\ (tl.bytes : Int) * c <= 140737488355328 /\ c <= 9223372036854775807]⟩
          | false => none
        | none => none
      | _ => none
    | _, _, _, _ => none
  | .slice t x lo hi mx => match tyOf C t, e x with
    | some te, some v => match te.kind with
      | .string => match v with
        | .str l => match z71 e 0 lo, z71 e (l.length : Int) hi, mx with
          | some a, some b, none => some ⟨.str ((l.drop a.toNat).take (b - a).toNat), .none, [0 <= a /\ a <= b /\ b <= (l.length : Int)]⟩
          | _, _, _ => none
        | _ => none
      | .slice el => match tyOf C el, v with
        | some tl, .seq sh n f => match sh.same tl.sh, z71 e 0 lo, z71 e (n : Int) hi, mx with
          | true, some a, some b, none => some ⟨.seq sh (b - a).toNat (fun i => f (a.toNat + i)), .none, [0 <= a /\ a <= b /\ b <= (n : Int)]⟩
          | true, some a, some b, some m => match ixAV (e m), hi.isSome with
            | some m, true => some ⟨.seqc sh (b - a).toNat (fun i => f (a.toNat + i)), .none, [0 <= a /\ a <= b /\ b <= (n : Int) /\ m = b]⟩
            | _, _ => none
          | _, _, _, _ => none
        | some tl, .own b n => match get st.heap b with
          | some (.row _ sh _ _) => match sh.same tl.sh, z71 e 0 lo, z71 e (n : Int) hi, mx with
            | true, some 0, some h, none => some ⟨.own b h.toNat, .none, [0 <= h /\ h <= (n : Int)]⟩
            | _, _, _, _ => none
          | _ => none
        | _, _ => none
      | _ => none
    | _, _ => none
  | .fieldAddr t x f => match tyOf C t, e x with
    | some te, some v => match Nat.blt f (z6o te.kind) with
      | true => match z7d st te f v with
        | some r => some ⟨r, .none, []⟩
        | none => none
      | false => none
    | _, _ => none
  | .field t x f => match tyOf C t, e x with
    | some te, some (.mc (.agg ss) (.agg xs)) => match (Shape.agg ss).same te.sh && Nat.blt f (z6o te.kind), ss[f]?, xs[f]? with
      | true, some s, some y => match z9k s y with | some z => some ⟨z, .none, []⟩ | none => none
      | _, _, _ => none
    | _, _ => none
  | .indexAddr t x ix => match tyOf C t, e x, ixAV (e ix) with
    | some te, some v, some i => match te.kind with
      | .slice el => match tyOf C el with
        | some tl => match v with
          | .seq sh n f | .seqc sh n f | .nseq _ sh n f => match sh.same tl.sh with
            | true => some ⟨.rptr sh (f i.toNat), .none, [inIx i n]⟩
            | false => none
          | .own b n => match get st.heap b with
            | some (.row _ sh _ _) => match sh.same tl.sh with
              | true => some ⟨.optr b i.toNat [], .none, [inIx i n]⟩
              | false => none
            | _ => none
          | _ => none
        | none => none
      | .arr n _ => match v with
        | .ptr b p => match zik st b p with
          | some s => match s.same te.sh with
            | true => some ⟨.ptr b (p ++ [i.toNat]), .none, [inIx i n]⟩
            | false => none
          | none => none
        | .optr b k p => match rowSh st b p with
          | some s => match s.same te.sh with
            | true => some ⟨.optr b k (p ++ [i.toNat]), .none, [inIx i n]⟩
            | false => none
          | none => none
        | .rptr (.arr m s) (.arr _ f) => match (Shape.arr m s).same te.sh with
          | true => some ⟨.rptr s (f i.toNat), .none, [inIx i n]⟩
          | false => none
        | _ => none
      | _ => none
    | _, _, _ => none
  | .index t x ix => match tyOf C t, e x, ixAV (e ix) with
    | some te, some v, some i => match te.kind, v with
      | .string, .str l => some ⟨.int .u8 ((l.getD i.toNat 0).toNat : Int), .none, [inIx i l.length]⟩
      | .arr n _, .mc (.arr m s) (.arr _ f) => match (Shape.arr m s).same te.sh with
        | true => match z9k s (f i.toNat) with | some z => some ⟨z, .none, [inIx i n]⟩ | none => none
        | false => none
      | _, _ => none
    | _, _, _ => none
  | .extract x i => match e x with
    | some (.tup l) => match l[i]? with | some v => some ⟨v, .none, []⟩ | none => none
    | _ => none
  | .call c => match c.callee with
    | .builtin .len => match c.args.toList, c.argTypes.toList with
      | [x], [t] => match tyOf C t, e x with
        | some te, some v => match te.kind with
          | .slice _ => match zre v with | some n => some ⟨.int .i64 (n : Int), .none, [(n : Int) <= 9223372036854775807]⟩ | none => none
          | .string => match v with | .str l => some ⟨.int .i64 (l.length : Int), .none, [(l.length : Int) <= 9223372036854775807]⟩ | _ => none
          | .arr n _ => match Nat.ble n 9223372036854775807 with | true => some ⟨.int .i64 (n : Int), .none, []⟩ | false => none
          | _ => none
        | _, _ => none
      | _, _ => none
    | .builtin .append => match c.args.toList, c.argTypes.toList, dst with
      | [x, y], [t, t'], some d => match tyOf C t, Nat.beq t t', e x, e y with
        | some te, true, some v, some u => match te.kind with
          | .slice el => match tyOf C el with
            | some tl =>
              match (match u with
                | .seq sh m g | .seqc sh m g => some (sh, m, g, [])
                | .own b m => match get st.heap b with | some (.row _ sh n' g) => some (sh, m, g, [m <= n']) | _ => none
                | .nils => some (tl.sh, 0, (fun _ => AV.any), [])
                | _ => none : Option (Shape × Nat × (Nat -> AV) × List Prop)) with
              | some (su, m, g, ps) => match su.same tl.sh && tl.zero.isStat, v with
                | true, .nils => some ⟨.own d m, .new (.row el su m g), ((m : Int) * tl.bytes <= 140737488355328 /\ m <= 9223372036854775807) :: ps⟩
                | true, .seqc sh n f => match sh.same su with
                  | true => some ⟨.own d (n + m), .new (.row el su (n + m) (fun i => if i < n then f i else g (i - n))), (0 < m /\ ((n + m : Nat) : Int) * tl.bytes <= 140737488355328 /\ n + m <= 9223372036854775807) :: ps⟩
                  | false => none
                | true, .own b n => match get st.heap b with
                  | some (.row ty sh n' f) => match Nat.beq ty el && sh.same su && (match u with | .own b' _ => !Nat.beq b b' | _ => true) with
                    | true => some ⟨.own b (n + m), .grow b (.row ty sh (n + m) (fun i => if i < n then f i else g (i - n))), (n = n' /\ ((n + m : Nat) : Int) * tl.bytes <= 140737488355328 /\ n + m <= 9223372036854775807) :: ps⟩
                    | false => none
                  | _ => none
                | _, _ => none
              | none => none
            | none => none
          | _ => none
        | _, _, _, _ => none
      | _, _, _ => none
    | .builtin .copy => match c.args.toList, c.argTypes.toList with
      | [x, y], [t, t'] => match tyOf C t, tyOf C t', e x, e y with
        | some te, some te', some (.own b n), some u => match te.kind, te'.kind with
          | .slice el, .slice el' => match tyOf C el, Nat.beq el el', get st.heap b with
            | some tl, true, some (.row ty sh n' f) =>
              match (match u with
                | .seq su m g | .seqc su m g => some (su, m, g)
                | .nils => some (tl.sh, 0, fun _ => AV.any)
                | _ => none : Option (Shape × Nat × (Nat -> AV))) with
              | some (su, m, g) => match su.same tl.sh && sh.same tl.sh with
                | true => some ⟨.int .i64 ((min m n : Nat) : Int), .upd b (.row ty sh n' (fun i => if i < min m n then g i else f i)), [n <= n' /\ (n : Int) <= 9223372036854775807]⟩
                | false => none
              | none => none
            | _, _, _ => none
          | _, _ => none
        | _, _, _, _ => none
      | _, _ => none
    | .builtin .min => match c.args.toList with
      | [x, y] => match e x, e y with
        | some (.int k a), some (.int k' b) => match decide (k = k') with | true => some ⟨.int k (if b < a then b else a), .none, []⟩ | false => none
        | _, _ => none
      | _ => none
    | .builtin .max => match c.args.toList with
      | [x, y] => match e x, e y with
        | some (.int k a), some (.int k' b) => match decide (k = k') with | true => some ⟨.int k (if a < b then b else a), .none, []⟩ | false => none
        | _, _ => none
      | _ => none
    | .value fx => match mkAt C fx dst with
      | some (f, d) => match z2e e c.args.toList with
        | some as => zgx C f d as
        | none => none
      | none => match e fx, z2e e c.args.toList with
        | some (.clo f caps), some args => match frzs st.heap (args ++ caps) with
          | some (as, ps) => match orc f as with
            | some r => match r.isScalar || (AV.areStat (args ++ caps) && r.isRes) with
              | true => some ⟨r, .none, CC f as r :: ps⟩
              | false => none
            | none => none
          | none => none
        | _, _ => none
    | _ => none
  | _ => none
def zq (st : St) (dst : Option Nat) : Eff -> Option St
  | .none => some st
  | .new c => match dst with
    | some d => match z18 st d && !c.names d with
      | true => some { st with heap := put st.heap d c }
      | false => none
    | none => none
  | .upd b c => some { st with heap := put st.heap b c }
  | .grow b c => some { env := z5t b st.env, heap := put (z4c b st.heap) b c }
def z5v (st : St) (dst : Option Nat) (v : AV) : St :=
  match dst with
  | some d => { st with env := put st.env d v }
  | none => st
def ze1 : Eff -> Bool
  | .none => true
  | _ => false
def zn4 (C : Cfg) : Option Nat -> Bool
  | some d => Nat.blt d C.ntmps
  | none => true
def z2k (C : Cfg) (st : St) : List Operand -> List Prop
  | [] => []
  | x :: l => match ev C st x with
    | some v => z95 v ++ z2k C st l
    | none => z2k C st l
def evS (C : Cfg) (st : St) (x : Operand) : Option AV := match ev C st x with | some v => some (strip1 v) | none => none
def impl (q : Bool) : List Prop -> List Prop
  | [] => []
  | p :: l => (q = true -> p) :: impl q l
def zfm (C : Cfg) (st : St) (p : Bool) (c a b : Operand) : List Prop :=
  (match ev C st c with | some v => z95 v | none => []) ++ impl p (match ev C st a with | some v => z95 v | none => []) ++ impl (!p) (match ev C st b with | some v => z95 v | none => [])
def z2l (C : Cfg) (CC : FuncId -> List AV -> AV -> Prop) (orc : FuncId -> List AV -> Option AV) (st : St) (o : Oper) : Option Res :=
  match o.op with
  | .pick c a b => match evS C st c, evS C st a, evS C st b with
    | some (.bool p), some x, some y => match zjf p (zgw a) (zcn b) x y with
      | some v => some ⟨v, .none, zfm C st p c a b⟩
      | none => none
    | _, _, _ => none
  | op => match zj C st (evS C st) o.dst orc CC op with
    | some r => some { r with obs := z2k C st op.operands.toList ++ r.obs }
    | none => none
def z7e (_ : Cfg) (st : St) (ops : List Oper) (g : Nat × Bool) : Option Bool :=
  match ops[g.1]? with
  | some o => match o.dst with
    | some d => match get st.env d with
      | some (.bool p) => some (match g.2 with | true => p | false => !p)
      | some (.when q (.bool p)) => some (q && (match g.2 with | true => p | false => !p))
      | _ => none
    | none => none
  | none => none
def z1x (C : Cfg) (CC : FuncId -> List AV -> AV -> Prop) (orc : FuncId -> List AV -> Option AV) (ops : List Oper) (st : St) (o : Oper) : Option (St × List Prop) :=
  match zn4 C o.dst with
  | false => none
  | true => match o.guard with
    | none => match z2l C CC orc st o with
      | some r => match zq st o.dst r.eff with
        | some st' => some (z5v st' o.dst r.val, r.obs)
        | none => none
      | none => none
    | some g => match z7e C st ops g with
      | some q => match z2l C CC orc st o with
        | some r => match ze1 r.eff with
          | true => some (z5v st o.dst (.when q r.val), impl q r.obs)
          | false => none
        | none => none
      | none => none
def z5m (C : Cfg) (CC : FuncId -> List AV -> AV -> Prop) (orc : Nat -> FuncId -> List AV -> Option AV) (all : List Oper) : List Oper -> Nat -> St -> Option (St × List Prop)
  | [], _, st => some (st, [])
  | o :: rest, i, st => match z1x C CC (orc i) all st o with
    | some (st', ps) => match z5m C CC orc all rest (i + 1) st' with
      | some (st'', qs) => some (st'', ps ++ qs)
      | none => none
    | none => none
end Go.AV
