import Derived.Test.YtgcpdfihjmmggaaGreatDoorXa
import Derived.Maps.AppendAt
import Derived.Deep.Draws
import Derived.Laws.OwnMore
namespace Go.AV
open Go.RowKit
theorem zx {α : Type} (l : List (Nat × α)) (s : Nat) (v : α) : get (put l s v) s = some v := by
  simp [put, get]
theorem ze2 {α : Type} (l : List (Nat × α)) (s : Nat) : get (del l s) s = none := by
  induction l with
  | nil => rfl
  | cons p l ih =>
    obtain ⟨k, v⟩ := p
    simp only [del]
    split
    . exact ih
    . rename_i h; simp only [get, h]; exact ih
theorem z52 {α : Type} (l : List (Nat × α)) (s t : Nat) (h : t ≠ s) : get (del l s) t = get l t := by
  induction l with
  | nil => rfl
  | cons p l ih =>
    obtain ⟨k, v⟩ := p
    simp only [del]
    split
    . rename_i hk
      have := Nat.eq_of_beq_eq_true hk
      subst this
      rw [ih]
      have : Nat.beq k t = false := by
        cases e : Nat.beq k t with
        | false => rfl
        | true => exact absurd (Nat.eq_of_beq_eq_true e).symm h
      simp [get, this]
    . simp only [get]; split <;> first | rfl | exact ih
theorem zc {α : Type} (l : List (Nat × α)) (s t : Nat) (v : α) (h : t ≠ s) : get (put l s v) t = get l t := by
  have : Nat.beq s t = false := by
    cases e : Nat.beq s t with
    | false => rfl
    | true => exact absurd (Nat.eq_of_beq_eq_true e).symm h
  simp only [put, get, this]
  exact z52 l s t h
structure Kept (L : Nat -> Prop) (w w' : World) : Prop where
  os : w'.os = w.os
  tape : w'.tape = w.tape
  output : w'.output = w.output
  size : w.heap.size <= w'.heap.size
  block : ∀ k, k < w.heap.size -> ¬ L k -> w'.heap[k]? = w.heap[k]?
theorem Kept.refl (L : Nat -> Prop) (w : World) : Kept L w w := ⟨rfl, rfl, rfl, Nat.le_refl _, fun _ _ _ => rfl⟩
theorem Kept.trans {L L' : Nat -> Prop} {a b c : World} (h : Kept L a b) (k : Kept L' b c) (hL : ∀ i, L' i -> i < a.heap.size -> L i) : Kept L a c :=
  ⟨k.os.trans h.os, k.tape.trans h.tape, k.output.trans h.output, Nat.le_trans h.size k.size, fun i hi hn => (k.block i (Nat.lt_of_lt_of_le hi h.size) fun hl => hn (hL i hl hi)).trans (h.block i hi hn)⟩
theorem Kept.below {L : Nat -> Prop} {a b c : World} (h : Kept L a b) (k : Below b.heap.size b c) : Kept L a c :=
  h.trans (L' := fun _ => False) ⟨k.os, k.tape, k.output, k.size, fun i hi _ => k.block i hi⟩ fun _ hf => hf.elim
theorem Kept.toBelow {a b : World} (h : Kept (fun _ => False) a b) : Below a.heap.size a b := ⟨h.os, h.tape, h.output, h.size, fun k hk => h.block k hk fun hf => hf⟩
structure Entry where
  w : World
  L : Nat -> Prop
  A : Nat -> Option Place
  D : List Deferred := []
def Entry.B (E : Entry) (k : Nat) : Prop := E.w.heap.size <= k ∨ E.L k
def Entry.of (w : World) : Entry := ⟨w, fun _ => False, fun _ => none, []⟩
def z1i (w : World) (F : Nat -> Prop) (φ : Nat -> Place) (B : Nat -> Prop) (b : Nat) : BoxC -> Prop
  | .cell tc sh x => (φ b).sh = sh /\ ∃ g cs, (φ b).blk = some g /\ B g /\ ¬ F g /\ w.heap[g]? = some (.cells cs tc (0, 0)) /\ cs.size = sh.size /\
      ∀ j, j < sh.size -> Rep w F φ (cs.getD j undef) (z6 sh x j)
  | .row ty sh n f => (φ b).sh = sh /\ (φ b).ty = ty /\ (((φ b).blk = none /\ n = 0) ∨ ∃ g cs, (φ b).blk = some g /\ B g /\ ¬ F g /\ w.heap[g]? = some (.cells cs ty (0, 0)) /\
      cs.size = (φ b).cap * sh.size /\ n <= (φ b).cap /\ (φ b).cap <= maxLen /\ ∀ i, i < n -> ∀ j, j < sh.size -> RepS w F (cs.getD (i * sh.size + j) undef) (z6 sh (f i) j))
structure Rel (C : Cfg) (W0 : Entry) (F0 : Nat -> Prop) (st : St) (a : Act) (w : World) (F : Nat -> Prop) (φ : Nat -> Place) : Prop where
  env : ∀ s x, get st.env s = some x -> ∃ v, a.tmps[s]? = some v /\ Rep w F φ v x
  heap : ∀ b c, get st.heap b = some c -> z1i w F φ W0.B b c
  inj : ∀ b b' c c' g, get st.heap b = some c -> get st.heap b' = some c' -> (φ b).blk = some g -> (φ b').blk = some g -> b = b'
  ro : ∀ k, F k -> k < w.heap.size
  base : Kept W0.L W0.w w
  sub : ∀ k, F0 k -> F k
  new : ∀ k, F k -> F0 k ∨ W0.B k
  dfr : a.defers = W0.D
  tsz : a.tmps.size = C.ntmps
  glob : ∀ g x, get C.G g = some x -> RepS w F (.pointer (some ⟨g, 0, none⟩)) x
  anc : ∀ b p, W0.A b = some p -> 1099511627776 <= b /\ φ b = p /\ ∀ c, get st.heap b = some c -> c.isRow = false
theorem z1i.lt {w : World} {F : Nat -> Prop} {φ : Nat -> Place} {base : Nat -> Prop} {b g : Nat} {c : BoxC} (h : z1i w F φ base b c) (hg : (φ b).blk = some g) : g < w.heap.size /\ ¬ F g /\ base g := by
  cases c with
  | cell tc sh x =>
    obtain ⟨_, g', cs, h1, h2, h3, h4, _⟩ := h
    rw [hg] at h1; cases h1
    exact ⟨(Array.getElem?_eq_some_iff.1 h4).1, h3, h2⟩
  | row ty sh n f =>
    obtain ⟨_, _, ⟨h1, _⟩ | ⟨g', cs, h1, h2, h3, h4, _⟩⟩ := h
    . rw [hg] at h1; cases h1
    . rw [hg] at h1; cases h1
      exact ⟨(Array.getElem?_eq_some_iff.1 h4).1, h3, h2⟩
theorem z1i.keep {w w' : World} {F F' : Nat -> Prop} {φ φ' : Nat -> Place} {base : Nat -> Prop} {b : Nat} {c : BoxC} (h : z1i w F φ base b c) (hw : ∀ k, F k -> w'.heap[k]? = w.heap[k]?) (hF : ∀ k, F k -> F' k)
    (hg : ∀ g, (φ b).blk = some g -> w'.heap[g]? = w.heap[g]? /\ ¬ F' g) (hb : φ' b = φ b) (hφ : ∀ d, c.names d = true -> φ' d = φ d) : z1i w' F' φ' base b c := by
  cases c with
  | cell tc sh x =>
    obtain ⟨h0, g, cs, h1, h2, h3, h4, h5, h6⟩ := h
    refine ⟨by rw [hb]; exact h0, g, cs, by rw [hb]; exact h1, h2, (hg g h1).2, (hg g h1).1.trans h4, h5, fun j hj => ?_⟩
    exact (h6 j hj).keep hw hF fun d hd => hφ d (by simp only [BoxC.names]; exact z32 sh x j hd)
  | row ty sh n f =>
    obtain ⟨h0, h0', h⟩ := h
    refine ⟨by rw [hb]; exact h0, by rw [hb]; exact h0', ?_⟩
    rw [hb]
    rcases h with h | ⟨g, cs, h1, h2, h3, h4, h5, h6, h7, h8⟩
    . exact .inl h
    . exact .inr ⟨g, cs, h1, h2, (hg g h1).2, (hg g h1).1.trans h4, h5, h6, h7, fun i hi j hj => (h8 i hi j hj).keep hw hF⟩
section
variable {C : Cfg} {W0 : Entry} {F0 : Nat -> Prop} {st : St} {a : Act} {w : World} {F : Nat -> Prop} {φ : Nat -> Place}
theorem Rel.bnew (h : Rel C W0 F0 st a w F φ) {k : Nat} (hk : w.heap.size <= k) : W0.B k := .inl (Nat.le_trans h.base.size hk)
theorem Rel.grown (h : Rel C W0 F0 st a w F φ) {w' : World} {F' : Nat -> Prop} (hb : Below w.heap.size w w') (hF : ∀ k, F k -> F' k) (hn : ∀ k, F' k -> F k ∨ w.heap.size <= k) (hl : ∀ k, F' k -> k < w'.heap.size) :
    Rel C W0 F0 st a w' F' φ := by
  have hk : ∀ k, F k -> w'.heap[k]? = w.heap[k]? := fun k hk => hb.block k (h.ro k hk)
  refine ⟨fun s x hs => ?_, fun b c hc => ?_, h.inj, hl, h.base.below hb, fun k hk => hF k (h.sub k hk), fun k hk => ?_, h.dfr, h.tsz, fun g x hg => (h.glob g x hg).keep hk hF, h.anc⟩
  . obtain ⟨v, hv, hr⟩ := h.env s x hs
    exact ⟨v, hv, hr.keep hk hF fun _ _ => rfl⟩
  . have hc' := h.heap b c hc
    refine hc'.keep hk hF (fun g hg => ?_) rfl fun _ _ => rfl
    obtain ⟨h1, h2, _⟩ := hc'.lt hg
    refine ⟨hb.block g h1, fun h3 => ?_⟩
    rcases hn g h3 with h4 | h4
    . exact h2 h4
    . omega
  . rcases hn k hk with h1 | h1
    . exact h.new k h1
    . have := h.base.size; exact .inr (.inl (by omega))
theorem Rel.putV (h : Rel C W0 F0 st a w F φ) {d : Nat} {v : Value} {x : AV} (hd : d < C.ntmps) (hv : Rep w F φ v x) : Rel C W0 F0 { st with env := put st.env d x } (a.put (some d) v) w F φ := by
  refine ⟨fun s y hs => ?_, h.heap, h.inj, h.ro, h.base, h.sub, h.new, h.dfr, by simp [Act.put, h.tsz], h.glob, h.anc⟩
  by_cases e : s = d
  . subst e
    rw [zx] at hs
    cases hs
    exact ⟨v, by simp [Act.put, h.tsz, hd], hv⟩
  . simp only [zc _ _ _ _ e] at hs
    obtain ⟨u, hu, hr⟩ := h.env s y hs
    refine ⟨u, ?_, hr⟩
    simp only [Act.put]
    rw [Array.getElem?_setIfInBounds_ne (Ne.symm e)]
    exact hu
theorem Rel.putU (h : Rel C W0 F0 st a w F φ) (d : Nat) (v : Value) : Rel C W0 F0 { st with env := del st.env d } (a.put (some d) v) w F φ := by
  refine ⟨fun s y hs => ?_, h.heap, h.inj, h.ro, h.base, h.sub, h.new, h.dfr, by simp [Act.put, h.tsz], h.glob, h.anc⟩
  by_cases e : s = d
  . subst e; simp [ze2] at hs
  . simp only [z52 _ _ _ e] at hs
    obtain ⟨u, hu, hr⟩ := h.env s y hs
    refine ⟨u, ?_, hr⟩
    simp only [Act.put]
    rw [Array.getElem?_setIfInBounds_ne (Ne.symm e)]
    exact hu
theorem z33 {b : Nat} : ∀ {l : List (Nat × AV)} {s : Nat} {x : AV}, get l s = some x -> z6n b l = false -> x.names b = false
  | [], _, _, h, _ => by simp [get] at h
  | (k, v) :: l, s, x, h, hn => by
    simp only [z6n, Bool.or_eq_false_iff] at hn
    simp only [get] at h
    split at h
    . cases h; exact hn.1
    . exact z33 h hn.2
theorem z1y {b : Nat} : ∀ {l : List (Nat × BoxC)} {s : Nat} {c : BoxC}, get l s = some c -> z4o b l = false -> c.names b = false /\ s ≠ b
  | [], _, _, h, _ => by simp [get] at h
  | (k, v) :: l, s, x, h, hn => by
    simp only [z4o, Bool.or_eq_false_iff] at hn
    simp only [get] at h
    split at h
    . rename_i hk
      cases h
      have := Nat.eq_of_beq_eq_true hk
      subst this
      refine ⟨hn.1.2, fun e => ?_⟩
      subst e
      simp at hn
    . exact z1y h hn.2
theorem z17 (φ : Nat -> Place) (d : Nat) (pl : Place) {b : Nat} (h : b ≠ d) : (fun k => if k = d then pl else φ k) b = φ b := by simp [h]
theorem zfn {W0 : Entry} {st : St} {φ : Nat -> Place} (h : ∀ b p, W0.A b = some p -> 1099511627776 <= b /\ φ b = p /\ ∀ c, get st.heap b = some c -> c.isRow = false) {d : Nat} {c : BoxC} {pl : Place} (hd : (!Nat.blt d 1099511627776) = false) :
    ∀ b p, W0.A b = some p -> 1099511627776 <= b /\ (fun k => if k = d then pl else φ k) b = p /\ ∀ c', get (put st.heap d c) b = some c' -> c'.isRow = false := by
  intro b p hb
  obtain ⟨h1, h2, h3⟩ := h b p hb
  have hd : d < 1099511627776 := by
    cases e : Nat.blt d 1099511627776 with
    | false => rw [e] at hd; cases hd
    | true => exact Nat.le_of_ble_eq_true e
  have hne : b ≠ d := by omega
  exact ⟨h1, by simp only [hne, if_false]; exact h2, fun c' hc' => h3 c' (by rwa [zc _ _ _ _ hne] at hc')⟩
theorem Rel.newBox (h : Rel C W0 F0 st a w F φ) {d : Nat} {c : BoxC} (hf : z18 st d = true) (hc : c.names d = false) (o : Obj) (pl : Place) (hpl : pl.blk = some w.heap.size)
    (hB : z1i (w.alloc o) F (fun k => if k = d then pl else φ k) W0.B d c) :
    Rel C W0 F0 { st with heap := put st.heap d c } a (w.alloc o) F (fun k => if k = d then pl else φ k) := by
  simp only [z18, Bool.not_eq_true', Bool.or_eq_false_iff] at hf
  obtain ⟨fe, fh, fl⟩ := hf
  have hk : ∀ k, F k -> (w.alloc o).heap[k]? = w.heap[k]? := fun k hk => Below.heap_alloc w o k (h.ro k hk)
  refine ⟨fun s x hs => ?_, fun b c' hc' => ?_, ?_, fun k hk => ?_, h.base.below ⟨rfl, rfl, rfl, by simp, fun k hk => Below.heap_alloc w o k hk⟩, h.sub, h.new, h.dfr, h.tsz, fun g x hg => (h.glob g x hg).keep hk fun _ hk => hk, zfn h.anc fl⟩
  . obtain ⟨v, hv, hr⟩ := h.env s x hs
    refine ⟨v, hv, hr.keep hk (fun _ hk => hk) fun b hb => z17 φ d pl fun e => ?_⟩
    subst e
    rw [z33 hs fe] at hb; cases hb
  . by_cases e : b = d
    . subst e
      rw [zx] at hc'
      cases hc'
      exact hB
    . rw [zc _ _ _ _ e] at hc'
      have hb := h.heap b c' hc'
      refine hb.keep hk (fun _ hk => hk) (fun g hg => ?_) (z17 φ d pl e) fun b' hb' => z17 φ d pl fun e => ?_
      . obtain ⟨h1, h2, _⟩ := hb.lt hg
        exact ⟨Below.heap_alloc w o g h1, h2⟩
      . subst e
        rw [(z1y hc' fh).1] at hb'; cases hb'
  . intro b b' c1 c2 g h1 h2 h3 h4
    by_cases e : b = d
    . by_cases e' : b' = d
      . omega
      . rw [zc _ _ _ _ e'] at h2
        simp only [e, if_true] at h3
        simp only [e', if_false] at h4
        rw [hpl] at h3
        cases h3
        have := ((h.heap b' c2 h2).lt h4).1
        omega
    . rw [zc _ _ _ _ e] at h1
      simp only [e, if_false] at h3
      by_cases e' : b' = d
      . simp only [e', if_true] at h4
        rw [hpl] at h4
        cases h4
        have := ((h.heap b c1 h1).lt h3).1
        omega
      . rw [zc _ _ _ _ e'] at h2
        simp only [e', if_false] at h4
        exact h.inj b b' c1 c2 g h1 h2 h3 h4
  . have := h.ro k hk
    simp; omega
theorem Rel.setBox (h : Rel C W0 F0 st a w F φ) {b g : Nat} {c c' : BoxC} {w' : World} (hb : get st.heap b = some c) (hg : (φ b).blk = some g) (hos : w'.os = w.os) (ht : w'.tape = w.tape) (ho : w'.output = w.output)
    (hs : w'.heap.size = w.heap.size) (hw : ∀ k, k ≠ g -> w'.heap[k]? = w.heap[k]?) (hkd : c'.isRow = c.isRow) (hB : z1i w' F φ W0.B b c') :
    Rel C W0 F0 { st with heap := put st.heap b c' } a w' F φ := by
  obtain ⟨g1, g2, g3⟩ := (h.heap b c hb).lt hg
  have hk : ∀ k, F k -> w'.heap[k]? = w.heap[k]? := fun k hk => hw k fun e => g2 (e ▸ hk)
  refine ⟨fun s x hx => ?_, fun b' c1 hc1 => ?_, ?_, fun k hk => by rw [hs]; exact h.ro k hk, h.base.trans (L' := fun k => k = g) ⟨hos, ht, ho, by omega, fun k _ hk => hw k hk⟩ (fun i hi hlt => by subst hi; exact g3.resolve_left (by omega)), h.sub, h.new, h.dfr, h.tsz, fun g x hg => (h.glob g x hg).keep hk fun _ hk => hk, fun b' p hp => ?_⟩
  . obtain ⟨v, hv, hr⟩ := h.env s x hx
    exact ⟨v, hv, hr.keep hk (fun _ hk => hk) fun _ _ => rfl⟩
  . by_cases e : b' = b
    . subst e
      rw [zx] at hc1
      cases hc1
      exact hB
    . rw [zc _ _ _ _ e] at hc1
      have hb' := h.heap b' c1 hc1
      refine hb'.keep hk (fun _ hk => hk) (fun g' hg' => ?_) rfl fun _ _ => rfl
      exact ⟨hw g' fun e' => e (h.inj b' b c1 c g hc1 hb (e' ▸ hg') hg), (hb'.lt hg').2.1⟩
  . intro b1 b2 c1 c2 g' h1 h2 h3 h4
    have i1 : ∃ c1', get st.heap b1 = some c1' := by
      by_cases e : b1 = b
      . exact ⟨c, e ▸ hb⟩
      . rw [zc _ _ _ _ e] at h1; exact ⟨c1, h1⟩
    have i2 : ∃ c2', get st.heap b2 = some c2' := by
      by_cases e : b2 = b
      . exact ⟨c, e ▸ hb⟩
      . rw [zc _ _ _ _ e] at h2; exact ⟨c2, h2⟩
    obtain ⟨c1', i1⟩ := i1
    obtain ⟨c2', i2⟩ := i2
    exact h.inj b1 b2 c1' c2' g' i1 i2 h3 h4
  . obtain ⟨a1, a2, a3⟩ := h.anc b' p hp
    refine ⟨a1, a2, fun c1 hc1 => ?_⟩
    by_cases e : b' = b
    . subst e
      rw [zx] at hc1
      cases hc1
      rw [hkd]; exact a3 c hb
    . rw [zc _ _ _ _ e] at hc1; exact a3 c1 hc1
end
end Go.AV
namespace Go.AV
open Go.RowKit
def z5n (C : Cfg) (sh : Shape) (d : TypeDesc) : TyK -> Prop
  | .int k => d = .int k /\ sh = .leaf
  | .bool => d = .bool /\ sh = .leaf
  | .string => d = .string /\ sh = .leaf
  | .slice e => d = .slice e /\ sh = .leaf
  | .arr n e => d = .array n e /\ ∃ te, tyOf C e = some te /\ sh = .arr n te.sh
  | .struct fs => ∃ fields : Array Field, ∃ ss, d = .struct fields /\ sh = .agg ss /\ ss.length = fs.length /\ fs = fields.toList.map (·.type) /\
      ∀ i : Nat, ∀ f : Field, fields[i]? = some f -> ∃ te, tyOf C f.type = some te /\ ss[i]? = some te.sh /\ f.offset = Shape.sizes (ss.take i) /\ f.name ≠ "_"
  | .other => sh = .leaf /\ (match d with | .struct _ | .array _ _ => False | _ => True)
def z7v (v : Value) : AV -> Prop
  | .any => v.oneCell' = true
  | .int k n => v = .int k n /\ InR k n
  | .bool b => v = .bool b
  | .str l => v = .string ⟨l.toArray⟩
  | .nils => v = .slice none 0 0
  | .nilp => v = .pointer none
  | .st x => z7v v x
  | _ => False
structure TyOK (C : Cfg) (t : TypeId) (te : TyE) : Prop where
  info : ∃ d i z, C.P.underlying t = some d /\ C.P.info? t = some i /\ i.size = te.sh.size /\ i.bytes = te.bytes /\ i.zero = some z /\ z.cells.size = te.sh.size /\ z5n C te.sh d te.kind /\
    ∀ j, j < te.sh.size -> z7v (z.cells.getD j undef) (z6 te.sh te.zero j)
  pos : 0 < te.sh.size
  zst : te.zero.isStat = true
  eqs : te.eqs = true -> C.P.eqGuardType C.P.depth t = false /\ C.P.stoodInHeld t = false /\ ((∃ fs, te.kind = .struct fs /\
    ∀ e ∈ fs, ∃ tf, tyOf C e = some tf /\ tf.sh = .leaf /\ ((∃ k, tf.kind = .int k) ∨ tf.kind = .bool ∨ tf.kind = .string)) ∨
    ∃ n e tf, te.kind = .arr n e /\ tyOf C e = some tf /\ tf.sh = .leaf)
def z7w : List Nat -> List Nat -> Bool
  | [], [] => true
  | a :: l, b :: m => Nat.beq a b && z7w l m
  | _, _ => false
theorem za8 : ∀ {l m : List Nat}, z7w l m = true -> l = m
  | [], [], _ => rfl
  | a :: l, b :: m, h => by
    simp only [z7w, Bool.and_eq_true] at h
    rw [Nat.eq_of_beq_eq_true h.1, za8 h.2]
  | [], _ :: _, h | _ :: _, [], h => by simp [z7w] at h
def z23 (C : Cfg) (sh : Shape) (d : TypeDesc) : TyK -> Bool
  | .int k => match d, sh with | .int k', .leaf => decide (k' = k) | _, _ => false
  | .bool => match d, sh with | .bool, .leaf => true | _, _ => false
  | .string => match d, sh with | .string, .leaf => true | _, _ => false
  | .slice e => match d, sh with | .slice e', .leaf => Nat.beq e' e | _, _ => false
  | .arr n e => match d, sh with
    | .array n' e', .arr m s => Nat.beq n' n && (Nat.beq e' e && (Nat.beq m n && (match tyOf C e with | some te => s.same te.sh | none => false)))
    | _, _ => false
  | .struct fs => match d, sh with
    | .struct fields, .agg ss => Nat.beq ss.length fs.length && (z7w fs (fields.toList.map (·.type)) && fieldsCheck C fields.toList ss 0)
    | _, _ => false
  | .other => match d, sh with | .struct _, _ => false | .array _ _, _ => false | _, .leaf => true | _, _ => false
  where
  fieldsCheck (C : Cfg) : List Field -> List Shape -> Nat -> Bool
    | [], _, _ => true
    | f :: fs, s :: ss, off => Nat.beq f.offset off && (decide (f.name ≠ "_") && ((match tyOf C f.type with | some te => s.same te.sh | none => false) && fieldsCheck C fs ss (off + s.size)))
    | _ :: _, [], _ => false
def zco (C : Cfg) (t : TypeId) (te : TyE) : Bool :=
  match te.eqs with
  | false => true
  | true => (!C.P.eqGuardType C.P.depth t) && ((!C.P.stoodInHeld t) && (match te.kind with
    | .struct fs => fs.all fun e => match tyOf C e with
      | some tf => match tf.kind, tf.sh with
        | .int _, .leaf | .bool, .leaf | .string, .leaf => true
        | _, _ => false
      | none => false
    | .arr _ e => match tyOf C e with
      | some tf => match tf.sh with
        | .leaf => true
        | _ => false
      | none => false
    | _ => false))
def z2t (v : Value) : AV -> Bool
  | .any => v.oneCell'
  | .int k n => match v with | .int k' n' => decide (k' = k) && (decide (n' = n) && decide (k.wrap n = n)) | _ => false
  | .bool b => match v with | .bool b' => (match b, b' with | true, true | false, false => true | _, _ => false) | _ => false
  | .str l => match v with | .string s => (match s.data.toList, l with | [], [] => true | _, _ => false) | _ => false
  | .nils => match v with | .slice none 0 0 => true | _ => false
  | .nilp => match v with | .pointer none => true | _ => false
  | .st x => z2t v x
  | _ => false
def z6p (z : Array Value) (sh : Shape) (x : AV) : Nat -> Bool
  | 0 => true
  | j + 1 => z2t (z.getD j undef) (z6 sh x j) && z6p z sh x j
def zfo (C : Cfg) (t : TypeId) (te : TyE) : Bool :=
  match C.P.underlying t, C.P.info? t with
  | some d, some i => match i.zero with
    | some z => Nat.beq i.size te.sh.size && (Nat.beq i.bytes te.bytes && (Nat.beq z.cells.size te.sh.size && (z23 C te.sh d te.kind && (z6p z.cells te.sh te.zero te.sh.size && (Nat.blt 0 te.sh.size && (te.zero.isStat && zco C t te))))))
    | none => false
  | _, _ => false
theorem z96 {v : Value} : ∀ {x : AV}, z2t v x = true -> z7v v x
  | .any, h => h
  | .int k n, h => by
    cases v <;> simp [z2t] at h
    obtain ⟨rfl, rfl, h⟩ := h
    exact ⟨rfl, h⟩
  | .bool b, h => by
    cases v <;> simp [z2t] at h
    rename_i b'
    cases b <;> cases b' <;> simp_all [z7v]
  | .str l, h => by
    cases v <;> simp [z2t] at h
    rename_i s
    split at h
    . rename_i h1
      show Value.string s = .string ⟨([] : List UInt8).toArray⟩
      congr 1
      obtain ⟨⟨d⟩⟩ := s
      simp at h1
      subst h1
      rfl
    . cases h
  | .nils, h => by
    unfold z2t at h
    split at h <;> first | rfl | cases h
  | .nilp, h => by
    unfold z2t at h
    split at h <;> first | rfl | cases h
  | .st x, h => by
    simp only [z7v]
    exact z96 (by simpa [z2t] using h)
  | .seq _ _ _, h | .seqc _ _ _, h | .nseq _ _ _ _, h | .cov _, h | .rptr _ _, h | .own _ _, h | .ptr _ _, h | .optr _ _ _, h | .clo _ _, h | .agg _, h | .arr _ _, h | .mc _ _, h | .tup _, h | .when _ _, h => by simp [z2t] at h
theorem z7x {z : Array Value} {sh : Shape} {x : AV} : ∀ {n : Nat}, z6p z sh x n = true -> ∀ j, j < n -> z7v (z.getD j undef) (z6 sh x j)
  | 0, _, j, hj => by omega
  | n + 1, h, j, hj => by
    simp only [z6p, Bool.and_eq_true] at h
    by_cases e : j = n
    . subst e; exact z96 h.1
    . exact z7x h.2 j (by omega)
theorem z73 {C : Cfg} : ∀ {l : List Field} {ss : List Shape} {off : Nat}, z23.fieldsCheck C l ss off = true -> ∀ (i : Nat) (f : Field), l[i]? = some f ->
    ∃ te, tyOf C f.type = some te /\ ss[i]? = some te.sh /\ f.offset = off + Shape.sizes (ss.take i) /\ f.name ≠ "_"
  | [], _, _, _, i, f, h => by simp at h
  | g :: l, [], _, h, _, _, _ => by simp [z23.fieldsCheck] at h
  | g :: l, s :: ss, off, h, i, f, hf => by
    simp only [z23.fieldsCheck, Bool.and_eq_true] at h
    obtain ⟨h1, h2, h3, h4⟩ := h
    cases i with
    | zero =>
      simp at hf
      subst hf
      split at h3
      . rename_i te hte
        exact ⟨te, hte, by simp [Shape.same_eq _ _ h3], by simp [Nat.eq_of_beq_eq_true h1, Shape.sizes], by simpa using h2⟩
      . cases h3
    | succ i =>
      simp at hf
      obtain ⟨te, a, b, c, d⟩ := z73 h4 i f hf
      exact ⟨te, a, by simpa using b, by rw [c]; simp [Shape.sizes, Nat.add_assoc], d⟩
theorem ze3 {C : Cfg} {sh : Shape} {d : TypeDesc} {k : TyK} (h : z23 C sh d k = true) : z5n C sh d k := by
  cases k with
  | int k => simp only [z23] at h; split at h <;> simp_all [z5n]
  | bool => simp only [z23] at h; split at h <;> simp_all [z5n]
  | string => simp only [z23] at h; split at h <;> simp_all [z5n]
  | slice e =>
    simp only [z23] at h; split at h
    . simp [z5n, Nat.eq_of_beq_eq_true h]
    . cases h
  | arr n e =>
    simp only [z23] at h; split at h
    . simp only [Bool.and_eq_true] at h
      obtain ⟨h1, h2, h3, h4⟩ := h
      split at h4
      . rename_i te hte
        rw [Nat.eq_of_beq_eq_true h1, Nat.eq_of_beq_eq_true h2, Nat.eq_of_beq_eq_true h3, Shape.same_eq _ _ h4]
        exact ⟨rfl, te, hte, rfl⟩
      . cases h4
    . cases h
  | struct fs =>
    simp only [z23] at h; split at h
    . simp only [Bool.and_eq_true] at h
      obtain ⟨h1, h2, h3⟩ := h
      refine ⟨_, _, rfl, rfl, Nat.eq_of_beq_eq_true h1, za8 h2, fun i f hf => ?_⟩
      obtain ⟨te, a, b, c, d⟩ := z73 h3 i f (by simpa using hf)
      exact ⟨te, a, b, by simpa using c, d⟩
    . cases h
  | other =>
    simp only [z23] at h
    split at h <;> simp_all [z5n]
theorem zfp {C : Cfg} {t : TypeId} {te : TyE} (h : zco C t te = true) (he : te.eqs = true) : C.P.eqGuardType C.P.depth t = false /\ C.P.stoodInHeld t = false /\ ((∃ fs, te.kind = .struct fs /\
    ∀ e ∈ fs, ∃ tf, tyOf C e = some tf /\ tf.sh = .leaf /\ ((∃ k, tf.kind = .int k) ∨ tf.kind = .bool ∨ tf.kind = .string)) ∨
    ∃ n e tf, te.kind = .arr n e /\ tyOf C e = some tf /\ tf.sh = .leaf) := by
  simp only [zco, he, Bool.and_eq_true, Bool.not_eq_true'] at h
  obtain ⟨h1, h2, h3⟩ := h
  refine ⟨h1, h2, ?_⟩
  split at h3
  . rename_i fs hk
    refine .inl ⟨fs, hk, fun e he' => ?_⟩
    have := List.all_eq_true.1 h3 e he'
    split at this
    . rename_i tf htf
      refine ⟨tf, htf, ?_⟩
      split at this
      . rename_i h1 h2; exact ⟨h2, .inl ⟨_, h1⟩⟩
      . rename_i h1 h2; exact ⟨h2, .inr (.inl h1)⟩
      . rename_i h1 h2; exact ⟨h2, .inr (.inr h1)⟩
      . cases this
    . cases this
  . rename_i n e hk
    split at h3
    . rename_i tf htf
      split at h3
      . rename_i hs; exact .inr ⟨n, e, tf, hk, htf, hs⟩
      . cases h3
    . cases h3
  . cases h3
theorem zil {C : Cfg} {t : TypeId} {te : TyE} (h : zfo C t te = true) : TyOK C t te := by
  unfold zfo at h
  split at h
  . rename_i d i hd hi
    split at h
    . rename_i z hz
      simp only [Bool.and_eq_true] at h
      obtain ⟨h1, h2, h3, h4, h5, h6, h7, h8⟩ := h
      exact ⟨⟨d, i, z, hd, hi, Nat.eq_of_beq_eq_true h1, Nat.eq_of_beq_eq_true h2, hz, Nat.eq_of_beq_eq_true h3, ze3 h4, z7x h5⟩, Nat.lt_of_succ_le (by simpa [Nat.blt] using h6), h7, zfp h8⟩
    . cases h
  . cases h
theorem get_mem {α : Type} : ∀ {l : List (Nat × α)} {s : Nat} {v : α}, get l s = some v -> (s, v) ∈ l
  | [], _, _, h => by simp [get] at h
  | (k, u) :: l, s, v, h => by
    simp only [get] at h
    split at h
    . rename_i hk
      cases h
      rw [Nat.eq_of_beq_eq_true hk]; simp
    . exact List.mem_cons_of_mem _ (get_mem h)
def z12 (C : Cfg) : Prop := ∀ t te, tyOf C t = some te -> TyOK C t te
theorem z74 {C : Cfg} (h : (C.T.all fun p => zfo C p.1 p.2) = true) : z12 C := fun t te ht =>
  zil (List.all_eq_true.1 h (t, te) (get_mem ht))
theorem z7v.rep {v : Value} {w : World} {F : Nat -> Prop} : ∀ {x : AV}, z7v v x -> RepS w F v x
  | .any, h => .any _ h
  | .int k n, h => by obtain ⟨rfl, h⟩ := h; exact .int _ _ h
  | .bool b, h => by cases h; exact .bool _
  | .str l, h => by cases h; exact .str ⟨l.toArray⟩
  | .nils, h => by cases h; exact .nils
  | .nilp, h => by cases h; exact .nilp
  | .st x, h => .st (z7v.rep (x := x) h)
  | .seq _ _ _, h | .seqc _ _ _, h | .nseq _ _ _ _, h | .cov _, h | .rptr _ _, h | .own _ _, h | .ptr _ _, h | .optr _ _ _, h | .clo _ _, h | .agg _, h | .arr _ _, h | .mc _ _, h | .tup _, h | .when _ _, h => h.elim
end Go.AV
namespace Go.AV
open Go.RowKit
section
variable {C : Cfg} {W0 : Entry} {F0 : Nat -> Prop} {st : St} {a : Act} {w : World} {F : Nat -> Prop} {φ : Nat -> Place}
theorem zfq {v : Value} {x : AV} (h : zfl v = some x) : RepS w F v x := by
  unfold zfl at h
  split at h
  . split at h
    . rename_i e; cases h; exact .int _ _ (of_decide_eq_true (p := IntKind.wrap _ _ = _) e)
    . cases h
  . cases h; exact .bool _
  . cases h; exact .str _
  . cases h; exact .nils
  . cases h; exact .nilp
  . cases h; exact .any _ rfl
  . cases h; exact .any _ rfl
  . cases h; exact .any _ rfl
  . cases h
theorem Rel.ev (h : Rel C W0 F0 st a w F φ) {x : Operand} {y : AV} (he : ev C st x = some y) : Rep w F φ (a.eval x) y := by
  cases x with
  | tmp t =>
    simp only [AV.ev] at he
    obtain ⟨v, hv, hr⟩ := h.env t y he
    simp only [Act.eval, Array.getD_eq_getD_getElem?, hv, Option.getD_some]
    exact hr
  | const v => exact .stat (zfq he)
  | global g => exact .stat (h.glob g y he)
  | func f =>
    simp only [AV.ev] at he; cases he
    exact .clo f #[] [] rfl fun j hj => by simp at hj
theorem Rep.strip1 {v : Value} : ∀ {x : AV}, Rep w F φ v x -> (∀ p ∈ z95 x, p) -> Rep w F φ v (strip1 x)
  | .when q x, h, ho => by
    have hq : q = true := ho (q = true) (by simp [z95])
    cases h with
    | stat h => cases h
    | whenT _ h _ => exact h hq
  | .any, h, _ | .int _ _, h, _ | .bool _, h, _ | .str _, h, _ | .nils, h, _ | .nilp, h, _ | .seq _ _ _, h, _ | .seqc _ _ _, h, _ | .rptr _ _, h, _ | .nseq _ _ _ _, h, _ | .cov _, h, _ | .own _ _, h, _ | .ptr _ _, h, _ | .optr _ _ _, h, _
  | .clo _ _, h, _ | .agg _, h, _ | .arr _ _, h, _ | .mc _ _, h, _ | .tup _, h, _ | .st _, h, _ => h
theorem z75 : ∀ {l : List Operand} {x : Operand} {y : AV}, x ∈ l -> ev C st x = some y -> ∀ p ∈ z95 y, p ∈ z2k C st l
  | [], _, _, h, _, _, _ => by cases h
  | z :: l, x, y, h, he, p, hp => by
    simp only [z2k]
    rcases List.mem_cons.1 h with rfl | h
    . rw [he]; simp [hp]
    . have := z75 h he p hp
      split <;> simp [this]
theorem Rel.evS (h : Rel C W0 F0 st a w F φ) {l : List Operand} (ho : ∀ p ∈ z2k C st l, p) {x : Operand} (hx : x ∈ l) {y : AV} (he : evS C st x = some y) : Rep w F φ (a.eval x) y := by
  unfold AV.evS at he
  split at he
  . rename_i z hz
    cases he
    exact (h.ev hz).strip1 fun p hp => ho p (z75 hx hz p hp)
  . cases he
end
section
variable {C : Cfg} {t : TypeId} {te : TyE} {w : World}
theorem TyOK.size (h : TyOK C t te) : (sizeOf t).run C.P w = .ok te.sh.size w := by
  obtain ⟨d, i, z, hd, hi, hs, _⟩ := h.info
  simp [sizeOf, typeInfo, hi, hs]
def zcp : TypeDesc -> Bool
  | .struct _ | .array _ _ => true
  | _ => false
theorem zbt {sh : Shape} {d : TypeDesc} {k : TyK} (h : z5n C sh d k) : zcp d = sh.isAgg := by
  cases k with
  | int k => obtain ⟨rfl, rfl⟩ := h; rfl
  | bool => obtain ⟨rfl, rfl⟩ := h; rfl
  | string => obtain ⟨rfl, rfl⟩ := h; rfl
  | slice e => obtain ⟨rfl, rfl⟩ := h; rfl
  | arr n e => obtain ⟨rfl, te, _, rfl⟩ := h; rfl
  | struct fs => obtain ⟨f, ss, rfl, rfl, _⟩ := h; rfl
  | other =>
    obtain ⟨rfl, h⟩ := h
    cases d <;> first | rfl | exact h.elim
theorem ze4 {P : Program} {t : TypeId} {d : TypeDesc} (hd : P.underlying t = some d) : (isAgg t).run P w = .ok (zcp d) w := by
  simp only [isAgg, Sem.run_bind, run_underlying hd, Result.andThen_ok]
  cases d <;> rfl
theorem TyOK.agg (h : TyOK C t te) : (isAgg t).run C.P w = .ok te.sh.isAgg w := by
  obtain ⟨d, i, z, hd, hi, hs, hb, hz, hc, hk, _⟩ := h.info
  rw [ze4 hd, zbt hk]
def z7f (sh : Shape) (f : Nat -> Value) : Value :=
  match sh.isAgg with
  | false => f 0
  | true => .agg ((List.range sh.size).map f).toArray
theorem z4d (g o j : Nat) : (⟨g, o, none⟩ : Addr).add j = ⟨g, o + j, none⟩ := by
  unfold Addr.add; split <;> simp_all
theorem TyOK.runLoad (h : TyOK C t te) (g o : Nat) (f : Nat -> Value) (hc : ∀ j, j < te.sh.size -> w.cell? ⟨g, o + j, none⟩ = some (f j)) :
    (loadVar t ⟨g, o, none⟩).run C.P w = .ok (z7f te.sh f) w := by
  have hcell := run_loadCells (P := C.P) w ⟨g, o, none⟩ te.sh.size f (fun j hj => by rw [z4d]; exact hc j hj)
  have h0 : (Go.load ⟨g, o, none⟩).run C.P w = .ok (f 0) w := by
    have := hc 0 h.pos
    rw [Nat.add_zero] at this
    simp [run_load, this]
  simp only [loadVar, Sem.run_bind, h.agg, Result.andThen_ok]
  cases hs : te.sh.isAgg with
  | false => simp only [Bool.false_eq_true, if_false, h0, z7f, hs]
  | true => simp only [if_true, Sem.run_bind, h.size, Result.andThen_ok, hcell, Sem.run_pure, z7f, hs]
theorem zcq {F : Nat -> Prop} {φ : Nat -> Place} {sh : Shape} {y z : AV} {f : Nat -> Value} (hw : z9k sh y = some z) (hr : ∀ j, j < sh.size -> Rep w F φ (f j) (z6 sh y j)) :
    Rep w F φ (z7f sh f) z := by
  cases sh with
  | leaf =>
    simp only [z9k] at hw
    split at hw
    . rename_i e
      cases hw
      have := hr 0 (by simp [Shape.size])
      simpa [z6, z10, e, z7f, Shape.isAgg] using this
    . cases hw
  | agg ss =>
    simp only [z9k, Option.some.injEq] at hw
    subst hw
    exact .mc _ _ _ (by simp) fun j hj => by simpa [hj, Array.getD_eq_getD_getElem?] using hr j hj
  | arr n s =>
    simp only [z9k, Option.some.injEq] at hw
    subst hw
    exact .mc _ _ _ (by simp) fun j hj => by simpa [hj, Array.getD_eq_getD_getElem?] using hr j hj
theorem zji {v : Value} (h : v.oneCell' = true) : v.cells = #[v] := by cases v <;> simp_all [Value.oneCell', Value.cells]
theorem zcr {F : Nat -> Prop} {φ : Nat -> Place} {sh : Shape} {x y : AV} {v : Value} (hu : unwV sh x = some y) (hr : Rep w F φ v x) :
    v.cells.size = sh.size /\ ∀ j, j < sh.size -> Rep w F φ (v.cells.getD j undef) (z6 sh y j) := by
  unfold unwV at hu
  split at hu
  . split at hu
    . rename_i e
      cases hu
      rw [zji (hr.one e)]
      refine ⟨rfl, fun j hj => ?_⟩
      simp only [Shape.size] at hj
      obtain rfl : j = 0 := by omega
      simpa [z6, z10, e] using hr
    . cases hu
  . split at hu
    . rename_i e
      cases hu
      rw [Shape.same_eq _ _ e]
      cases hr with
      | stat h =>
        cases h with
        | mc cs _ _ hs hc => exact ⟨hs, fun j hj => .stat (hc j hj)⟩
      | mc cs _ _ hs hc => exact ⟨hs, hc⟩
    . cases hu
  . cases hu
theorem zcs {cs : Array Value} {n : Nat} (hs : cs.size = n) (h : ∀ j, j < n -> (cs.getD j undef).oneCell' = true) : ∀ v ∈ cs.toList, v.oneCell' = true := by
  intro v hv
  obtain ⟨j, hj⟩ := List.mem_iff_getElem?.1 hv
  have hl := (List.getElem?_eq_some_iff.1 hj).1
  have := h j (by rw [<- hs]; simpa using hl)
  rw [Array.getD_eq_getD_getElem?] at this
  rw [Array.getElem?_toList] at hj
  rw [hj] at this
  exact this
theorem TyOK.runStore (h : TyOK C t te) (g o : Nat) (cur : Array Value) (ty : TypeId) (v : Value) (hg : w.heap[g]? = some (.cells cur ty (0, 0))) (hl : o + te.sh.size <= cur.size) (hv : v.cells.size = te.sh.size)
    (h1 : ∀ j, j < te.sh.size -> (v.cells.getD j undef).oneCell' = true) :
    (storeVar t ⟨g, o, none⟩ v).run C.P w = .ok () (w.setRow g (cur.toList.take o ++ v.cells.toList ++ cur.toList.drop (o + te.sh.size)).toArray) := by
  have hlen : v.cells.toList.length = te.sh.size := by simpa using hv
  simp only [storeVar, Sem.run_bind, h.size, Result.andThen_ok]
  simp only [hv, ne_eq, not_true_eq_false, if_false]
  have := run_storeCells_at (P := C.P) g o ty v.cells.toList 0 cur w hg (by rw [hlen]; omega) (zcs hv h1)
  rw [Nat.add_zero, hlen] at this
  exact this
end
end Go.AV
namespace Go.AV
open Go.RowKit
section
variable {C : Cfg} {W0 : Entry} {F0 : Nat -> Prop} {st : St} {a : Act} {w : World} {F : Nat -> Prop} {φ : Nat -> Place} {e : Operand -> Option AV} {dst : Option Nat} {orc : FuncId -> List AV -> Option AV} {CC : FuncId -> List AV -> AV -> Prop} {r : Res} {o : Oper}
def z2f (C : Cfg) (o : Oper) (a : Act) (w : World) (F : Nat -> Prop) (φ : Nat -> Place) (r : Res) : Prop :=
  r.eff = .none /\ ∃ v, (execOp a.eval o).run C.P w = .ok (.value v) w /\ Rep w F φ v r.val
theorem ze5 {x : Operand} (ho : o.op = .move x ∨ o.op = .assign x) (hr : zj C st e dst orc CC (.move x) = some r) (he : ∀ y, e x = some y -> Rep w F φ (a.eval x) y) : z2f C o a w F φ r := by
  simp only [zj] at hr
  split at hr
  . rename_i v hv
    cases hr
    refine ⟨rfl, a.eval x, ?_, he v hv⟩
    rcases ho with ho | ho <;> simp [execOp, ho]
  . cases hr
theorem z1j {s : Sem Value} {v : Value} {P : Program} (h : s.run P w = .ok v w) : (do pure (Next.value (<- s)) : Sem Next).run P w = .ok (.value v) w := by
  simp [h]
theorem Rep.ptr_inv {v : Value} {b : Nat} {p : List Nat} (h : Rep w F φ v (.ptr b p)) : ∃ g, (φ b).blk = some g /\ z1h p (φ b).sh /\ v = .pointer (some ⟨g, zk p (φ b).sh, none⟩) := by
  cases h with
  | stat h => cases h
  | ptr _ g _ hb hp => exact ⟨g, hb, hp, rfl⟩
theorem Rep.optr_inv {v : Value} {b i : Nat} {p : List Nat} (h : Rep w F φ v (.optr b i p)) : ∃ g, (φ b).blk = some g /\ z1h p (φ b).sh /\ v = .pointer (some ⟨g, i * (φ b).sh.size + zk p (φ b).sh, none⟩) := by
  cases h with
  | stat h => cases h
  | optr _ g _ _ hb hp => exact ⟨g, hb, hp, rfl⟩
theorem Rep.rptr_inv {v : Value} {sh : Shape} {x : AV} (h : Rep w F φ v (.rptr sh x)) : ∃ g o, ∃ cs : Nat -> Value, F g /\ v = .pointer (some ⟨g, o, none⟩) /\ (∀ j, j < sh.size -> w.cell? ⟨g, o + j, none⟩ = some (cs j)) /\ (∀ j, j < sh.size -> RepS w F (cs j) (z6 sh x j)) := by
  cases h with
  | stat h => cases h with | rptr g o _ _ cs hF hc hr => exact ⟨g, o, cs, hF, rfl, hc, hr⟩
theorem Rep.int_inv {v : Value} {k : IntKind} {n : Int} (h : Rep w F φ v (.int k n)) : v = .int k n /\ InR k n := by
  cases h with
  | stat h => cases h with | int _ _ h => exact ⟨rfl, h⟩
theorem Rep.bool_inv {v : Value} {b : Bool} (h : Rep w F φ v (.bool b)) : v = .bool b := by
  cases h with
  | stat h => cases h; rfl
theorem Rep.str_inv {v : Value} {l : List UInt8} (h : Rep w F φ v (.str l)) : ∃ s : ByteArray, v = .string s /\ s.data.toList = l := by
  cases h with
  | stat h => cases h; exact ⟨_, rfl, rfl⟩
theorem Rep.own_inv {v : Value} {b n : Nat} (h : Rep w F φ v (.own b n)) : (∃ g, (φ b).blk = some g /\ v = .slice (some ⟨g, 0, none⟩) n (φ b).cap /\ n <= (φ b).cap) ∨ ((φ b).blk = none /\ n = 0 /\ v = .slice none 0 0) := by
  cases h with
  | stat h => cases h
  | own _ g _ hb hn => exact .inl ⟨g, hb, rfl, hn⟩
  | own0 _ hb => exact .inr ⟨hb, rfl, rfl⟩
theorem Rep.mc_inv {v : Value} {sh : Shape} {x : AV} (h : Rep w F φ v (.mc sh x)) : ∃ cs, v = .agg cs /\ cs.size = sh.size /\ ∀ j, j < sh.size -> Rep w F φ (cs.getD j undef) (z6 sh x j) := by
  cases h with
  | stat h => cases h with | mc cs _ _ hs hr => exact ⟨cs, rfl, hs, fun j hj => .stat (hr j hj)⟩
  | mc cs _ _ hs hr => exact ⟨cs, rfl, hs, hr⟩
theorem Rel.cells (h : Rel C W0 F0 st a w F φ) {b : Nat} {tc : TypeId} {sh : Shape} {x : AV} (hb : get st.heap b = some (.cell tc sh x)) : (φ b).sh = sh /\ ∃ g cs, (φ b).blk = some g /\ W0.B g /\ ¬ F g /\
    w.heap[g]? = some (.cells cs tc (0, 0)) /\ cs.size = sh.size /\ ∀ j, j < sh.size -> Rep w F φ (cs.getD j undef) (z6 sh x j) := h.heap b _ hb
theorem z4j {g : Nat} {cs : Array Value} {ty : TypeId} {fr : Nat × Nat} (hg : w.heap[g]? = some (.cells cs ty fr)) {j : Nat} (hj : j < cs.size) : w.cell? ⟨g, j, none⟩ = some (cs.getD j undef) := by
  simp [World.cell?, hg, hj]
theorem zjj {t : TypeId} {x : Operand} (h : Rel C W0 F0 st a w F φ) (hT : z12 C) (ho : o.op = .load t x) (hr : zj C st e dst orc CC (.load t x) = some r) (he : ∀ y, e x = some y -> Rep w F φ (a.eval x) y)
    (hob : ∀ p ∈ r.obs, p) : z2f C o a w F φ r := by
  simp only [zj] at hr
  split at hr
  case h_2 => cases hr
  rename_i te hte
  have T := hT t te hte
  have key : ∀ (g off : Nat) (f : Nat -> Value) (y z : AV), a.eval x = .pointer (some ⟨g, off, none⟩) -> (∀ j, j < te.sh.size -> w.cell? ⟨g, off + j, none⟩ = some (f j)) -> z9k te.sh y = some z ->
      (∀ j, j < te.sh.size -> Rep w F φ (f j) (z6 te.sh y j)) -> ∃ v, (execOp a.eval o).run C.P w = .ok (.value v) w /\ Rep w F φ v z := by
    intro g off f y z hx hc hz hf
    refine ⟨_, ?_, zcq hz hf⟩
    simp only [execOp, ho]
    refine z1j ?_
    simp only [Instr.loadAt, Instr.sureAddr, hx, Sem.run_bind, Sem.run_pure, Result.andThen_ok, T.runLoad g off f hc]
  split at hr
  . rename_i b p hx
    split at hr
    case h_2 => cases hr
    rename_i sh y hb
    split at hr
    case h_2 => cases hr
    rename_i s z hs hz
    split at hr
    case h_2 => cases hr
    rename_i hsame
    split at hr
    case h_2 => cases hr
    rename_i u hu
    cases hr
    have es := Shape.same_eq _ _ hsame
    subst es
    obtain ⟨g, hg, hp, hv⟩ := (he _ hx).ptr_inv
    obtain ⟨hsh, g', cs, hg', _, _, hh, hsz, hrep⟩ := h.cells hb
    rw [hg] at hg'; cases hg'
    rw [hsh] at hp hv
    have hlt := z1n p sh te.sh hp hs
    refine ⟨rfl, key g (zk p sh) (fun j => cs.getD (zk p sh + j) undef) z u hv (fun j hj => z4j hh (by omega)) hu fun j hj => ?_⟩
    exact (hrep _ (by omega)).strip (z41 p sh te.sh y z hp hs hz j hj)
  . rename_i b i p hx
    split at hr
    case h_2 => cases hr
    rename_i ty sh n f hb
    split at hr
    case h_2 => cases hr
    rename_i s z hs hz
    split at hr
    case h_2 => cases hr
    rename_i hsame
    split at hr
    case h_2 => cases hr
    rename_i u hu
    cases hr
    have es := Shape.same_eq _ _ hsame
    subst es
    have hin : i < n := hob _ (by simp)
    obtain ⟨g, hg, hp, hv⟩ := (he _ hx).optr_inv
    obtain ⟨hsh, _, hrow⟩ := h.heap b _ hb
    rcases hrow with ⟨h1, _⟩ | ⟨g', cs, hg', _, _, hh, hsz, hn, _, hrep⟩
    . rw [hg] at h1; cases h1
    rw [hg] at hg'; cases hg'
    rw [hsh] at hp hv
    have hlt := z1n p sh te.sh hp hs
    have hmul : (i + 1) * sh.size <= (φ b).cap * sh.size := Nat.mul_le_mul_right _ (by omega)
    rw [Nat.add_mul] at hmul
    refine ⟨rfl, key g (i * sh.size + zk p sh) (fun j => cs.getD (i * sh.size + (zk p sh + j)) undef) z u hv (fun j hj => ?_) hu fun j hj => ?_⟩
    . rw [Nat.add_assoc]; exact z4j hh (by omega)
    . exact (Rep.stat (hrep i hin _ (by omega))).strip (z41 p sh te.sh (f i) z hp hs hz j hj)
  . rename_i sh y hx
    split at hr
    case h_2 => cases hr
    rename_i hsame
    split at hr
    case h_2 => cases hr
    rename_i u hu
    cases hr
    have es := Shape.same_eq _ _ hsame
    subst es
    obtain ⟨g, off, cs, _, hv, hc, hrep⟩ := (he _ hx).rptr_inv
    exact ⟨rfl, key g off cs y u hv hc hu fun j hj => .stat (hrep j hj)⟩
  . cases hr
theorem zct {x : Operand} (ho : o.op = .nilCheck x) (hr : zj C st e dst orc CC (.nilCheck x) = some r) (he : ∀ y, e x = some y -> Rep w F φ (a.eval x) y) : z2f C o a w F φ r := by
  simp only [zj] at hr
  split at hr
  . rename_i b p hx; cases hr
    have hv := he _ hx
    obtain ⟨g, _, _, h1⟩ := hv.ptr_inv
    refine ⟨rfl, _, ?_, hv⟩
    rw [h1] at hv ⊢; simp [execOp, ho, h1]
  . rename_i b i p hx; cases hr
    have hv := he _ hx
    obtain ⟨g, _, _, h1⟩ := hv.optr_inv
    refine ⟨rfl, _, ?_, hv⟩
    rw [h1] at hv ⊢; simp [execOp, ho, h1]
  . rename_i s y hx; cases hr
    have hv := he _ hx
    obtain ⟨g, o', cs, _, h1, _⟩ := hv.rptr_inv
    refine ⟨rfl, _, ?_, hv⟩
    rw [h1] at hv ⊢; simp [execOp, ho, h1]
  . rename_i f l hx; cases hr
    have hv := he _ hx
    have h1 : ∃ caps, a.eval x = .func (.func f) #[] caps := by
      generalize a.eval x = v at *
      cases hv with
      | stat h => cases h; exact ⟨_, rfl⟩
      | clo => exact ⟨_, rfl⟩
    obtain ⟨caps, h1⟩ := h1
    refine ⟨rfl, _, ?_, hv⟩
    rw [h1] at hv ⊢; simp [execOp, ho, h1]
  . cases hr
theorem z6q {k : IntKind} (n : Int) : InR k (k.wrap n) := by
  unfold InR
  cases k <;> simp only [IntKind.wrap, IntKind.signed, IntKind.bits] <;> simp <;> split <;> simp_all <;> omega
end
end Go.AV
