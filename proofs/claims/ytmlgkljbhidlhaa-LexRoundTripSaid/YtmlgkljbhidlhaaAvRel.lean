/- When a state of abstract facts fits a frame and a world; how it is kept. -/
import Derived.Test.YtmlgkljbhidlhaaAvOps
import Derived.Maps.AppendAt
import Derived.Deep.Draws
import Derived.Laws.OwnMore
namespace Go.AV
open Go.RowKit

theorem get_put_same {α : Type} (l : List (Nat × α)) (s : Nat) (v : α) : get (put l s v) s = some v := by
  simp [put, get]
theorem get_del_same {α : Type} (l : List (Nat × α)) (s : Nat) : get (del l s) s = none := by
  induction l with
  | nil => rfl
  | cons p l ih =>
    obtain ⟨k, v⟩ := p
    simp only [del]
    split
    · exact ih
    · rename_i h; simp only [get, h]; exact ih
theorem get_del_other {α : Type} (l : List (Nat × α)) (s t : Nat) (h : t ≠ s) : get (del l s) t = get l t := by
  induction l with
  | nil => rfl
  | cons p l ih =>
    obtain ⟨k, v⟩ := p
    simp only [del]
    split
    · rename_i hk
      have := Nat.eq_of_beq_eq_true hk
      subst this
      rw [ih]
      have : Nat.beq k t = false := by
        cases e : Nat.beq k t with
        | false => rfl
        | true => exact absurd (Nat.eq_of_beq_eq_true e).symm h
      simp [get, this]
    · simp only [get]; split <;> first | rfl | exact ih
theorem get_put_other {α : Type} (l : List (Nat × α)) (s t : Nat) (v : α) (h : t ≠ s) : get (put l s v) t = get l t := by
  have : Nat.beq s t = false := by
    cases e : Nat.beq s t with
    | false => rfl
    | true => exact absurd (Nat.eq_of_beq_eq_true e).symm h
  simp only [put, get, this]
  exact get_del_other l s t h

/-- Only what is lent, and what is new, has turned. -/
structure Kept (L : Nat → Prop) (w w' : World) : Prop where
  os : w'.os = w.os
  tape : w'.tape = w.tape
  output : w'.output = w.output
  size : w.heap.size ≤ w'.heap.size
  block : ∀ k, k < w.heap.size → ¬ L k → w'.heap[k]? = w.heap[k]?

theorem Kept.refl (L : Nat → Prop) (w : World) : Kept L w w := ⟨rfl, rfl, rfl, Nat.le_refl _, fun _ _ _ => rfl⟩
theorem Kept.trans {L L' : Nat → Prop} {a b c : World} (h : Kept L a b) (k : Kept L' b c) (hL : ∀ i, L' i → i < a.heap.size → L i) : Kept L a c :=
  ⟨k.os.trans h.os, k.tape.trans h.tape, k.output.trans h.output, Nat.le_trans h.size k.size, fun i hi hn => (k.block i (Nat.lt_of_lt_of_le hi h.size) fun hl => hn (hL i hl hi)).trans (h.block i hi hn)⟩
theorem Kept.below {L : Nat → Prop} {a b c : World} (h : Kept L a b) (k : Below b.heap.size b c) : Kept L a c :=
  h.trans (L' := fun _ => False) ⟨k.os, k.tape, k.output, k.size, fun i hi _ => k.block i hi⟩ fun _ hf => hf.elim
theorem Kept.toBelow {a b : World} (h : Kept (fun _ => False) a b) : Below a.heap.size a b := ⟨h.os, h.tape, h.output, h.size, fun k hk => h.block k hk fun hf => hf⟩

/-- How a call was entered: the world, the lent blocks, and where the lent boxes lie. -/
structure Entry where
  w : World
  L : Nat → Prop
  A : Nat → Option Place
/-- The blocks that the call may write. -/
def Entry.B (E : Entry) (k : Nat) : Prop := E.w.heap.size ≤ k ∨ E.L k
def Entry.of (w : World) : Entry := ⟨w, fun _ => False, fun _ => none⟩

/-- A box of the state as it lies in memory. -/
def BoxOK (w : World) (F : Nat → Prop) (φ : Nat → Place) (B : Nat → Prop) (b : Nat) : BoxC → Prop
  | .cell tc sh x => (φ b).sh = sh ∧ ∃ g cs, (φ b).blk = some g ∧ B g ∧ ¬ F g ∧ w.heap[g]? = some (.cells cs tc (0, 0)) ∧ cs.size = sh.size ∧
      ∀ j, j < sh.size → Rep w F φ (cs.getD j undef) (leafAt sh x j)
  | .row ty sh n f => (φ b).sh = sh ∧ (φ b).ty = ty ∧ (((φ b).blk = none ∧ n = 0) ∨ ∃ g cs, (φ b).blk = some g ∧ B g ∧ ¬ F g ∧ w.heap[g]? = some (.cells cs ty (0, 0)) ∧
      cs.size = (φ b).cap * sh.size ∧ n ≤ (φ b).cap ∧ (φ b).cap ≤ maxLen ∧ ∀ i, i < n → ∀ j, j < sh.size → RepS w F (cs.getD (i * sh.size + j) undef) (leafAt sh (f i) j))

structure Rel (C : Cfg) (W0 : Entry) (F0 : Nat → Prop) (st : St) (a : Act) (w : World) (F : Nat → Prop) (φ : Nat → Place) : Prop where
  env : ∀ s x, get st.env s = some x → ∃ v, a.tmps[s]? = some v ∧ Rep w F φ v x
  heap : ∀ b c, get st.heap b = some c → BoxOK w F φ W0.B b c
  inj : ∀ b b' c c' g, get st.heap b = some c → get st.heap b' = some c' → (φ b).blk = some g → (φ b').blk = some g → b = b'
  ro : ∀ k, F k → k < w.heap.size
  base : Kept W0.L W0.w w
  sub : ∀ k, F0 k → F k
  new : ∀ k, F k → F0 k ∨ W0.B k
  dfr : a.defers = []
  tsz : a.tmps.size = C.ntmps
  glob : ∀ g x, get C.G g = some x → RepS w F (.pointer (some ⟨g, 0, none⟩)) x
  anc : ∀ b p, W0.A b = some p → 1099511627776 ≤ b ∧ φ b = p ∧ ∀ c, get st.heap b = some c → c.isRow = false

theorem BoxOK.lt {w : World} {F : Nat → Prop} {φ : Nat → Place} {base : Nat → Prop} {b g : Nat} {c : BoxC} (h : BoxOK w F φ base b c) (hg : (φ b).blk = some g) : g < w.heap.size ∧ ¬ F g ∧ base g := by
  cases c with
  | cell tc sh x =>
    obtain ⟨_, g', cs, h1, h2, h3, h4, _⟩ := h
    rw [hg] at h1; cases h1
    exact ⟨(Array.getElem?_eq_some_iff.1 h4).1, h3, h2⟩
  | row ty sh n f =>
    obtain ⟨_, _, ⟨h1, _⟩ | ⟨g', cs, h1, h2, h3, h4, _⟩⟩ := h
    · rw [hg] at h1; cases h1
    · rw [hg] at h1; cases h1
      exact ⟨(Array.getElem?_eq_some_iff.1 h4).1, h3, h2⟩

/-- A box is kept: the read-only blocks and its own block are as they were. -/
theorem BoxOK.keep {w w' : World} {F F' : Nat → Prop} {φ φ' : Nat → Place} {base : Nat → Prop} {b : Nat} {c : BoxC} (h : BoxOK w F φ base b c) (hw : ∀ k, F k → w'.heap[k]? = w.heap[k]?) (hF : ∀ k, F k → F' k)
    (hg : ∀ g, (φ b).blk = some g → w'.heap[g]? = w.heap[g]? ∧ ¬ F' g) (hb : φ' b = φ b) (hφ : ∀ d, c.names d = true → φ' d = φ d) : BoxOK w' F' φ' base b c := by
  cases c with
  | cell tc sh x =>
    obtain ⟨h0, g, cs, h1, h2, h3, h4, h5, h6⟩ := h
    refine ⟨by rw [hb]; exact h0, g, cs, by rw [hb]; exact h1, h2, (hg g h1).2, (hg g h1).1.trans h4, h5, fun j hj => ?_⟩
    exact (h6 j hj).keep hw hF fun d hd => hφ d (by simp only [BoxC.names]; exact names_leafAt sh x j hd)
  | row ty sh n f =>
    obtain ⟨h0, h0', h⟩ := h
    refine ⟨by rw [hb]; exact h0, by rw [hb]; exact h0', ?_⟩
    rw [hb]
    rcases h with h | ⟨g, cs, h1, h2, h3, h4, h5, h6, h7, h8⟩
    · exact .inl h
    · exact .inr ⟨g, cs, h1, h2, (hg g h1).2, (hg g h1).1.trans h4, h5, h6, h7, fun i hi j hj => (h8 i hi j hj).keep hw hF⟩

section
variable {C : Cfg} {W0 : Entry} {F0 : Nat → Prop} {st : St} {a : Act} {w : World} {F : Nat → Prop} {φ : Nat → Place}

theorem Rel.bnew (h : Rel C W0 F0 st a w F φ) {k : Nat} (hk : w.heap.size ≤ k) : W0.B k := .inl (Nat.le_trans h.base.size hk)

/-- Memory has grown; more of it is read only. -/
theorem Rel.grown (h : Rel C W0 F0 st a w F φ) {w' : World} {F' : Nat → Prop} (hb : Below w.heap.size w w') (hF : ∀ k, F k → F' k) (hn : ∀ k, F' k → F k ∨ w.heap.size ≤ k) (hl : ∀ k, F' k → k < w'.heap.size) :
    Rel C W0 F0 st a w' F' φ := by
  have hk : ∀ k, F k → w'.heap[k]? = w.heap[k]? := fun k hk => hb.block k (h.ro k hk)
  refine ⟨fun s x hs => ?_, fun b c hc => ?_, h.inj, hl, h.base.below hb, fun k hk => hF k (h.sub k hk), fun k hk => ?_, h.dfr, h.tsz, fun g x hg => (h.glob g x hg).keep hk hF, h.anc⟩
  · obtain ⟨v, hv, hr⟩ := h.env s x hs
    exact ⟨v, hv, hr.keep hk hF fun _ _ => rfl⟩
  · have hc' := h.heap b c hc
    refine hc'.keep hk hF (fun g hg => ?_) rfl fun _ _ => rfl
    obtain ⟨h1, h2, _⟩ := hc'.lt hg
    refine ⟨hb.block g h1, fun h3 => ?_⟩
    rcases hn g h3 with h4 | h4
    · exact h2 h4
    · omega
  · rcases hn k hk with h1 | h1
    · exact h.new k h1
    · have := h.base.size; exact .inr (.inl (by omega))

theorem Rel.drewN (h : Rel C W0 F0 st a w F φ) (n : Nat) : Rel C W0 F0 st a (w.drewN n) F φ :=
  h.grown ⟨rfl, rfl, rfl, Nat.le_refl _, fun _ _ => rfl⟩ (fun _ hk => hk) (fun _ hk => .inl hk) h.ro

/-- A slot takes a value. -/
theorem Rel.putV (h : Rel C W0 F0 st a w F φ) {d : Nat} {v : Value} {x : AV} (hd : d < C.ntmps) (hv : Rep w F φ v x) : Rel C W0 F0 { st with env := put st.env d x } (a.put (some d) v) w F φ := by
  refine ⟨fun s y hs => ?_, h.heap, h.inj, h.ro, h.base, h.sub, h.new, h.dfr, by simp [Act.put, h.tsz], h.glob, h.anc⟩
  by_cases e : s = d
  · subst e
    rw [get_put_same] at hs
    cases hs
    exact ⟨v, by simp [Act.put, h.tsz, hd], hv⟩
  · simp only [get_put_other _ _ _ _ e] at hs
    obtain ⟨u, hu, hr⟩ := h.env s y hs
    refine ⟨u, ?_, hr⟩
    simp only [Act.put]
    rw [Array.getElem?_setIfInBounds_ne (Ne.symm e)]
    exact hu

/-- A slot takes what is not known. -/
theorem Rel.putU (h : Rel C W0 F0 st a w F φ) (d : Nat) (v : Value) : Rel C W0 F0 { st with env := del st.env d } (a.put (some d) v) w F φ := by
  refine ⟨fun s y hs => ?_, h.heap, h.inj, h.ro, h.base, h.sub, h.new, h.dfr, by simp [Act.put, h.tsz], h.glob, h.anc⟩
  by_cases e : s = d
  · subst e; simp [get_del_same] at hs
  · simp only [get_del_other _ _ _ e] at hs
    obtain ⟨u, hu, hr⟩ := h.env s y hs
    refine ⟨u, ?_, hr⟩
    simp only [Act.put]
    rw [Array.getElem?_setIfInBounds_ne (Ne.symm e)]
    exact hu

theorem namesEnv_get {b : Nat} : ∀ {l : List (Nat × AV)} {s : Nat} {x : AV}, get l s = some x → namesEnv b l = false → x.names b = false
  | [], _, _, h, _ => by simp [get] at h
  | (k, v) :: l, s, x, h, hn => by
    simp only [namesEnv, Bool.or_eq_false_iff] at hn
    simp only [get] at h
    split at h
    · cases h; exact hn.1
    · exact namesEnv_get h hn.2
theorem namesHeap_get {b : Nat} : ∀ {l : List (Nat × BoxC)} {s : Nat} {c : BoxC}, get l s = some c → namesHeap b l = false → c.names b = false ∧ s ≠ b
  | [], _, _, h, _ => by simp [get] at h
  | (k, v) :: l, s, x, h, hn => by
    simp only [namesHeap, Bool.or_eq_false_iff] at hn
    simp only [get] at h
    split at h
    · rename_i hk
      cases h
      have := Nat.eq_of_beq_eq_true hk
      subst this
      refine ⟨hn.1.2, fun e => ?_⟩
      subst e
      simp at hn
    · exact namesHeap_get h hn.2

theorem update_other (φ : Nat → Place) (d : Nat) (pl : Place) {b : Nat} (h : b ≠ d) : (fun k => if k = d then pl else φ k) b = φ b := by simp [h]

theorem anc_put {W0 : Entry} {st : St} {φ : Nat → Place} (h : ∀ b p, W0.A b = some p → 1099511627776 ≤ b ∧ φ b = p ∧ ∀ c, get st.heap b = some c → c.isRow = false) {d : Nat} {c : BoxC} {pl : Place} (hd : (!Nat.blt d 1099511627776) = false) :
    ∀ b p, W0.A b = some p → 1099511627776 ≤ b ∧ (fun k => if k = d then pl else φ k) b = p ∧ ∀ c', get (put st.heap d c) b = some c' → c'.isRow = false := by
  intro b p hb
  obtain ⟨h1, h2, h3⟩ := h b p hb
  have hd : d < 1099511627776 := by
    cases e : Nat.blt d 1099511627776 with
    | false => rw [e] at hd; cases hd
    | true => exact Nat.le_of_ble_eq_true e
  have hne : b ≠ d := by omega
  exact ⟨h1, by simp only [hne, if_false]; exact h2, fun c' hc' => h3 c' (by rwa [get_put_other _ _ _ _ hne] at hc')⟩

/-- A new box. -/
theorem Rel.newBox (h : Rel C W0 F0 st a w F φ) {d : Nat} {c : BoxC} (hf : freshBox st d = true) (hc : c.names d = false) (o : Obj) (pl : Place) (hpl : pl.blk = some w.heap.size)
    (hB : BoxOK (w.alloc o) F (fun k => if k = d then pl else φ k) W0.B d c) :
    Rel C W0 F0 { st with heap := put st.heap d c } a (w.alloc o) F (fun k => if k = d then pl else φ k) := by
  simp only [freshBox, Bool.not_eq_true', Bool.or_eq_false_iff] at hf
  obtain ⟨fe, fh, fl⟩ := hf
  have hk : ∀ k, F k → (w.alloc o).heap[k]? = w.heap[k]? := fun k hk => Below.heap_alloc w o k (h.ro k hk)
  refine ⟨fun s x hs => ?_, fun b c' hc' => ?_, ?_, fun k hk => ?_, h.base.below ⟨rfl, rfl, rfl, by simp, fun k hk => Below.heap_alloc w o k hk⟩, h.sub, h.new, h.dfr, h.tsz, fun g x hg => (h.glob g x hg).keep hk fun _ hk => hk, anc_put h.anc fl⟩
  · obtain ⟨v, hv, hr⟩ := h.env s x hs
    refine ⟨v, hv, hr.keep hk (fun _ hk => hk) fun b hb => update_other φ d pl fun e => ?_⟩
    subst e
    rw [namesEnv_get hs fe] at hb; cases hb
  · by_cases e : b = d
    · subst e
      rw [get_put_same] at hc'
      cases hc'
      exact hB
    · rw [get_put_other _ _ _ _ e] at hc'
      have hb := h.heap b c' hc'
      refine hb.keep hk (fun _ hk => hk) (fun g hg => ?_) (update_other φ d pl e) fun b' hb' => update_other φ d pl fun e => ?_
      · obtain ⟨h1, h2, _⟩ := hb.lt hg
        exact ⟨Below.heap_alloc w o g h1, h2⟩
      · subst e
        rw [(namesHeap_get hc' fh).1] at hb'; cases hb'
  · intro b b' c1 c2 g h1 h2 h3 h4
    by_cases e : b = d
    · by_cases e' : b' = d
      · omega
      · rw [get_put_other _ _ _ _ e'] at h2
        simp only [e, if_true] at h3
        simp only [e', if_false] at h4
        rw [hpl] at h3
        cases h3
        have := ((h.heap b' c2 h2).lt h4).1
        omega
    · rw [get_put_other _ _ _ _ e] at h1
      simp only [e, if_false] at h3
      by_cases e' : b' = d
      · simp only [e', if_true] at h4
        rw [hpl] at h4
        cases h4
        have := ((h.heap b c1 h1).lt h3).1
        omega
      · rw [get_put_other _ _ _ _ e'] at h2
        simp only [e', if_false] at h4
        exact h.inj b b' c1 c2 g h1 h2 h3 h4
  · have := h.ro k hk
    simp; omega

/-- The content of a box has turned, in its own block. -/
theorem Rel.setBox (h : Rel C W0 F0 st a w F φ) {b g : Nat} {c c' : BoxC} {w' : World} (hb : get st.heap b = some c) (hg : (φ b).blk = some g) (hos : w'.os = w.os) (ht : w'.tape = w.tape) (ho : w'.output = w.output)
    (hs : w'.heap.size = w.heap.size) (hw : ∀ k, k ≠ g → w'.heap[k]? = w.heap[k]?) (hkd : c'.isRow = c.isRow) (hB : BoxOK w' F φ W0.B b c') :
    Rel C W0 F0 { st with heap := put st.heap b c' } a w' F φ := by
  obtain ⟨g1, g2, g3⟩ := (h.heap b c hb).lt hg
  have hk : ∀ k, F k → w'.heap[k]? = w.heap[k]? := fun k hk => hw k fun e => g2 (e ▸ hk)
  refine ⟨fun s x hx => ?_, fun b' c1 hc1 => ?_, ?_, fun k hk => by rw [hs]; exact h.ro k hk, h.base.trans (L' := fun k => k = g) ⟨hos, ht, ho, by omega, fun k _ hk => hw k hk⟩ (fun i hi hlt => by subst hi; exact g3.resolve_left (by omega)), h.sub, h.new, h.dfr, h.tsz, fun g x hg => (h.glob g x hg).keep hk fun _ hk => hk, fun b' p hp => ?_⟩
  · obtain ⟨v, hv, hr⟩ := h.env s x hx
    exact ⟨v, hv, hr.keep hk (fun _ hk => hk) fun _ _ => rfl⟩
  · by_cases e : b' = b
    · subst e
      rw [get_put_same] at hc1
      cases hc1
      exact hB
    · rw [get_put_other _ _ _ _ e] at hc1
      have hb' := h.heap b' c1 hc1
      refine hb'.keep hk (fun _ hk => hk) (fun g' hg' => ?_) rfl fun _ _ => rfl
      exact ⟨hw g' fun e' => e (h.inj b' b c1 c g hc1 hb (e' ▸ hg') hg), (hb'.lt hg').2.1⟩
  · intro b1 b2 c1 c2 g' h1 h2 h3 h4
    have i1 : ∃ c1', get st.heap b1 = some c1' := by
      by_cases e : b1 = b
      · exact ⟨c, e ▸ hb⟩
      · rw [get_put_other _ _ _ _ e] at h1; exact ⟨c1, h1⟩
    have i2 : ∃ c2', get st.heap b2 = some c2' := by
      by_cases e : b2 = b
      · exact ⟨c, e ▸ hb⟩
      · rw [get_put_other _ _ _ _ e] at h2; exact ⟨c2, h2⟩
    obtain ⟨c1', i1⟩ := i1
    obtain ⟨c2', i2⟩ := i2
    exact h.inj b1 b2 c1' c2' g' i1 i2 h3 h4
  · obtain ⟨a1, a2, a3⟩ := h.anc b' p hp
    refine ⟨a1, a2, fun c1 hc1 => ?_⟩
    by_cases e : b' = b
    · subst e
      rw [get_put_same] at hc1
      cases hc1
      rw [hkd]; exact a3 c hb
    · rw [get_put_other _ _ _ _ e] at hc1; exact a3 c1 hc1
end
end Go.AV
