/- The types that a reckoning leans on, held against the program's own. -/
import Derived.Test.YtmlgkljbhidlhaaAvRel
namespace Go.AV
open Go.RowKit

def kindIs (C : Cfg) (sh : Shape) (d : TypeDesc) : TyK → Prop
  | .int k => d = .int k ∧ sh = .leaf
  | .bool => d = .bool ∧ sh = .leaf
  | .string => d = .string ∧ sh = .leaf
  | .slice e => d = .slice e ∧ sh = .leaf
  | .arr n e => d = .array n e ∧ ∃ te, tyOf C e = some te ∧ sh = .arr n te.sh
  | .struct fs => ∃ fields : Array Field, ∃ ss, d = .struct fields ∧ sh = .agg ss ∧ ss.length = fs.length ∧ fs = fields.toList.map (·.type) ∧
      ∀ i : Nat, ∀ f : Field, fields[i]? = some f → ∃ te, tyOf C f.type = some te ∧ ss[i]? = some te.sh ∧ f.offset = Shape.sizes (ss.take i) ∧ f.name ≠ "_"
  | .other => sh = .leaf ∧ (match d with | .struct _ | .array _ _ => False | _ => True)

def zeroIs (v : Value) : AV → Prop
  | .any => v.oneCell' = true
  | .int k n => v = .int k n ∧ InR k n
  | .bool b => v = .bool b
  | .str l => v = .string ⟨l.toArray⟩
  | .nils => v = .slice none 0 0
  | .nilp => v = .pointer none
  | .st x => zeroIs v x
  | _ => False

structure TyOK (C : Cfg) (t : TypeId) (te : TyE) : Prop where
  info : ∃ d i z, C.P.underlying t = some d ∧ C.P.info? t = some i ∧ i.size = te.sh.size ∧ i.bytes = te.bytes ∧ i.zero = some z ∧ z.cells.size = te.sh.size ∧ kindIs C te.sh d te.kind ∧
    ∀ j, j < te.sh.size → zeroIs (z.cells.getD j undef) (leafAt te.sh te.zero j)
  pos : 0 < te.sh.size
  zst : te.zero.isStat = true
  eqs : te.eqs = true → C.P.eqGuardType C.P.depth t = false ∧ C.P.stoodInHeld t = false ∧ ∃ fs, te.kind = .struct fs ∧
    ∀ e ∈ fs, ∃ tf, tyOf C e = some tf ∧ tf.sh = .leaf ∧ ((∃ k, tf.kind = .int k) ∨ tf.kind = .bool ∨ tf.kind = .string)

def sameNats : List Nat → List Nat → Bool
  | [], [] => true
  | a :: l, b :: m => Nat.beq a b && sameNats l m
  | _, _ => false
theorem sameNats_eq : ∀ {l m : List Nat}, sameNats l m = true → l = m
  | [], [], _ => rfl
  | a :: l, b :: m, h => by
    simp only [sameNats, Bool.and_eq_true] at h
    rw [Nat.eq_of_beq_eq_true h.1, sameNats_eq h.2]
  | [], _ :: _, h | _ :: _, [], h => by simp [sameNats] at h

def kindCheck (C : Cfg) (sh : Shape) (d : TypeDesc) : TyK → Bool
  | .int k => match d, sh with | .int k', .leaf => decide (k' = k) | _, _ => false
  | .bool => match d, sh with | .bool, .leaf => true | _, _ => false
  | .string => match d, sh with | .string, .leaf => true | _, _ => false
  | .slice e => match d, sh with | .slice e', .leaf => Nat.beq e' e | _, _ => false
  | .arr n e => match d, sh with
    | .array n' e', .arr m s => Nat.beq n' n && (Nat.beq e' e && (Nat.beq m n && (match tyOf C e with | some te => s.same te.sh | none => false)))
    | _, _ => false
  | .struct fs => match d, sh with
    | .struct fields, .agg ss => Nat.beq ss.length fs.length && (sameNats fs (fields.toList.map (·.type)) && fieldsCheck C fields.toList ss 0)
    | _, _ => false
  | .other => match d, sh with | .struct _, _ => false | .array _ _, _ => false | _, .leaf => true | _, _ => false
where
  fieldsCheck (C : Cfg) : List Field → List Shape → Nat → Bool
    | [], _, _ => true
    | f :: fs, s :: ss, off => Nat.beq f.offset off && (decide (f.name ≠ "_") && ((match tyOf C f.type with | some te => s.same te.sh | none => false) && fieldsCheck C fs ss (off + s.size)))
    | _ :: _, [], _ => false

def eqsCheck (C : Cfg) (t : TypeId) (te : TyE) : Bool :=
  match te.eqs with
  | false => true
  | true => (!C.P.eqGuardType C.P.depth t) && ((!C.P.stoodInHeld t) && (match te.kind with
    | .struct fs => fs.all fun e => match tyOf C e with
      | some tf => match tf.kind, tf.sh with
        | .int _, .leaf | .bool, .leaf | .string, .leaf => true
        | _, _ => false
      | none => false
    | _ => false))

def zeroCheck (v : Value) : AV → Bool
  | .any => v.oneCell'
  | .int k n => match v with | .int k' n' => decide (k' = k) && (decide (n' = n) && decide (k.wrap n = n)) | _ => false
  | .bool b => match v with | .bool b' => (match b, b' with | true, true | false, false => true | _, _ => false) | _ => false
  | .str l => match v with | .string s => (match s.data.toList, l with | [], [] => true | _, _ => false) | _ => false
  | .nils => match v with | .slice none 0 0 => true | _ => false
  | .nilp => match v with | .pointer none => true | _ => false
  | .st x => zeroCheck v x
  | _ => false

def zerosCheck (z : Array Value) (sh : Shape) (x : AV) : Nat → Bool
  | 0 => true
  | j + 1 => zeroCheck (z.getD j undef) (leafAt sh x j) && zerosCheck z sh x j

def tyCheck (C : Cfg) (t : TypeId) (te : TyE) : Bool :=
  match C.P.underlying t, C.P.info? t with
  | some d, some i => match i.zero with
    | some z => Nat.beq i.size te.sh.size && (Nat.beq i.bytes te.bytes && (Nat.beq z.cells.size te.sh.size && (kindCheck C te.sh d te.kind && (zerosCheck z.cells te.sh te.zero te.sh.size && (Nat.blt 0 te.sh.size && (te.zero.isStat && eqsCheck C t te))))))
    | none => false
  | _, _ => false

theorem zeroCheck_is {v : Value} : ∀ {x : AV}, zeroCheck v x = true → zeroIs v x
  | .any, h => h
  | .int k n, h => by
    cases v <;> simp [zeroCheck] at h
    obtain ⟨rfl, rfl, h⟩ := h
    exact ⟨rfl, h⟩
  | .bool b, h => by
    cases v <;> simp [zeroCheck] at h
    rename_i b'
    cases b <;> cases b' <;> simp_all [zeroIs]
  | .str l, h => by
    cases v <;> simp [zeroCheck] at h
    rename_i s
    split at h
    · rename_i h1
      show Value.string s = .string ⟨([] : List UInt8).toArray⟩
      congr 1
      obtain ⟨⟨d⟩⟩ := s
      simp at h1
      subst h1
      rfl
    · cases h
  | .nils, h => by
    unfold zeroCheck at h
    split at h <;> first | rfl | cases h
  | .nilp, h => by
    unfold zeroCheck at h
    split at h <;> first | rfl | cases h
  | .st x, h => by
    simp only [zeroIs]
    exact zeroCheck_is (by simpa [zeroCheck] using h)
  | .seq _ _ _, h | .seqc _ _ _, h | .rptr _ _, h | .own _ _, h | .ptr _ _, h | .optr _ _ _, h | .clo _ _, h | .agg _, h | .arr _ _, h | .mc _ _, h | .tup _, h | .when _ _, h => by simp [zeroCheck] at h

theorem zerosCheck_is {z : Array Value} {sh : Shape} {x : AV} : ∀ {n : Nat}, zerosCheck z sh x n = true → ∀ j, j < n → zeroIs (z.getD j undef) (leafAt sh x j)
  | 0, _, j, hj => by omega
  | n + 1, h, j, hj => by
    simp only [zerosCheck, Bool.and_eq_true] at h
    by_cases e : j = n
    · subst e; exact zeroCheck_is h.1
    · exact zerosCheck_is h.2 j (by omega)

theorem fieldsCheck_is {C : Cfg} : ∀ {l : List Field} {ss : List Shape} {off : Nat}, kindCheck.fieldsCheck C l ss off = true → ∀ (i : Nat) (f : Field), l[i]? = some f →
    ∃ te, tyOf C f.type = some te ∧ ss[i]? = some te.sh ∧ f.offset = off + Shape.sizes (ss.take i) ∧ f.name ≠ "_"
  | [], _, _, _, i, f, h => by simp at h
  | g :: l, [], _, h, _, _, _ => by simp [kindCheck.fieldsCheck] at h
  | g :: l, s :: ss, off, h, i, f, hf => by
    simp only [kindCheck.fieldsCheck, Bool.and_eq_true] at h
    obtain ⟨h1, h2, h3, h4⟩ := h
    cases i with
    | zero =>
      simp at hf
      subst hf
      split at h3
      · rename_i te hte
        exact ⟨te, hte, by simp [Shape.same_eq _ _ h3], by simp [Nat.eq_of_beq_eq_true h1, Shape.sizes], by simpa using h2⟩
      · cases h3
    | succ i =>
      simp at hf
      obtain ⟨te, a, b, c, d⟩ := fieldsCheck_is h4 i f hf
      exact ⟨te, a, by simpa using b, by rw [c]; simp [Shape.sizes, Nat.add_assoc], d⟩

theorem kindCheck_is {C : Cfg} {sh : Shape} {d : TypeDesc} {k : TyK} (h : kindCheck C sh d k = true) : kindIs C sh d k := by
  cases k with
  | int k => simp only [kindCheck] at h; split at h <;> simp_all [kindIs]
  | bool => simp only [kindCheck] at h; split at h <;> simp_all [kindIs]
  | string => simp only [kindCheck] at h; split at h <;> simp_all [kindIs]
  | slice e =>
    simp only [kindCheck] at h; split at h
    · simp [kindIs, Nat.eq_of_beq_eq_true h]
    · cases h
  | arr n e =>
    simp only [kindCheck] at h; split at h
    · simp only [Bool.and_eq_true] at h
      obtain ⟨h1, h2, h3, h4⟩ := h
      split at h4
      · rename_i te hte
        rw [Nat.eq_of_beq_eq_true h1, Nat.eq_of_beq_eq_true h2, Nat.eq_of_beq_eq_true h3, Shape.same_eq _ _ h4]
        exact ⟨rfl, te, hte, rfl⟩
      · cases h4
    · cases h
  | struct fs =>
    simp only [kindCheck] at h; split at h
    · simp only [Bool.and_eq_true] at h
      obtain ⟨h1, h2, h3⟩ := h
      refine ⟨_, _, rfl, rfl, Nat.eq_of_beq_eq_true h1, sameNats_eq h2, fun i f hf => ?_⟩
      obtain ⟨te, a, b, c, d⟩ := fieldsCheck_is h3 i f (by simpa using hf)
      exact ⟨te, a, b, by simpa using c, d⟩
    · cases h
  | other =>
    simp only [kindCheck] at h
    split at h <;> simp_all [kindIs]

theorem eqsCheck_is {C : Cfg} {t : TypeId} {te : TyE} (h : eqsCheck C t te = true) (he : te.eqs = true) : C.P.eqGuardType C.P.depth t = false ∧ C.P.stoodInHeld t = false ∧ ∃ fs, te.kind = .struct fs ∧
    ∀ e ∈ fs, ∃ tf, tyOf C e = some tf ∧ tf.sh = .leaf ∧ ((∃ k, tf.kind = .int k) ∨ tf.kind = .bool ∨ tf.kind = .string) := by
  simp only [eqsCheck, he, Bool.and_eq_true, Bool.not_eq_true'] at h
  obtain ⟨h1, h2, h3⟩ := h
  refine ⟨h1, h2, ?_⟩
  split at h3
  · rename_i fs hk
    refine ⟨fs, hk, fun e he' => ?_⟩
    have := List.all_eq_true.1 h3 e he'
    split at this
    · rename_i tf htf
      refine ⟨tf, htf, ?_⟩
      split at this
      · rename_i h1 h2; exact ⟨h2, .inl ⟨_, h1⟩⟩
      · rename_i h1 h2; exact ⟨h2, .inr (.inl h1)⟩
      · rename_i h1 h2; exact ⟨h2, .inr (.inr h1)⟩
      · cases this
    · cases this
  · cases h3

theorem tyCheck_ok {C : Cfg} {t : TypeId} {te : TyE} (h : tyCheck C t te = true) : TyOK C t te := by
  unfold tyCheck at h
  split at h
  · rename_i d i hd hi
    split at h
    · rename_i z hz
      simp only [Bool.and_eq_true] at h
      obtain ⟨h1, h2, h3, h4, h5, h6, h7, h8⟩ := h
      exact ⟨⟨d, i, z, hd, hi, Nat.eq_of_beq_eq_true h1, Nat.eq_of_beq_eq_true h2, hz, Nat.eq_of_beq_eq_true h3, kindCheck_is h4, zerosCheck_is h5⟩, Nat.lt_of_succ_le (by simpa [Nat.blt] using h6), h7, eqsCheck_is h8⟩
    · cases h
  · cases h

theorem get_mem {α : Type} : ∀ {l : List (Nat × α)} {s : Nat} {v : α}, get l s = some v → (s, v) ∈ l
  | [], _, _, h => by simp [get] at h
  | (k, u) :: l, s, v, h => by
    simp only [get] at h
    split at h
    · rename_i hk
      cases h
      rw [Nat.eq_of_beq_eq_true hk]; simp
    · exact List.mem_cons_of_mem _ (get_mem h)

/-- All types of the table. -/
def TysOK (C : Cfg) : Prop := ∀ t te, tyOf C t = some te → TyOK C t te
theorem tys_ok {C : Cfg} (h : (C.T.all fun p => tyCheck C p.1 p.2) = true) : TysOK C := fun t te ht =>
  tyCheck_ok (List.all_eq_true.1 h (t, te) (get_mem ht))

theorem zeroIs.rep {v : Value} {w : World} {F : Nat → Prop} : ∀ {x : AV}, zeroIs v x → RepS w F v x
  | .any, h => .any _ h
  | .int k n, h => by obtain ⟨rfl, h⟩ := h; exact .int _ _ h
  | .bool b, h => by cases h; exact .bool _
  | .str l, h => by cases h; exact .str ⟨l.toArray⟩
  | .nils, h => by cases h; exact .nils
  | .nilp, h => by cases h; exact .nilp
  | .st x, h => .st (zeroIs.rep (x := x) h)
  | .seq _ _ _, h | .seqc _ _ _, h | .rptr _ _, h | .own _ _, h | .ptr _ _, h | .optr _ _ _, h | .clo _ _, h | .agg _, h | .arr _ _, h | .mc _ _, h | .tup _, h | .when _ _, h => h.elim
end Go.AV
