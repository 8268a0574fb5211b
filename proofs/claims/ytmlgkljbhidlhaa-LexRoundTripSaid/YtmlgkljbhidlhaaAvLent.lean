/- A call to which boxes are lent: what the caller knows afterwards. -/
import Derived.Test.YtmlgkljbhidlhaaAvFresh
namespace Go.AV
open Go.RowKit

def inN (b : Nat) : List Nat → Bool
  | [] => false
  | k :: l => Nat.beq k b || inN b l
def nodupN : List Nat → Bool
  | [] => true
  | k :: l => !inN k l && nodupN l
theorem inN_iff {b : Nat} : ∀ {l : List Nat}, inN b l = true ↔ b ∈ l
  | [] => by simp [inN]
  | k :: l => by
    simp only [inN, Bool.or_eq_true, inN_iff (l := l), List.mem_cons]
    constructor
    · rintro (h | h)
      · exact .inl (Nat.eq_of_beq_eq_true h).symm
      · exact .inr h
    · rintro (rfl | h)
      · exact .inl (Nat.beq_refl b)
      · exact .inr h

/-- The boxes of the list, and the others. -/
def selAll (ks : List Nat) : List (Nat × BoxC) → List (Nat × BoxC)
  | [] => []
  | (k, c) :: l => match inN k ks with | true => (k, c) :: selAll ks l | false => selAll ks l
def dropAll (ks : List Nat) : List (Nat × BoxC) → List (Nat × BoxC)
  | [] => []
  | (k, c) :: l => match inN k ks with | true => dropAll ks l | false => (k, c) :: dropAll ks l
theorem get_selAll {ks : List Nat} {b : Nat} {c : BoxC} : ∀ {l : List (Nat × BoxC)}, get (selAll ks l) b = some c → get l b = some c ∧ b ∈ ks
  | [], h => by simp [selAll, get] at h
  | (k, d) :: l, h => by
    simp only [selAll] at h
    split at h
    · rename_i hk
      simp only [get] at h ⊢
      split at h
      · rename_i e
        cases h
        exact ⟨rfl, Nat.eq_of_beq_eq_true e ▸ inN_iff.1 hk⟩
      · exact get_selAll h
    · rename_i hk
      obtain ⟨h1, h2⟩ := get_selAll h
      refine ⟨?_, h2⟩
      simp only [get]
      split
      · rename_i e
        rw [Nat.eq_of_beq_eq_true e] at hk
        rw [inN_iff.2 h2] at hk; cases hk
      · exact h1
theorem get_dropAll {ks : List Nat} {b : Nat} {c : BoxC} : ∀ {l : List (Nat × BoxC)}, get (dropAll ks l) b = some c → get l b = some c ∧ b ∉ ks
  | [], h => by simp [dropAll, get] at h
  | (k, d) :: l, h => by
    simp only [dropAll] at h
    split at h
    · rename_i hk
      obtain ⟨h1, h2⟩ := get_dropAll h
      refine ⟨?_, h2⟩
      simp only [get]
      split
      · rename_i e
        rw [Nat.eq_of_beq_eq_true e] at hk
        exact absurd (inN_iff.1 hk) h2
      · exact h1
    · rename_i hk
      simp only [get] at h ⊢
      split at h
      · rename_i e
        cases h
        refine ⟨rfl, fun hm => ?_⟩
        rw [Nat.eq_of_beq_eq_true e, inN_iff.2 hm] at hk; cases hk
      · exact get_dropAll h

mutual
/-- The boxes that a value names. -/
def AV.boxes : AV → List Nat
  | .own b _ | .ptr b _ | .optr b _ _ => [b]
  | .agg l | .tup l => AV.boxesL l
  | .mc _ x => x.boxes
  | _ => []
def AV.boxesL : List AV → List Nat
  | [] => []
  | x :: l => x.boxes ++ AV.boxesL l
end
/-- All that is reached, in the order in which it comes up. -/
def reach (h : List (Nat × BoxC)) : Nat → List Nat → List Nat → List Nat
  | 0, _, acc => acc
  | _ + 1, [], acc => acc
  | n + 1, b :: l, acc => match inN b acc with
    | true => reach h n l acc
    | false => match get h b with
      | some (.cell _ _ x) => reach h n (x.boxes ++ l) (acc ++ [b])
      | _ => reach h n l (acc ++ [b])
def contents (h : List (Nat × BoxC)) : List Nat → Option (List BoxC)
  | [] => some []
  | b :: l => match get h b, contents h l with
    | some c, some cs => some (c :: cs)
    | _, _ => none
def idxN : List Nat → Nat → Nat
  | [], _ => 0
  | k :: l, b => match Nat.beq k b with | true => 0 | false => idxN l b + 1
def subBoxes (n : Nat → Nat) : List BoxC → List BoxC
  | [] => []
  | c :: l => c.sub n :: subBoxes n l
def nthN : List Nat → Nat → Option Nat
  | [], _ => none
  | k :: _, 0 => some k
  | _ :: l, i + 1 => nthN l i
/-- Box number i of the callee's, as the caller calls it. -/
def nameL (ns : List Nat) (d i : Nat) : Nat := match nthN ns i with | some b => b | none => (d + 1) * 4096 + (i - ns.length)
/-- The boxes whose place may have turned. -/
def goneN : List Nat → List BoxC → List (Option BoxC) → List Nat
  | b :: ns, c :: hs, o :: os => match c, o with
    | .cell _ _ _, some _ => goneN ns hs os
    | _, _ => b :: goneN ns hs os
  | ns, _, _ => ns
def killsEnv : List Nat → List (Nat × AV) → List (Nat × AV)
  | [], e => e
  | b :: l, e => killsEnv l (killEnv b e)
def killsHeap : List Nat → List (Nat × BoxC) → List (Nat × BoxC)
  | [], h => h
  | b :: l, h => killsHeap l (killHeap b h)
def layL (nm : Nat → Nat) : List Nat → List (Option BoxC) → List (Nat × BoxC) → List (Nat × BoxC)
  | b :: ns, some c :: os, h => put (layL nm ns os h) b (c.sub nm)
  | _ :: ns, none :: os, h => layL nm ns os h
  | _, _, h => h
/-- What was made anew. -/
def restL : List Nat → List (Option BoxC) → Option (List BoxC)
  | _ :: ns, _ :: os => restL ns os
  | _ :: _, [] => none
  | [], [] => some []
  | [], some c :: os => match restL [] os with | some l => some (c :: l) | none => none
  | [], none :: _ => none
def isAt : List (Option BoxC) → Nat → Bool
  | [], _ => false
  | o :: _, 0 => o.isSome
  | _ :: os, i + 1 => isAt os i
def onlyAll (m : Nat → Bool) : List BoxC → Bool
  | [] => true
  | c :: l => c.only m && onlyAll m l
def onlyAllO (m : Nat → Bool) : List (Option BoxC) → Bool
  | [] => true
  | some c :: l => c.only m && onlyAllO m l
  | none :: l => onlyAllO m l
/-- A cell stays a cell. -/
def kindsL : List BoxC → List (Option BoxC) → Bool
  | c :: hs, some o :: os => (match c.isRow, o.isRow with | true, true => true | false, false => true | _, _ => false) && kindsL hs os
  | _ :: hs, none :: os => kindsL hs os
  | _, _ => true
def dstL (C : Cfg) : Option Nat → Nat → Bool
  | some d, _ => Nat.blt d C.ntmps
  | none, n => Nat.beq n 0
def apartN (n m : Nat) : List Nat → Bool
  | [] => true
  | b :: l => (Nat.blt b n || Nat.ble m b) && apartN n m l
def dstN : Option Nat → Nat
  | some d => d
  | none => 0
def lentW (C : Cfg) (st : St) (dst : Option Nat) (f : FuncId) (args : List AV) (ns : List Nat) (hs : List BoxC) (r : AV) (os : List (Option BoxC)) : Option (St × List Prop) :=
  match restL ns os with
  | some cs => match AV.only0L (fun b => inN b ns) args && areVals args && nodupN ns && onlyAll (fun b => inN b ns) hs && goodRes (isAt os) r && onlyAllO (isAt os) os && kindsL hs os && dstL C dst cs.length && apartN ((dstN dst + 1) * 4096) ((dstN dst + 1) * 4096 + cs.length) ns,
      addRows ⟨killsEnv (goneN ns hs os) st.env, dropAll ns (killsHeap (goneN ns hs os) st.heap)⟩ ((dstN dst + 1) * 4096) cs with
    | true, some st1 => some (putDst { st1 with heap := layL (nameL ns (dstN dst)) ns os st1.heap } dst (r.sub (nameL ns (dstN dst))), [C.CCL f (AV.subL (idxN ns) args) (subBoxes (idxN ns) hs) r os])
    | _, _ => none
  | none => none
def lentV (C : Cfg) (st : St) (dst : Option Nat) (f : FuncId) (args : List AV) (ns : List Nat) : Option (St × List Prop) :=
  match contents st.heap ns with
  | some hs => match C.lent f (AV.subL (idxN ns) args) (subBoxes (idxN ns) hs) with
    | some (r, os) => lentW C st dst f args ns hs r os
    | none => none
  | none => none
def absLent (C : Cfg) (st : St) (o : Oper) : Option (St × List Prop) :=
  match o.op, o.guard with
  | .call c, none => match c.callee with
    | .value fx => match ev C st fx, evList (ev C st) c.args.toList with
      | some (.clo f []), some args => lentV C st o.dst f args (reach st.heap 64 (AV.boxesL args) [])
      | _, _ => none
    | _ => none
  | _, _ => none

theorem apartN_get {n m : Nat} : ∀ {l : List Nat} {b : Nat}, apartN n m l = true → b ∈ l → b < n ∨ m ≤ b
  | [], _, _, h => by cases h
  | k :: l, b, ha, h => by
    simp only [apartN, Bool.and_eq_true, Bool.or_eq_true] at ha
    rcases List.mem_cons.1 h with rfl | h
    · exact ha.1.imp (fun h => Nat.le_of_ble_eq_true h) fun h => Nat.le_of_ble_eq_true h
    · exact apartN_get ha.2 h
theorem killsEnv_get : ∀ {ks : List Nat} {l : List (Nat × AV)} {s : Nat} {x : AV}, get (killsEnv ks l) s = some x → ∃ y, get l s = some y ∧ ((y = x ∧ ∀ b ∈ ks, x.names b = false) ∨ x = .when false .any)
  | [], l, s, x, h => ⟨x, h, .inl ⟨rfl, fun b hb => by cases hb⟩⟩
  | k :: ks, l, s, x, h => by
    simp only [killsEnv] at h
    obtain ⟨y, hy, hc⟩ := killsEnv_get h
    obtain ⟨z, hz, hc'⟩ := killEnv_get hy
    refine ⟨z, hz, ?_⟩
    rcases hc with ⟨rfl, hc⟩ | hc
    · rcases hc' with ⟨rfl, hc'⟩ | hc'
      · exact .inl ⟨rfl, fun b hb => by
          rcases List.mem_cons.1 hb with rfl | hb
          · exact hc'
          · exact hc b hb⟩
      · exact .inr hc'
    · exact .inr hc
/-- Kept, part by part, or not known. -/
def KilledBox (ks : List Nat) (d c : BoxC) : Prop :=
  c.isRow = d.isRow ∧ match d, c with
  | .row ty sh n f, c => c = .row ty sh n f
  | .cell tc sh x, .cell tc' sh' y => tc' = tc ∧ sh' = sh ∧ ∀ j, (leafAt sh y j = leafAt sh x j ∧ ∀ b ∈ ks, (leafAt sh x j).names b = false) ∨ leafAt sh y j = .any
  | .cell _ _ _, .row _ _ _ _ => False
theorem killsHeap_get : ∀ {ks : List Nat} {l : List (Nat × BoxC)} {s : Nat} {c : BoxC}, get (killsHeap ks l) s = some c → ∃ d, get l s = some d ∧ KilledBox ks d c
  | [], l, s, c, h => ⟨c, h, rfl, by
      cases c with
      | row => rfl
      | cell tc sh x => exact ⟨rfl, rfl, fun j => .inl ⟨rfl, fun b hb => by cases hb⟩⟩⟩
  | k :: ks, l, s, c, h => by
    simp only [killsHeap] at h
    obtain ⟨d, hd, hc⟩ := killsHeap_get h
    obtain ⟨d0, hd0, rfl⟩ := killHeap_get hd
    refine ⟨d0, hd0, hc.1.trans kill_isRow, ?_⟩
    cases d0 with
    | row ty sh n f => exact hc.2
    | cell tc sh x =>
      have e : BoxC.kill k (.cell tc sh x) = .cell tc sh (x.kill k) ∨ (BoxC.kill k (.cell tc sh x) = .cell tc sh x ∧ x.names k = false) := by
        simp only [BoxC.kill]
        cases hx : x.names k with
        | true => exact .inl rfl
        | false => exact .inr ⟨rfl, rfl⟩
      rcases e with e | ⟨e, hx⟩ <;> rw [e] at hc <;> cases c with
      | row => exact hc.2.elim
      | cell tc' sh' y =>
        obtain ⟨_, rfl, rfl, hc⟩ := hc
        refine ⟨rfl, rfl, fun j => ?_⟩
        rcases hc j with ⟨h1, h2⟩ | h1
        · first
          | rcases kill_leafAt (b := k) sh' x j with ⟨h3, h4⟩ | h3
            · rw [h3] at h1 h2
              exact .inl ⟨h1, fun b hb => by
                rcases List.mem_cons.1 hb with rfl | hb
                · exact h4
                · exact h2 b hb⟩
            · exact .inr (h1.trans h3)
          | exact .inl ⟨h1, fun b hb => by
                rcases List.mem_cons.1 hb with rfl | hb
                · cases hn : (leafAt sh' x j).names b with
                  | false => rfl
                  | true => rw [names_leafAt sh' x j hn] at hx; cases hx
                · exact h2 b hb⟩
        · exact .inr h1
theorem idxN_get : ∀ {l : List Nat} {b : Nat}, inN b l = true → l[idxN l b]? = some b
  | [], _, h => by cases h
  | k :: l, b, h => by
    simp only [idxN]
    cases e : Nat.beq k b with
    | true => simp [Nat.eq_of_beq_eq_true e]
    | false => simp only [inN, e, Bool.false_or] at h; simpa using idxN_get h
theorem idxN_at : ∀ {l : List Nat} {i b : Nat}, nodupN l = true → l[i]? = some b → idxN l b = i
  | [], _, _, _, h => by simp at h
  | k :: l, 0, b, _, h => by simp at h; subst h; simp [idxN]
  | k :: l, i + 1, b, hn, h => by
    simp only [nodupN, Bool.and_eq_true, Bool.not_eq_true'] at hn
    simp at h
    have : Nat.beq k b = false := by
      cases e : Nat.beq k b with
      | false => rfl
      | true => rw [Nat.eq_of_beq_eq_true e, inN_iff.2 (List.mem_of_getElem? h)] at hn; cases hn.1
    simp only [idxN, this]
    rw [idxN_at hn.2 h]
theorem contents_get : ∀ {l : List Nat} {h : List (Nat × BoxC)} {cs : List BoxC}, contents h l = some cs → l.length = cs.length ∧ ∀ (i b : Nat), l[i]? = some b → ∃ c, cs[i]? = some c ∧ get h b = some c
  | [], h, cs, e => by simp [contents] at e; subst e; exact ⟨rfl, fun i b h => by simp at h⟩
  | k :: l, h, cs, e => by
    simp only [contents] at e
    split at e
    case h_2 => cases e
    rename_i c cs' h1 h2
    cases e
    obtain ⟨k1, k2⟩ := contents_get h2
    refine ⟨by simp [k1], fun i b hb => ?_⟩
    cases i with
    | zero => simp at hb; subst hb; exact ⟨c, rfl, h1⟩
    | succ i => simp at hb; obtain ⟨c', h3, h4⟩ := k2 i b hb; exact ⟨c', by simpa using h3, h4⟩
theorem subBoxes_get (n : Nat → Nat) : ∀ {l : List BoxC} {i : Nat} {c : BoxC}, (subBoxes n l)[i]? = some c → ∃ d, l[i]? = some d ∧ c = d.sub n
  | [], _, _, h => by simp [subBoxes] at h
  | d :: l, 0, c, h => by simp [subBoxes] at h; exact ⟨d, rfl, h.symm⟩
  | d :: l, i + 1, c, h => by simp [subBoxes] at h; simpa using subBoxes_get n h
theorem subBoxes_len (n : Nat → Nat) : ∀ l : List BoxC, (subBoxes n l).length = l.length
  | [] => rfl
  | c :: l => by simp [subBoxes, subBoxes_len n l]
theorem subBoxes_at (n : Nat → Nat) : ∀ {l : List BoxC} {i : Nat} {c : BoxC}, l[i]? = some c → (subBoxes n l)[i]? = some (c.sub n)
  | [], _, _, h => by simp at h
  | d :: l, 0, c, h => by simp at h; subst h; rfl
  | d :: l, i + 1, c, h => by simp at h; simpa [subBoxes] using subBoxes_at n h
theorem onlyAll_get {m : Nat → Bool} : ∀ {l : List BoxC} {i : Nat} {c : BoxC}, onlyAll m l = true → l[i]? = some c → c.only m = true
  | [], _, _, _, h => by simp at h
  | d :: l, 0, c, ho, h => by simp only [onlyAll, Bool.and_eq_true] at ho; simp at h; subst h; exact ho.1
  | d :: l, i + 1, c, ho, h => by simp only [onlyAll, Bool.and_eq_true] at ho; simp at h; exact onlyAll_get ho.2 h
theorem onlyAllO_get {m : Nat → Bool} : ∀ {l : List (Option BoxC)} {i : Nat} {c : BoxC}, onlyAllO m l = true → l[i]? = some (some c) → c.only m = true
  | [], _, _, _, h => by simp at h
  | d :: l, 0, c, ho, h => by simp at h; subst h; simp only [onlyAllO, Bool.and_eq_true] at ho; exact ho.1
  | some d :: l, i + 1, c, ho, h => by simp only [onlyAllO, Bool.and_eq_true] at ho; simp at h; exact onlyAllO_get ho.2 h
  | none :: l, i + 1, c, ho, h => by simp only [onlyAllO] at ho; simp at h; exact onlyAllO_get ho h
theorem nthN_eq : ∀ (l : List Nat) (i : Nat), nthN l i = l[i]?
  | [], _ => by simp [nthN]
  | _ :: _, 0 => by simp [nthN]
  | _ :: l, i + 1 => by simp [nthN, nthN_eq l i]
theorem isAt_get : ∀ {os : List (Option BoxC)} {i : Nat}, isAt os i = true → ∃ c, os[i]? = some (some c)
  | [], _, h => by cases h
  | o :: os, 0, h => by
    cases o with
    | none => cases h
    | some c => exact ⟨c, rfl⟩
  | o :: os, i + 1, h => by simpa using isAt_get (os := os) h
theorem restL_nil : ∀ {os : List (Option BoxC)} {cs : List BoxC}, restL [] os = some cs → os.length = cs.length ∧ ∀ (j : Nat) (c : BoxC), cs[j]? = some c → os[j]? = some (some c)
  | [], cs, h => by simp [restL] at h; subst h; exact ⟨rfl, fun j c h => by simp at h⟩
  | none :: os, cs, h => by simp [restL] at h
  | some d :: os, cs, h => by
    simp only [restL] at h
    split at h
    case h_2 => cases h
    rename_i l hl
    cases h
    obtain ⟨h1, h2⟩ := restL_nil hl
    refine ⟨by simp [h1], fun j c hc => ?_⟩
    cases j with
    | zero => simp at hc; subst hc; rfl
    | succ j => simp at hc; simpa using h2 j c hc
theorem restL_get : ∀ {ns : List Nat} {os : List (Option BoxC)} {cs : List BoxC}, restL ns os = some cs → os.length = ns.length + cs.length ∧ ∀ (j : Nat) (c : BoxC), cs[j]? = some c → os[ns.length + j]? = some (some c)
  | [], os, cs, h => by
    obtain ⟨h1, h2⟩ := restL_nil h
    exact ⟨by simpa using h1, fun j c hc => by simpa using h2 j c hc⟩
  | _ :: ns, [], cs, h => by simp [restL] at h
  | b :: ns, o :: os, cs, h => by
    simp only [restL] at h
    obtain ⟨h1, h2⟩ := restL_get h
    refine ⟨by simp only [List.length_cons]; omega, fun j c hc => ?_⟩
    have := h2 j c hc
    rw [List.length_cons, show ns.length + 1 + j = (ns.length + j) + 1 from by omega]
    simpa using this
theorem layL_get {nm : Nat → Nat} : ∀ {ns : List Nat} {os : List (Option BoxC)} {h : List (Nat × BoxC)} {b : Nat} {c : BoxC}, get (layL nm ns os h) b = some c → (∃ (i : Nat) (c' : BoxC), ns[i]? = some b ∧ os[i]? = some (some c') ∧ c = c'.sub nm) ∨ get h b = some c
  | [], os, h, b, c, e => .inr (by cases os <;> simpa [layL] using e)
  | k :: ns, [], h, b, c, e => .inr (by simpa [layL] using e)
  | k :: ns, none :: os, h, b, c, e => by
    simp only [layL] at e
    rcases layL_get e with ⟨i, c', h1, h2, h3⟩ | h1
    · exact .inl ⟨i + 1, c', by simpa using h1, by simpa using h2, h3⟩
    · exact .inr h1
  | k :: ns, some d :: os, h, b, c, e => by
    simp only [layL] at e
    by_cases hb : b = k
    · subst hb
      rw [get_put_same] at e
      cases e
      exact .inl ⟨0, d, rfl, rfl, rfl⟩
    · rw [get_put_other _ _ _ _ hb] at e
      rcases layL_get e with ⟨i, c', h1, h2, h3⟩ | h1
      · exact .inl ⟨i + 1, c', by simpa using h1, by simpa using h2, h3⟩
      · exact .inr h1
/-- What is not gone is a cell that stayed. -/
theorem goneN_not : ∀ {ns : List Nat} {hs : List BoxC} {os : List (Option BoxC)} {i b : Nat}, ns[i]? = some b → b ∉ goneN ns hs os → ∃ tc sh x c', hs[i]? = some (.cell tc sh x) ∧ os[i]? = some (some c')
  | [], _, _, _, _, h, _ => by simp at h
  | k :: ns, [], os, i, b, h, hg => by
    simp only [goneN] at hg
    exact absurd (List.mem_of_getElem? h) hg
  | k :: ns, c :: hs, [], i, b, h, hg => by
    simp only [goneN] at hg
    exact absurd (List.mem_of_getElem? h) hg
  | k :: ns, c :: hs, o :: os, 0, b, h, hg => by
    simp at h; subst h
    cases c with
    | row => simp [goneN] at hg
    | cell tc sh x =>
      cases o with
      | none => simp [goneN] at hg
      | some c' => exact ⟨tc, sh, x, c', rfl, rfl⟩
  | k :: ns, c :: hs, o :: os, i + 1, b, h, hg => by
    have hg' : b ∉ goneN ns hs os := fun hm => hg (by
      simp only [goneN]
      split
      · exact hm
      · exact List.mem_cons_of_mem _ hm)
    simp at h
    simpa using goneN_not h hg'
theorem kindsL_get : ∀ {hs : List BoxC} {os : List (Option BoxC)} {i : Nat} {c o : BoxC}, kindsL hs os = true → hs[i]? = some c → os[i]? = some (some o) → o.isRow = c.isRow
  | [], _, _, _, _, _, h, _ => by simp at h
  | _ :: _, [], _, _, _, _, _, h => by simp at h
  | d :: hs, some o' :: os, 0, c, o, hk, h1, h2 => by
    simp at h1 h2; subst h1 h2
    simp only [kindsL, Bool.and_eq_true] at hk
    generalize d.isRow = p at *
    generalize o'.isRow = q at *
    cases p <;> cases q <;> first | rfl | (exact absurd hk.1 (by decide))
  | d :: hs, none :: os, 0, c, o, hk, h1, h2 => by simp at h2
  | d :: hs, some o' :: os, i + 1, c, o, hk, h1, h2 => by
    simp only [kindsL, Bool.and_eq_true] at hk
    exact kindsL_get hk.2 (by simpa using h1) (by simpa using h2)
  | d :: hs, none :: os, i + 1, c, o, hk, h1, h2 => by
    simp only [kindsL] at hk
    exact kindsL_get hk (by simpa using h1) (by simpa using h2)
theorem addRows_get : ∀ {cs : List BoxC} {n : Nat} {st st' : St} {b : Nat} {c : BoxC}, addRows st n cs = some st' → get st'.heap b = some c → (get st.heap b = some c ∧ (b < n ∨ n + cs.length ≤ b)) ∨ ∃ j, j < cs.length ∧ b = n + j ∧ cs[j]? = some c
  | [], n, st, st', b, c, hs, h => by
    simp only [addRows, Option.some.injEq] at hs
    subst hs
    exact .inl ⟨h, by simp; omega⟩
  | d :: cs, n, st, st', b, c, hs, h => by
    simp only [addRows] at hs
    split at hs
    case h_2 => cases hs
    rcases addRows_get hs h with ⟨h1, h2⟩ | ⟨j, h1, h2, h3⟩
    · by_cases e : b = n
      · subst e
        simp only [get_put_same, Option.some.injEq] at h1
        exact .inr ⟨0, by simp, rfl, by simp [h1]⟩
      · simp only [get_put_other _ _ _ _ e] at h1
        exact .inl ⟨h1, by simp only [List.length_cons]; omega⟩
    · exact .inr ⟨j + 1, by simpa using h1, by omega, by simpa using h3⟩
theorem addRows_env : ∀ {cs : List BoxC} {n : Nat} {st st' : St}, addRows st n cs = some st' → st'.env = st.env
  | [], n, st, st', hs => by simp only [addRows, Option.some.injEq] at hs; rw [hs]
  | d :: cs, n, st, st', hs => by
    simp only [addRows] at hs
    split at hs
    case h_2 => cases hs
    rw [addRows_env hs]
end Go.AV
