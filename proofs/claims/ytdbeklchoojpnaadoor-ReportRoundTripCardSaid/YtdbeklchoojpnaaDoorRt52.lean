/- Layer 9: scanning what Join writes gives the tokens again. -/
import Derived.Test.YtdbeklchoojpnaaDoorLex52
import Derived.Test.YtdbeklchoojpnaaDoorP52e
namespace Go.Proofs.S52
open Go Go.AV Go.Proofs.Dec


def tokOK (t : Tok) : Bool := ((tok t.text 0).2 == 0 && (tok t.text 0).1.kind == t.kind && (tok t.text 0).1.text == t.text && (tok t.text 0).1.num == t.num)
def validT (t : Tok) : Bool := !(t.text == []) && tokOK t
def sep (l : List Tok) (i : Nat) : List UInt8 := if 0 < i ∧ (l.getD i t0).kind ≠ 4 ∧ (l.getD (i - 1) t0).kind ≠ 4 then [32] else []
def joinTo (l : List Tok) : Nat → List UInt8
  | 0 => []
  | i + 1 => joinTo l i ++ sep l i ++ (l.getD i t0).text
def joinL (l : List Tok) : List UInt8 × Int := if l.all validT = true then if 16384 < (joinTo l l.length).length then ([], 4) else (joinTo l l.length, 0) else ([], 14)
theorem getD_eq {α : Type} (l : List α) (j : Nat) (d : α) (h : j < l.length) : l.getD j d = l[j] := by simp [List.getD_eq_getElem?_getD, h]
theorem join_ok {l : List Tok} (hall : l.all validT = true) (h : ¬ 16384 < (joinTo l l.length).length) : joinL l = (joinTo l l.length, 0) := by simp [joinL, hall, h]
/-- The four ways in which a text begins with a token. -/
theorem tok_cases {l : List UInt8} (h : (tok l 0).2 = 0) :
    (isLet (ch l 0) = true ∧ tok l 0 = (⟨1, cut l 0 (endOf inW l 0), 0, 0⟩, 0)) ∨
    (isLet (ch l 0) = false ∧ (ch l 0 = 45 ∨ dig (ch l 0) = true) ∧ (parse (cut l 0 (endOf inW l 1))).2 = 0 ∧ tok l 0 = (⟨2, cut l 0 (endOf inW l 1), (parse (cut l 0 (endOf inW l 1))).1, 0⟩, 0)) ∨
    (isLet (ch l 0) = false ∧ (¬ ch l 0 = 45 ∧ dig (ch l 0) = false) ∧ isSym (ch l 0) = true ∧ tok l 0 = (⟨3, cut l 0 1, 0, 0⟩, 0)) ∨
    (isLet (ch l 0) = false ∧ (¬ ch l 0 = 45 ∧ dig (ch l 0) = false) ∧ isSym (ch l 0) = false ∧ ch l 0 = 10 ∧ tok l 0 = (⟨4, [10], 0, 0⟩, 0)) := by
  cases h1 : isLet (ch l 0) with
  | true => exact .inl ⟨rfl, tok_let h1⟩
  | false =>
    refine .inr ?_
    by_cases h2 : ch l 0 = 45 ∨ dig (ch l 0) = true
    · by_cases h3 : (parse (cut l 0 (endOf inW l (0 + 1)))).2 = 0
      · exact .inl ⟨rfl, h2, h3, tok_num h1 h2 h3⟩
      · rw [tok_bad h1 h2 h3] at h; exact absurd h h3
    · have h2' : ¬ ch l 0 = 45 ∧ dig (ch l 0) = false := ⟨fun e => h2 (.inl e), by cases hd : dig (ch l 0) with | false => rfl | true => exact absurd (.inr hd) h2⟩
      refine .inr ?_
      cases h3 : isSym (ch l 0) with
      | true => exact .inl ⟨rfl, h2', rfl, tok_sym h1 h2' h3⟩
      | false =>
        by_cases h4 : ch l 0 = 10
        · exact .inr ⟨rfl, h2', rfl, h4, tok_nl h1 h2' h3 h4⟩
        · rw [tok_none h1 h2' h3 h4] at h; cases h

theorem cut0 (l : List UInt8) (b : Nat) : cut l 0 b = l.take b := by simp [cut]
theorem take_all {l : List UInt8} {e : Nat} (h : l.take e = l) (he : e ≤ l.length) : e = l.length := by
  have := congrArg List.length h
  simp at this
  omega
theorem ch_app {x y : List UInt8} {i : Nat} (h : i < x.length) : ch (x ++ y) i = ch x i := by
  simp [ch, List.getD_eq_getElem?_getD, List.getElem?_append_left h]
theorem ch_app_at (x y : List UInt8) : ch (x ++ y) x.length = ch y 0 := by
  simp only [ch, List.getD_eq_getElem?_getD]
  rw [List.getElem?_append_right (Nat.le_refl _), Nat.sub_self]
/-- What ends at the end goes on no further. -/
theorem endOf_app {p : Int → Bool} {x y : List UInt8} (hy : y = [] ∨ p (ch y 0) = false) : ∀ (n i : Nat), x.length - i = n → i ≤ x.length → endOf p x i = x.length → endOf p (x ++ y) i = x.length
  | 0, i, hn, hi, h => by
    obtain rfl : i = x.length := by omega
    refine endOf_stop ?_
    rcases hy with rfl | hy
    · exact .inl (by simp)
    · exact .inr (by rw [ch_app_at]; exact hy)
  | n + 1, i, hn, hi, h => by
    have hlt : i < x.length := by omega
    have hp : p (ch x i) = true := by
      cases hp : p (ch x i) with
      | true => rfl
      | false => rw [endOf_stop (.inr hp)] at h; omega
    rw [endOf_step (by simp; omega) (by rw [ch_app hlt]; exact hp)]
    rw [endOf_step hlt hp] at h
    exact endOf_app hy n (i + 1) (by omega) (by omega) h
/-- A text that is one token, and what stands behind it. -/
theorem tok_app {x y : List UInt8} (h : (tok x 0).2 = 0) (hx : (tok x 0).1.text = x) (h0 : 0 < x.length)
    (hy : (tok x 0).1.kind = 3 ∨ (tok x 0).1.kind = 4 ∨ y = [] ∨ inW (ch y 0) = false) : tok (x ++ y) 0 = tok x 0 := by
  have e0 : ch (x ++ y) 0 = ch x 0 := ch_app h0
  rcases tok_cases h with ⟨h1, e⟩ | ⟨h1, h2, h3, e⟩ | ⟨h1, h2, h3, e⟩ | ⟨h1, h2, h3, h4, e⟩
  · rw [e] at hx hy
    simp only at hx hy
    have hy' : y = [] ∨ inW (ch y 0) = false := by
      rcases hy with hy | hy | hy
      · cases hy
      · cases hy
      · exact hy
    rw [cut0] at hx
    have he := take_all hx (endOf_le (by omega))
    rw [tok_let (by rw [e0]; exact h1), e, endOf_app hy' _ 0 rfl (by omega) he, he]
    simp [cut]
  · rw [e] at hx hy
    simp only at hx hy
    have hy' : y = [] ∨ inW (ch y 0) = false := by
      rcases hy with hy | hy | hy
      · cases hy
      · cases hy
      · exact hy
    rw [cut0] at hx
    have he := take_all hx (endOf_le (by omega))
    have e1 := endOf_app hy' _ 1 rfl (by omega) he
    have e2 : cut (x ++ y) 0 (endOf inW (x ++ y) (0 + 1)) = cut x 0 (endOf inW x 1) := by
      rw [Nat.zero_add, e1, he]
      simp [cut]
    rw [tok_num (by rw [e0]; exact h1) (by rw [e0]; exact h2) (by rw [e2]; exact h3), e, e2]
    rfl
  · rw [tok_sym (by rw [e0]; exact h1) (by rw [e0]; exact h2) (by rw [e0]; exact h3), e]
    have : cut (x ++ y) 0 (0 + 1) = cut x 0 1 := by
      simp only [cut0, Nat.zero_add]
      rw [List.take_append_of_le_length (by omega)]
    rw [this]; rfl
  · rw [tok_nl (by rw [e0]; exact h1) (by rw [e0]; exact h2) (by rw [e0]; exact h3) (by rw [e0]; exact h4), e]; rfl

theorem endOf_cut {p : Int → Bool} {l : List UInt8} : ∀ (n i : Nat), l.length - i = n → i ≤ l.length → endOf p (l.take (endOf p l i)) i = endOf p l i
  | 0, i, hn, hi => by
    have e : endOf p l i = i := endOf_stop (.inl (by omega))
    rw [e]
    exact endOf_stop (.inl (by simp; omega))
  | n + 1, i, hn, hi => by
    have hlt : i < l.length := by omega
    cases hp : p (ch l i) with
    | false =>
      rw [endOf_stop (.inr hp)]
      exact endOf_stop (.inl (by simp; omega))
    | true =>
      rw [endOf_step hlt hp]
      have h1 := endOf_ge p l (i + 1)
      have h2 : endOf p l (i + 1) ≤ l.length := endOf_le (by omega)
      have hc : ch (l.take (endOf p l (i + 1))) i = ch l i := by
        simp only [ch, List.getD_eq_getElem?_getD]
        rw [List.getElem?_take_of_lt (by omega)]
      rw [endOf_step (by simp; omega) (by rw [hc]; exact hp)]
      exact endOf_cut n (i + 1) (by omega) (by omega)
/-- A token's text, alone, is that token. -/
theorem tok_alone {l : List UInt8} (h : (tok l 0).2 = 0) (h0 : 0 < l.length) : tok (tok l 0).1.text 0 = tok l 0 ∧ (tok l 0).1.text ≠ [] := by
  have chT : ∀ e, 0 < e → ch (l.take e) 0 = ch l 0 := fun e he => by
    simp only [ch, List.getD_eq_getElem?_getD]
    rw [List.getElem?_take_of_lt he]
  have ne : ∀ e, 0 < e → l.take e ≠ [] := fun e he hn => by
    have := congrArg List.length hn
    rw [List.length_take, List.length_nil] at this
    omega
  rcases tok_cases h with ⟨h1, e⟩ | ⟨h1, h2, h3, e⟩ | ⟨h1, h2, h3, e⟩ | ⟨h1, h2, h3, h4, e⟩
  · rw [e]
    simp only [cut0]
    have hpos : 0 < endOf inW l 0 := by
      rw [endOf_step h0 (let_inW h1)]
      have := endOf_ge inW l (0 + 1)
      omega
    refine ⟨?_, ne _ hpos⟩
    rw [tok_let (by rw [chT _ hpos]; exact h1), endOf_cut _ 0 rfl (by omega), cut0, List.take_take, Nat.min_self]
    rfl
  · rw [e]
    simp only [cut0]
    have hpos : 0 < endOf inW l 1 := by
      have := endOf_ge inW l 1
      omega
    refine ⟨?_, ne _ hpos⟩
    have e2 : cut (l.take (endOf inW l 1)) 0 (endOf inW (l.take (endOf inW l 1)) (0 + 1)) = l.take (endOf inW l 1) := by
      rw [Nat.zero_add, endOf_cut _ 1 rfl (by omega), cut0, List.take_take, Nat.min_self]
    rw [cut0] at h3
    rw [tok_num (by rw [chT _ hpos]; exact h1) (by rw [chT _ hpos]; exact h2) (by rw [e2]; exact h3), e2]
    rfl
  · rw [e]
    simp only [cut0]
    refine ⟨?_, ne _ (by omega)⟩
    rw [tok_sym (by rw [chT _ (by omega)]; exact h1) (by rw [chT _ (by omega)]; exact h2) (by rw [chT _ (by omega)]; exact h3), cut0, List.take_take]
    rfl
  · rw [e]
    refine ⟨?_, by simp⟩
    rfl

theorem valid_iff {t : Tok} : validT t = true ↔ t.text ≠ [] ∧ tok t.text 0 = (⟨t.kind, t.text, t.num, 0⟩, 0) := by
  have hpos : ∀ l : List UInt8, (tok l 0).2 = 0 → (tok l 0).1.pos = 0 := fun l h => by
    rcases tok_cases h with ⟨_, e⟩ | ⟨_, _, _, e⟩ | ⟨_, _, _, e⟩ | ⟨_, _, _, _, e⟩ <;> rw [e]
  simp only [validT, tokOK, Bool.and_eq_true, Bool.not_eq_true', beq_eq_false_iff_ne, beq_iff_eq, ne_eq]
  constructor
  · rintro ⟨h1, ⟨⟨h2, h3⟩, h4⟩, h5⟩
    refine ⟨h1, ?_⟩
    have h6 := hpos _ h2
    generalize tok t.text 0 = r at *
    obtain ⟨⟨k, x, m, p⟩, e⟩ := r
    simp only at h2 h3 h4 h5 h6
    subst h2 h3 h4 h5 h6
    rfl
  · rintro ⟨h1, h2⟩
    rw [h2]
    exact ⟨h1, ⟨⟨rfl, rfl⟩, rfl⟩, rfl⟩

/-- What stands behind the first tokens: of k tokens from the end. -/
def sufJ (l : List Tok) : Nat → List UInt8
  | 0 => []
  | k + 1 => sep l (l.length - (k + 1)) ++ (l.getD (l.length - (k + 1)) t0).text ++ sufJ l k
theorem joinTo_suf (l : List Tok) : ∀ k, k ≤ l.length → joinTo l l.length = joinTo l (l.length - k) ++ sufJ l k
  | 0, _ => by simp [sufJ]
  | k + 1, hk => by
    rw [joinTo_suf l k (by omega)]
    have e : l.length - k = l.length - (k + 1) + 1 := by omega
    rw [e]
    simp only [joinTo, sufJ, List.append_assoc]

theorem ch_nl {t : Tok} (h : validT t = true) (hk : t.kind = 4) : t.text = [10] := by
  obtain ⟨_, h2⟩ := valid_iff.1 h
  rcases tok_cases (l := t.text) (by rw [h2]) with ⟨_, e⟩ | ⟨_, _, _, e⟩ | ⟨_, _, _, e⟩ | ⟨_, _, _, _, e⟩
  · rw [e] at h2; simp only [Prod.mk.injEq, Tok.mk.injEq] at h2; omega
  · rw [e] at h2; simp only [Prod.mk.injEq, Tok.mk.injEq] at h2; omega
  · rw [e] at h2; simp only [Prod.mk.injEq, Tok.mk.injEq] at h2; omega
  · rw [e] at h2; simp only [Prod.mk.injEq, Tok.mk.injEq] at h2; exact h2.1.2.1.symm

/-- A token begins with no space and no number sign. -/
theorem ch_tok {l : List UInt8} (h : (tok l 0).2 = 0) : ¬ (ch l 0 = 32 ∨ ch l 0 = 9) ∧ ¬ ch l 0 = 35 := by
  have hs := ch_rng l 0
  have key : ∀ c : Int, c = 32 ∨ c = 9 ∨ c = 35 → isLet c = false ∧ (¬ c = 45 ∧ dig c = false) ∧ isSym c = false ∧ ¬ c = 10 := by
    rintro c (rfl | rfl | rfl) <;> decide
  have no : ¬ (ch l 0 = 32 ∨ ch l 0 = 9 ∨ ch l 0 = 35) := fun hc => by
    obtain ⟨k1, k2, k3, k4⟩ := key _ hc
    rw [tok_none k1 k2 k3 k4] at h
    cases h
  exact ⟨fun h => no (h.imp_right .inl), fun h => no (.inr (.inr h))⟩

theorem scan_suf (l : List Tok) (hv : ∀ j, j < l.length → validT (l.getD j t0) = true) : ∀ k, k ≤ l.length → ∀ out, ∃ ts : List Tok, scanS (joinTo l l.length) (joinTo l (l.length - k)).length out = (out ++ ts, 0, 0) ∧ ts.map tokOnly = (l.drop (l.length - k)).map tokOnly
  | 0, _, out => ⟨[], by rw [Nat.sub_zero, scanS_end (by omega)]; simp, by simp⟩
  | k + 1, hk, out => by
    have hi : l.length - (k + 1) < l.length := by omega
    generalize hI : l.length - (k + 1) = i at *
    have e1 : l.length - k = i + 1 := by omega
    have hJ := joinTo_suf l (k + 1) hk
    simp only [sufJ, hI] at hJ
    have hval := hv i hi
    obtain ⟨hne, htk⟩ := valid_iff.1 hval
    generalize hx : (l.getD i t0).text = x at *
    have hx0 : 0 < x.length := Nat.pos_of_ne_zero fun e => hne (List.eq_nil_of_length_eq_zero e)
    -- behind the separator
    have main : ∀ q, q = (joinTo l i ++ sep l i).length → ∃ ts : List Tok, scanS (joinTo l l.length) q out = (out ++ ts, 0, 0) ∧ ts.map tokOnly = (l.drop i).map tokOnly := by
      intro q hq
      have hdrop : (joinTo l l.length).drop q = x ++ sufJ l k := by
        rw [hJ, hq, ← List.append_assoc, ← List.append_assoc, List.append_assoc, List.drop_left]
      have hqlt : q < (joinTo l l.length).length := by
        have := congrArg List.length hdrop
        simp only [List.length_drop, List.length_append] at this
        omega
      have hbehind : (l.getD i t0).kind = 3 ∨ (l.getD i t0).kind = 4 ∨ sufJ l k = [] ∨ inW (ch (sufJ l k) 0) = false := by
        cases k with
        | zero => exact .inr (.inr (.inl rfl))
        | succ k =>
          by_cases h4 : (l.getD i t0).kind = 4
          · exact .inr (.inl h4)
          · refine .inr (.inr (.inr ?_))
            have hi2 : l.length - (k + 1) = i + 1 := by omega
            simp only [sufJ, hi2]
            by_cases h5 : (l.getD (i + 1) t0).kind = 4
            · have hsep : sep l (i + 1) = [] := by rw [sep, if_neg fun h => h.2.1 h5]
              rw [hsep, ch_nl (hv (i + 1) (by omega)) h5]
              rfl
            · have hsep : sep l (i + 1) = [32] := by
                rw [sep, if_pos ⟨by omega, h5, by rw [Nat.add_sub_cancel]; exact h4⟩]
              rw [hsep]
              rfl
      have htok0 : tok ((joinTo l l.length).drop q) 0 = (⟨(l.getD i t0).kind, x, (l.getD i t0).num, 0⟩, 0) := by
        rw [hdrop, tok_app (by rw [htk]) (by rw [htk]) hx0 (by rw [htk]; exact hbehind), htk]
      obtain ⟨s1, s2⟩ := tok_shift (joinTo l l.length) q 0
      rw [htok0] at s1 s2
      rw [Nat.add_zero] at s1 s2
      have htq := s2 s1.symm
      have hch : ch (joinTo l l.length) q = ch ((joinTo l l.length).drop q) 0 := (ch_drop _ q 0).symm
      obtain ⟨n1, n2⟩ := ch_tok (l := (joinTo l l.length).drop q) (by rw [htok0])
      rw [← hch] at n1 n2
      rw [scanS_step hqlt, if_neg n1, if_neg n2, if_pos s1.symm, htq]
      have hnext : q + x.length = (joinTo l (l.length - k)).length := by
        rw [e1, hq]
        simp only [joinTo, hx, List.length_append]
      simp only [shift]
      rw [hnext]
      obtain ⟨ts, k1, k2⟩ := scan_suf l hv k (by omega) (out ++ [⟨(l.getD i t0).kind, x, (l.getD i t0).num, 0 + q⟩])
      refine ⟨⟨(l.getD i t0).kind, x, (l.getD i t0).num, 0 + q⟩ :: ts, by rw [k1]; simp, ?_⟩
      rw [e1] at k2
      rw [List.drop_eq_getElem_cons hi, List.map_cons, List.map_cons, k2]
      congr 1
      rw [getD_eq l i t0 hi] at hx ⊢
      simp only [tokOnly, hx]
    by_cases hsep : sep l i = []
    · exact main _ (by rw [hsep, List.append_nil])
    · have hsep : sep l i = [32] := by
        simp only [sep] at hsep ⊢
        split
        · rfl
        · rename_i h; rw [if_neg h] at hsep; exact absurd rfl hsep
      have hlt : (joinTo l i).length < (joinTo l l.length).length := by
        rw [hJ, hsep]
        simp only [List.length_append, List.length_singleton]
        omega
      have hch : ch (joinTo l l.length) (joinTo l i).length = 32 := by
        rw [hJ, hsep]
        simp only [List.append_assoc]
        rw [ch_app_at]
        rfl
      rw [scanS_step hlt, if_pos (.inl hch)]
      exact main _ (by rw [hsep]; simp)

/-- Scanning what Join writes. -/
theorem join_scan {l : List Tok} (h : (joinL l).2 = 0) : (scan (joinL l).1).2 = (0, 0) ∧ alike (scan (joinL l).1).1 l = true := by
  unfold joinL at h ⊢
  split at h
  · rename_i hv
    rw [if_pos hv]
    split at h
    · cases h
    · rename_i hl
      rw [if_neg hl]
      simp only
      have hv' : ∀ j, j < l.length → validT (l.getD j t0) = true := fun j hj => by
        rw [getD_eq l j t0 hj]
        exact List.all_eq_true.1 hv _ (List.getElem_mem hj)
      obtain ⟨ts, h1, h2⟩ := scan_suf l hv' l.length (Nat.le_refl _) []
      rw [Nat.sub_self] at h1 h2
      rw [scan_S hl]
      have : scanS (joinTo l l.length) 0 [] = (ts, 0, 0) := h1
      rw [this]
      exact ⟨rfl, by simp only [alike, beq_iff_eq]; simpa using h2⟩
  · cases h

/-- What a scan finds: valid tokens, that take no more than the text. -/
theorem scan_valid (s : List UInt8) : ∀ (n i : Nat) (out : List Tok), s.length - i ≤ n → i ≤ s.length → (∀ t ∈ out, validT t = true) → (out.map fun t => t.text.length).sum ≤ i →
    (∀ t ∈ (scanS s i out).1, validT t = true) ∧ ((scanS s i out).1.map fun t => t.text.length).sum ≤ s.length
  | n, i, out, hn, hi, hv, hs => by
    by_cases hlt : i < s.length
    · obtain ⟨k, rfl⟩ : ∃ k, n = k + 1 := ⟨n - 1, by omega⟩
      rw [scanS_step hlt]
      split
      · exact scan_valid s k (i + 1) out (by omega) (by omega) hv (by omega)
      · split
        · rename_i hc
          have := cm_gt hlt hc
          have h2 : endOf notNl s i ≤ s.length := endOf_le (by omega)
          exact scan_valid s k _ out (by omega) h2 hv (by omega)
        · split
          · rename_i ht
            have hp := tok_pos hlt ht
            refine scan_valid s k _ _ (by omega) (by omega) (fun t htm => ?_) ?_
            · rcases List.mem_append.1 htm with htm | htm
              · exact hv t htm
              · rw [List.mem_singleton.1 htm]
                obtain ⟨d1, d2⟩ := tok_shift s i 0
                rw [Nat.add_zero] at d1 d2
                have hd := d2 ht
                have h0 : 0 < (s.drop i).length := by simp; omega
                obtain ⟨a1, a2⟩ := tok_alone (l := s.drop i) (by rw [d1]; exact ht) h0
                refine valid_iff.2 ⟨?_, ?_⟩
                · rw [hd]; exact a2
                · rw [hd]
                  simp only [shift]
                  rw [a1]
                  have hpos : (tok (s.drop i) 0).1.pos = 0 := (tok_pos h0 (by rw [d1]; exact ht)).2.2
                  have herr : (tok (s.drop i) 0).2 = 0 := by rw [d1]; exact ht
                  generalize tok (s.drop i) 0 = r at hpos herr
                  obtain ⟨⟨a, b, c, d⟩, e⟩ := r
                  simp only at hpos herr
                  subst hpos herr
                  rfl
            · simp only [List.map_append, List.map_cons, List.map_nil, List.sum_append, List.sum_cons, List.sum_nil]
              omega
          · exact ⟨fun t h => by simp at h, Nat.zero_le _⟩
    · rw [scanS_end hlt]
      exact ⟨hv, Nat.le_trans hs hi⟩

theorem joinTo_le (l : List Tok) : ∀ i, i ≤ l.length → (joinTo l i).length ≤ ((l.take i).map fun t => t.text.length).sum + i
  | 0, _ => by simp [joinTo]
  | i + 1, hi => by
    have := joinTo_le l i (by omega)
    have hs : (sep l i).length ≤ 1 := by unfold sep; split <;> simp
    rw [List.take_succ_eq_append_getElem (by omega)]
    simp only [joinTo, List.length_append, List.map_append, List.sum_append, List.map_cons, List.map_nil, List.sum_cons, List.sum_nil]
    rw [getD_eq l i t0 (by omega)]
    omega

theorem scan_fault {s : List UInt8} (h : ¬ (scan s).2 = (0, 0)) : (scan s).1 = [] := by
  by_cases hl : 16384 < s.length
  · rw [scan_long hl]
  · rw [scan_S hl] at h ⊢
    have key : ∀ (n i : Nat) (out : List Tok), s.length - i ≤ n → (scanS s i out).2 = (0, 0) ∨ (scanS s i out).1 = [] := by
      intro n
      induction n with
      | zero => intro i out hn; rw [scanS_end (by omega)]; exact .inl rfl
      | succ n ih =>
        intro i out hn
        by_cases hlt : i < s.length
        · rw [scanS_step hlt]
          split
          · exact ih _ _ (by omega)
          · split
            · rename_i hc
              have := cm_gt hlt hc
              exact ih _ _ (by omega)
            · split
              · rename_i ht
                have := tok_pos hlt ht
                exact ih _ _ (by omega)
              · exact .inr rfl
        · rw [scanS_end hlt]; exact .inl rfl
    exact (key _ 0 [] (Nat.le_refl _)).resolve_left h

/-- Scanning, joining. -/
theorem scan_join_ok {s : List UInt8} (hs : s.length ≤ 8000) : (joinL (scan s).1).2 = 0 ∧ (joinL (scan s).1).1.length ≤ s.length + (scan s).1.length := by
  have hl : ¬ 16384 < s.length := by omega
  have hlen := scanN_len s s.length 0 [] (by simp)
  obtain ⟨v1, v2⟩ := scan_valid s s.length 0 [] (by omega) (by omega) (by simp) (by simp)
  have hle := joinTo_le (scanS s 0 []).1 (scanS s 0 []).1.length (Nat.le_refl _)
  rw [List.take_length] at hle
  rw [scan_S hl]
  have hn : (scanS s 0 []).1.length ≤ 8000 := by
    have e : scanS s 0 [] = scanN s s.length 0 [] := by rw [← scan_S hl, scan_short hl]
    rw [e]; omega
  have hv : (scanS s 0 []).1.all validT = true := List.all_eq_true.2 v1
  rw [join_ok hv (by omega)]
  exact ⟨rfl, by simp only; omega⟩
end Go.Proofs.S52
