/- Layer 9: what scanning a text with a line feed in it comes to. -/
import Derived.Test.YtmlgkljbhidlhaaP09b
import Derived.Test.YtmlgkljbhidlhaaG09b
namespace Go.Proofs.S09
open Go Go.AV Go.Proofs.Dec

theorem cm_gt {l : List UInt8} {i : Nat} (hp : i < l.length) (hc : ch l i = 35) : i < endOf notNl l i := cm_lt hp hc
/-- The fuel does not matter where there is enough. -/
theorem scanN_fuel (l : List UInt8) : ∀ k k' i out, l.length - i ≤ k → l.length - i ≤ k' → scanN l k i out = scanN l k' i out
  | 0, 0, _, _, _, _ => rfl
  | 0, k' + 1, i, out, h, _ => by rw [scanN, scanN, if_neg (by omega)]
  | k + 1, 0, i, out, _, h => by rw [scanN, scanN, if_neg (by omega)]
  | k + 1, k' + 1, i, out, h, h' => by
    rw [scanN, scanN]
    split
    · rename_i hi
      split
      · exact scanN_fuel l k k' _ _ (by omega) (by omega)
      · split
        · rename_i hc
          have := cm_gt hi hc
          exact scanN_fuel l k k' _ _ (by omega) (by omega)
        · split
          · rename_i ht
            have := tok_pos hi ht
            exact scanN_fuel l k k' _ _ (by omega) (by omega)
          · rfl
    · rfl
def scanS (l : List UInt8) (i : Nat) (out : List Tok) : List Tok × Int × Int := scanN l (l.length - i) i out
theorem scanS_step {l : List UInt8} {i : Nat} (hi : i < l.length) (out : List Tok) : scanS l i out = if ch l i = 32 ∨ ch l i = 9 then scanS l (i + 1) out else if ch l i = 35 then scanS l (endOf notNl l i) out
    else if (tok l i).2 = 0 then scanS l (i + (tok l i).1.text.length) (out ++ [(tok l i).1]) else ([], (tok l i).2, (i : Int)) := by
  unfold scanS
  obtain ⟨k, hk⟩ : ∃ k, l.length - i = k + 1 := ⟨l.length - i - 1, by omega⟩
  rw [hk, scanN, if_pos hi]
  split
  · exact scanN_fuel l _ _ _ _ (by omega) (by omega)
  · split
    · rename_i hc
      have := cm_gt hi hc
      exact scanN_fuel l _ _ _ _ (by omega) (by omega)
    · split
      · rename_i ht
        have := tok_pos hi ht
        exact scanN_fuel l _ _ _ _ (by omega) (by omega)
      · rfl
theorem scanS_end {l : List UInt8} {i : Nat} (hi : ¬ i < l.length) (out : List Tok) : scanS l i out = (out, 0, 0) := by
  unfold scanS
  rw [show l.length - i = 0 by omega]
  rfl
theorem scan_S {l : List UInt8} (h : ¬ 16384 < l.length) : scan l = scanS l 0 [] := by rw [scan_short h]; rfl

/-- What was found, and where the text goes on: of a text that is followed by others. -/
def andThen (r : List Tok × Int × Int) (f : List Tok → List Tok × Int × Int) : List Tok × Int × Int := if r.2.1 = 0 then f r.1 else r

section
variable (s t : List UInt8)
theorem ch_join_lt {i : Nat} (h : i < s.length) : ch (s ++ [10] ++ t) i = ch s i := by
  simp [ch, List.getD_eq_getElem?_getD, List.getElem?_append, h]
theorem ch_join_at : ch (s ++ [10] ++ t) s.length = 10 := by
  simp [ch, List.getD_eq_getElem?_getD, List.getElem?_append]
theorem endOf_join {p : Int → Bool} (hp : p 10 = false) : ∀ (n i : Nat), s.length - i = n → i ≤ s.length → endOf p (s ++ [10] ++ t) i = endOf p s i
  | 0, i, h, hi => by
    obtain rfl : i = s.length := by omega
    rw [endOf_stop (l := s) (.inl (by omega)), endOf_stop (.inr (by rw [ch_join_at]; exact hp))]
  | n + 1, i, h, hi => by
    have hl : (s ++ [10] ++ t).length = s.length + 1 + t.length := by simp; omega
    cases hc : p (ch s i) with
    | true => rw [endOf_step (by omega) hc, endOf_step (l := s ++ [10] ++ t) (by omega) (by rw [ch_join_lt s t (by omega)]; exact hc), endOf_join hp n (i + 1) (by omega) (by omega)]
    | false => rw [endOf_stop (.inr hc), endOf_stop (.inr (by rw [ch_join_lt s t (by omega)]; exact hc))]
theorem cut_join {a b : Nat} (hb : b ≤ s.length) : cut (s ++ [10] ++ t) a b = cut s a b := by
  unfold cut
  rw [List.append_assoc]
  by_cases h : a ≤ s.length
  · rw [List.drop_append_of_le_length h, List.take_append_of_le_length (by rw [List.length_drop]; omega)]
  · rw [show b - a = 0 by omega]; simp
theorem tok_join {i : Nat} (h : i < s.length) : tok (s ++ [10] ++ t) i = tok s i := by
  have e1 := ch_join_lt s t h
  have e2 := endOf_join s t (p := inW) (by decide) _ i rfl (by omega)
  have e3 := endOf_join s t (p := inW) (by decide) _ (i + 1) rfl (by omega)
  have l2 := endOf_le (p := inW) (l := s) (i := i) (by omega)
  have l3 := endOf_le (p := inW) (l := s) (i := i + 1) (by omega)
  unfold tok
  rw [e1, e2, e3, cut_join s t l2, cut_join s t l3, cut_join s t (show i + 1 ≤ s.length by omega)]
theorem scan_first : ∀ (n i : Nat) (out : List Tok), s.length - i ≤ n → i ≤ s.length → scanS (s ++ [10] ++ t) i out = andThen (scanS s i out) (scanS (s ++ [10] ++ t) s.length)
  | n, i, out, h, hi => by
    by_cases hlt : i < s.length
    · have hl : (s ++ [10] ++ t).length = s.length + 1 + t.length := by simp; omega
      obtain ⟨m, rfl⟩ : ∃ m, n = m + 1 := ⟨n - 1, by omega⟩
      rw [scanS_step (l := s ++ [10] ++ t) (by omega), scanS_step hlt, ch_join_lt s t hlt, tok_join s t hlt, endOf_join s t (p := notNl) (by decide) _ i rfl hi]
      split
      · exact scan_first m (i + 1) out (by omega) (by omega)
      · split
        · rename_i hc
          have h1 := cm_gt hlt hc
          have h2 := endOf_le (p := notNl) (l := s) (i := i) (by omega)
          exact scan_first m _ out (by omega) h2
        · split
          · rename_i ht
            have h1 := tok_pos hlt ht
            exact scan_first m _ _ (by omega) h1.2.1
          · rename_i ht
            exact (if_neg ht).symm
    · obtain rfl : i = s.length := by omega
      rw [scanS_end (l := s) (by omega)]
      rfl
end

def shift (m : Nat) (x : Tok) : Tok := { x with pos := x.pos + m }
theorem tok_shift (l : List UInt8) (m i : Nat) : (tok (l.drop m) i).2 = (tok l (m + i)).2 ∧ ((tok l (m + i)).2 = 0 → tok l (m + i) = (shift m (tok (l.drop m) i).1, 0)) := by
  have e1 : ch (l.drop m) i = ch l (m + i) := ch_drop l m i
  have e2 : cut (l.drop m) i (endOf inW (l.drop m) i) = cut l (m + i) (endOf inW l (m + i)) := by rw [cut_drop, endOf_drop]
  have e3 : cut (l.drop m) i (endOf inW (l.drop m) (i + 1)) = cut l (m + i) (endOf inW l (m + i + 1)) := by rw [cut_drop, endOf_drop]; rfl
  have e4 : cut (l.drop m) i (i + 1) = cut l (m + i) (m + i + 1) := by rw [cut_drop]; rfl
  have e5 : ((m + i : Nat) : Int) = (i : Int) + (m : Int) := by omega
  unfold tok
  rw [e1, e2, e3, e4]
  split
  · exact ⟨rfl, fun _ => by simp only [shift, e5]⟩
  · split
    · split
      · exact ⟨rfl, fun _ => by simp only [shift, e5]⟩
      · rename_i h; exact ⟨rfl, fun h' => absurd h' h⟩
    · split
      · exact ⟨rfl, fun _ => by simp only [shift, e5]⟩
      · split
        · exact ⟨rfl, fun _ => by simp only [shift, e5]⟩
        · exact ⟨rfl, fun h => absurd h (by decide)⟩
theorem scan_rest (l : List UInt8) (m : Nat) (hm : m ≤ l.length) (pre : List Tok) : ∀ (n i : Nat) (out : List Tok), l.length - (m + i) ≤ n →
    scanS l (m + i) (pre ++ out.map (shift m)) = (if (scanS (l.drop m) i out).2.1 = 0 then (pre ++ (scanS (l.drop m) i out).1.map (shift m), 0, 0) else ([], (scanS (l.drop m) i out).2.1, (scanS (l.drop m) i out).2.2 + (m : Int)))
  | n, i, out, h => by
    have hd : (l.drop m).length = l.length - m := List.length_drop
    by_cases hlt : m + i < l.length
    · obtain ⟨k, rfl⟩ : ∃ k, n = k + 1 := ⟨n - 1, by omega⟩
      obtain ⟨t1, t2⟩ := tok_shift l m i
      rw [scanS_step hlt, scanS_step (l := l.drop m) (by omega), ch_drop, t1]
      split
      · exact scan_rest l m hm pre k (i + 1) out (by omega)
      · split
        · rename_i hc
          have h1 := cm_gt hlt hc
          rw [← endOf_drop] at h1 ⊢
          exact scan_rest l m hm pre k _ out (by omega)
        · by_cases ht : (tok l (m + i)).2 = 0
          · have h1 := tok_pos hlt ht
            have h2 := t2 ht
            rw [if_pos ht, if_pos ht]
            have e1 : (tok l (m + i)).1.text = (tok (l.drop m) i).1.text := by rw [h2]; rfl
            have e2 : pre ++ out.map (shift m) ++ [(tok l (m + i)).1] = pre ++ (out ++ [(tok (l.drop m) i).1]).map (shift m) := by rw [h2]; simp
            rw [e2, e1, Nat.add_assoc]
            rw [e1] at h1
            exact scan_rest l m hm pre k _ _ (by omega)
          · rw [if_neg ht, if_neg ht, if_neg ht]
            simp only [List.cons.injEq, Prod.mk.injEq, true_and]
            omega
    · rw [scanS_end hlt, scanS_end (by omega)]
      rfl
theorem scanS_ok (l : List UInt8) : ∀ (n i : Nat) (out : List Tok), l.length - i ≤ n → (scanS l i out).2.1 = 0 → (scanS l i out).2.2 = 0
  | n, i, out, h => by
    by_cases hlt : i < l.length
    · obtain ⟨k, rfl⟩ : ∃ k, n = k + 1 := ⟨n - 1, by omega⟩
      rw [scanS_step hlt]
      split
      · exact scanS_ok l k _ _ (by omega)
      · split
        · rename_i hc
          have := cm_gt hlt hc
          exact scanS_ok l k _ _ (by omega)
        · split
          · rename_i ht
            have := tok_pos hlt ht
            exact scanS_ok l k _ _ (by omega)
          · rename_i ht
            exact fun h => absurd h ht
    · rw [scanS_end hlt]; exact fun _ => rfl
/-- A token's text is found at its place. -/
def good (l : List UInt8) (x : Tok) : Prop := ∃ p : Nat, x.pos = p ∧ p + x.text.length ≤ l.length ∧ cut l p (p + x.text.length) = x.text
theorem tok_good {l : List UInt8} {i : Nat} (hi : i < l.length) (h : (tok l i).2 = 0) : good l (tok l i).1 := by
  have hp := tok_pos hi h
  refine ⟨i, hp.2.2, hp.2.1, ?_⟩
  have hl1 := endOf_le (p := inW) (l := l) (i := i) (by omega)
  have hl2 := endOf_le (p := inW) (l := l) (i := i + 1) (by omega)
  have hg1 := endOf_ge inW l i
  have hg := endOf_ge inW l (i + 1)
  cases h1 : isLet (ch l i) with
  | true =>
    rw [tok_let h1]
    show cut l i (i + (cut l i (endOf inW l i)).length) = _
    rw [cut_len_eq hl1, show i + (endOf inW l i - i) = endOf inW l i by omega]
  | false =>
    by_cases h2 : ch l i = 45 ∨ dig (ch l i) = true
    · by_cases h3 : (parse (cut l i (endOf inW l (i + 1)))).2 = 0
      · rw [tok_num h1 h2 h3]
        show cut l i (i + (cut l i (endOf inW l (i + 1))).length) = _
        rw [cut_len_eq hl2, show i + (endOf inW l (i + 1) - i) = endOf inW l (i + 1) by omega]
      · rw [tok_bad h1 h2 h3] at h
        exact absurd h h3
    · have h2' : ¬ ch l i = 45 ∧ dig (ch l i) = false := by
        cases hd : dig (ch l i) <;> simp_all
      cases h3 : isSym (ch l i) with
      | true =>
        rw [tok_sym h1 h2' h3]
        show cut l i (i + (cut l i (i + 1)).length) = _
        rw [cut_len_eq (show i + 1 ≤ l.length by omega), show i + (i + 1 - i) = i + 1 by omega]
      | false =>
        by_cases h4 : ch l i = 10
        · rw [tok_nl h1 h2' h3 h4]
          show cut l i (i + 1) = [10]
          unfold cut
          rw [List.drop_eq_getElem_cons hi, show i + 1 - i = 1 by omega]
          have : l[i] = 10 := by
            have e : l.getD i 0 = l[i] := by simp [hi]
            unfold ch at h4
            rw [e] at h4
            have h5 : l[i].toNat = 10 := by omega
            exact UInt8.toNat_inj.1 h5
          simp [this]
        · rw [tok_none h1 h2' h3 h4] at h
          simp at h
theorem scanS_good (l : List UInt8) : ∀ (n i : Nat) (out : List Tok), l.length - i ≤ n → (∀ x ∈ out, good l x) → ∀ x ∈ (scanS l i out).1, good l x
  | n, i, out, h, ho => by
    by_cases hlt : i < l.length
    · obtain ⟨k, rfl⟩ : ∃ k, n = k + 1 := ⟨n - 1, by omega⟩
      rw [scanS_step hlt]
      split
      · exact scanS_good l k _ _ (by omega) ho
      · split
        · rename_i hc
          have := cm_gt hlt hc
          exact scanS_good l k _ _ (by omega) ho
        · split
          · rename_i ht
            have := tok_pos hlt ht
            refine scanS_good l k _ _ (by omega) fun x hx => ?_
            rcases List.mem_append.1 hx with hx | hx
            · exact ho x hx
            · rw [List.mem_singleton.1 hx]; exact tok_good hlt ht
          · exact fun x hx => by simp at hx
    · rw [scanS_end hlt]; exact ho

/-- Two texts with a line feed between them. -/
theorem scan_join (s t : List UInt8) (hs : s.length ≤ 200) (ht : t.length ≤ 200) :
    ((scan s).2.1 ≠ 0 → scan (s ++ [10] ++ t) = scan s) ∧
    ((scan s).2.1 = 0 → (scan t).2.1 ≠ 0 → (scan (s ++ [10] ++ t)).2.1 ≠ 0) ∧
    ((scan s).2.1 = 0 → (scan t).2.1 = 0 → scan (s ++ [10] ++ t) = ((scan s).1 ++ [⟨4, [10], 0, s.length⟩] ++ (scan t).1.map (shift (s.length + 1)), 0, 0)) := by
  have hl : (s ++ [10] ++ t).length = s.length + 1 + t.length := by simp; omega
  rw [scan_S (l := s) (by omega), scan_S (l := t) (by omega), scan_S (l := s ++ [10] ++ t) (by omega)]
  rw [scan_first s t s.length 0 [] (by omega) (by omega)]
  have h10 := ch_join_at s t
  have key : ∀ o, scanS (s ++ [10] ++ t) s.length o = scanS (s ++ [10] ++ t) (s.length + 1) (o ++ [⟨4, [10], 0, s.length⟩]) := fun o => by
    rw [scanS_step (by omega), h10, if_neg (by decide), if_neg (by decide), tok_nl (by rw [h10]; decide) (by rw [h10]; decide) (by rw [h10]; decide +kernel) h10, if_pos rfl]
    rfl
  have hdrop : (s ++ [10] ++ t).drop (s.length + 1) = t := by
    rw [List.drop_append_of_le_length (by simp), List.drop_eq_nil_of_le (by simp)]
    rfl
  have rest : ∀ o, scanS (s ++ [10] ++ t) s.length o = (if (scanS t 0 []).2.1 = 0 then (o ++ [⟨4, [10], 0, s.length⟩] ++ (scanS t 0 []).1.map (shift (s.length + 1)), 0, 0) else ([], (scanS t 0 []).2.1, (scanS t 0 []).2.2 + ((s.length + 1 : Nat) : Int))) := fun o => by
    have := scan_rest (s ++ [10] ++ t) (s.length + 1) (by omega) (o ++ [⟨4, [10], 0, s.length⟩]) (s ++ [10] ++ t).length 0 [] (by omega)
    rw [hdrop] at this
    rw [key o]
    simpa using this
  unfold andThen
  refine ⟨fun h => if_neg h, fun h h' => ?_, fun h h' => ?_⟩
  · rw [if_pos h, rest, if_neg h']
    exact h'
  · rw [if_pos h, rest, if_pos h']
end Go.Proofs.S09
