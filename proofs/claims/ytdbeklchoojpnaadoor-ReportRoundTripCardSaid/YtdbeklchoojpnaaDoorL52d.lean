/- Layer 52: a report's tokens are parsed to the report; what is parsed are the result's tokens. -/
import Derived.Test.YtdbeklchoojpnaaDoorL52c
namespace Go.Proofs.S52
open Go Go.AV Go.Proofs.Dec

/-- Places do not matter where there is no fault. -/
theorem next_map (a b e : Int) (l : List Tok) : (nextP a b e (l.map tokOnly)).err = (nextP a b e l).err ∧ ((nextP a b e l).err = 0 → (nextP a b e (l.map tokOnly)).val = tokOnly (nextP a b e l).val ∧ (nextP a b e (l.map tokOnly)).rest = (nextP a b e l).rest.map tokOnly) := by
  cases l with
  | nil => exact ⟨rfl, fun h => by simp [nextP] at h⟩
  | cons t l =>
    simp only [List.map_cons, nextP]
    have hk : (tokOnly t).kind = t.kind := rfl
    rw [hk]
    split
    · exact ⟨rfl, fun h => by simp at h⟩
    · exact ⟨rfl, fun _ => ⟨rfl, rfl⟩⟩
theorem word_ok {s : List UInt8} {e : Int} {l : List Tok} (h : (wordP s e l).err = 0) : (nextP 1 1 e l).err = 0 ∧ (nextP 1 1 e l).val.text = s ∧ wordP s e l = nextP 1 1 e l := by
  unfold wordP at h ⊢
  split at h
  · rename_i h1; exact absurd h h1
  · rename_i h1
    split at h
    · simp at h
    · rename_i h2
      rw [if_neg h1, if_neg h2]
      exact ⟨h, by simpa using h2, rfl⟩
theorem word_of {s : List UInt8} {e : Int} {l : List Tok} (h1 : (nextP 1 1 e l).err = 0) (h2 : (nextP 1 1 e l).val.text = s) : wordP s e l = nextP 1 1 e l := by
  unfold wordP; rw [if_neg (not_not_intro h1), if_neg (not_not_intro h2)]
theorem word_map {s : List UInt8} {e : Int} {l : List Tok} (h : (wordP s e (l.map tokOnly)).err = 0) : (wordP s e l).err = 0 ∧ (wordP s e (l.map tokOnly)).rest = (wordP s e l).rest.map tokOnly := by
  obtain ⟨h1, h2, h3⟩ := word_ok h
  obtain ⟨m1, m2⟩ := next_map 1 1 e l
  have g1 : (nextP 1 1 e l).err = 0 := by rw [← m1]; exact h1
  obtain ⟨m3, m4⟩ := m2 g1
  have g2 : (nextP 1 1 e l).val.text = s := by rw [← h2, m3]; rfl
  rw [h3, word_of g1 g2]
  exact ⟨g1, m4⟩
theorem next_of {a b e : Int} {l : List Tok} (h : (nextP a b e (l.map tokOnly)).err = 0) : (nextP a b e l).err = 0 ∧ (nextP a b e (l.map tokOnly)).val = tokOnly (nextP a b e l).val ∧ (nextP a b e (l.map tokOnly)).rest = (nextP a b e l).rest.map tokOnly := by
  obtain ⟨m1, m2⟩ := next_map a b e l
  have g1 : (nextP a b e l).err = 0 := by rw [← m1]; exact h
  exact ⟨g1, m2 g1⟩
theorem count_of {s : List UInt8} {e : Int} {l : List Tok} (h1 : (wordP s e l).err = 0) (h2 : (nextP 2 2 e (wordP s e l).rest).err = 0) (h3 : ¬ (nextP 2 2 e (wordP s e l).rest).val.num < 0) (h4 : (nextP 4 4 e (nextP 2 2 e (wordP s e l).rest).rest).err = 0) :
    (countP s e l).err = 0 ∧ (countP s e l).val = (nextP 2 2 e (wordP s e l).rest).val.num ∧ (countP s e l).rest = (nextP 4 4 e (nextP 2 2 e (wordP s e l).rest).rest).rest := by
  unfold countP numP
  rw [if_neg (not_not_intro h1), if_neg (not_not_intro h2), if_neg h3]
  exact ⟨h4, rfl, rfl⟩
theorem count_map {s : List UInt8} {e : Int} {l : List Tok} (h : (countP s e (l.map tokOnly)).err = 0) : (countP s e l).err = 0 ∧ (countP s e l).val = (countP s e (l.map tokOnly)).val ∧ (countP s e (l.map tokOnly)).rest = (countP s e l).rest.map tokOnly := by
  obtain ⟨h1, h2, h3, h4, h5⟩ := count_ok h
  obtain ⟨a1, a2⟩ := word_map h1
  rw [a2] at h2 h3 h4
  obtain ⟨b1, b2, b3⟩ := next_of h2
  rw [b3] at h4
  rw [b2] at h3
  obtain ⟨c1, c2, c3⟩ := next_of h4
  obtain ⟨d1, d2, d3⟩ := count_of a1 b1 h3 c1
  refine ⟨d1, ?_, ?_⟩
  · rw [d2, h5]
    show _ = (nextP 2 2 e (wordP s e (l.map tokOnly)).rest).val.num
    rw [a2, b2]
    rfl
  · rw [d3, h5]
    show (nextP 4 4 e (nextP 2 2 e (wordP s e (l.map tokOnly)).rest).rest).rest = _
    rw [a2, b3, c3]
theorem nums_map (e : Int) : ∀ (l : List Tok) (out : List Int), (numsP e (l.map tokOnly) out).err = 0 → (numsP e l out).err = 0 ∧ (numsP e l out).val = (numsP e (l.map tokOnly) out).val ∧ (numsP e (l.map tokOnly) out).rest = (numsP e l out).rest.map tokOnly
  | [], out, h => by simp [numsP] at h
  | t :: l, out, h => by
    have hk : (tokOnly t).kind = t.kind := rfl
    have hn : (tokOnly t).num = t.num := rfl
    simp only [List.map_cons, numsP, hk, hn] at h ⊢
    split at h
    · simp at h
    · rename_i h1
      rw [if_neg h1, if_neg h1]
      split at h
      · rename_i h2
        rw [if_pos h2, if_pos h2]
        exact ⟨rfl, rfl, rfl⟩
      · rename_i h2
        rw [if_neg h2, if_neg h2]
        split at h
        · simp at h
        · rename_i h3
          rw [if_neg h3, if_neg h3]
          exact nums_map e l _ h
theorem bug_of {last e : Int} {l : List Tok} (h1 : (wordP wBug e l).err = 0) (h2 : (nextP 1 1 e (wordP wBug e l).rest).err = 0) (h3 : ¬ codeB (nextP 1 1 e (wordP wBug e l).rest).val.text = 0) (h4 : ¬ codeB (nextP 1 1 e (wordP wBug e l).rest).val.text ≤ last) :
    bugP last e l = ⟨(numsP e (nextP 1 1 e (wordP wBug e l).rest).rest []).err, (numsP e (nextP 1 1 e (wordP wBug e l).rest).rest []).pos, ⟨codeB (nextP 1 1 e (wordP wBug e l).rest).val.text, (numsP e (nextP 1 1 e (wordP wBug e l).rest).rest []).val⟩, (numsP e (nextP 1 1 e (wordP wBug e l).rest).rest []).rest⟩ := by
  unfold bugP kindP
  rw [if_neg (not_not_intro h1), if_neg (not_not_intro h2), if_neg h3, if_neg h4]
theorem bug_map {last e : Int} {l : List Tok} (h : (bugP last e (l.map tokOnly)).err = 0) : (bugP last e l).err = 0 ∧ (bugP last e l).val = (bugP last e (l.map tokOnly)).val ∧ (bugP last e (l.map tokOnly)).rest = (bugP last e l).rest.map tokOnly := by
  obtain ⟨h1, h2, h3, h4, h5, h6⟩ := bug_ok h
  rw [h6]
  obtain ⟨a1, a2⟩ := word_map h1
  rw [a2] at h2 h3 h4 h5 ⊢
  obtain ⟨b1, b2, b3⟩ := next_of h2
  rw [b2] at h3 h4 ⊢
  rw [b3] at h5 ⊢
  obtain ⟨c1, c2, c3⟩ := nums_map e _ _ h5
  rw [bug_of a1 b1 h3 h4]
  exact ⟨c1, by simp only [c2]; rfl, c3⟩
theorem bugs_map (e : Int) : ∀ (k : Nat) (last : Int) (out : List Cex) (l : List Tok), (bugsP e k last out (l.map tokOnly)).err = 0 → (bugsP e k last out l).err = 0 ∧ (bugsP e k last out l).val = (bugsP e k last out (l.map tokOnly)).val
  | 0, last, out, l, _ => ⟨rfl, rfl⟩
  | k + 1, last, out, l, h => by
    cases l with
    | nil => exact ⟨by simp [bugsP], by simp [bugsP]⟩
    | cons t l =>
      generalize hL : t :: l = L at h ⊢
      have hne : ¬ L = [] := by rw [← hL]; simp
      have hne' : ¬ L.map tokOnly = [] := by rw [← hL]; simp
      by_cases h1 : (bugP last e (L.map tokOnly)).err = 0
      · obtain ⟨a1, a2, a3⟩ := bug_map h1
        have e1 : bugsP e (k + 1) last out (L.map tokOnly) = bugsP e k (bugP last e L).val.bug (out ++ [(bugP last e L).val]) ((bugP last e L).rest.map tokOnly) := by
          rw [bugsP, if_neg hne', if_neg (not_not_intro h1), a3, a2]
        have e2 : bugsP e (k + 1) last out L = bugsP e k (bugP last e L).val.bug (out ++ [(bugP last e L).val]) (bugP last e L).rest := by
          rw [bugsP, if_neg hne, if_neg (not_not_intro a1)]
        rw [e1] at h ⊢
        rw [e2]
        exact bugs_map e k _ _ _ h
      · rw [bugsP, if_neg hne', if_pos h1] at h
        exact absurd h h1
theorem parseL_ok {e : Int} {l : List Tok} {x : Rp} (h : parseL e l = (x, 0, 0)) (hx : (parseL e l).2.1 = 0) : (at14 e l).c1.err = 0 ∧ (at14 e l).c2.err = 0 ∧ (at14 e l).c3.err = 0 ∧ (at14 e l).c4.err = 0 ∧ (bugsP e ((at14 e l).c4.rest.length + 1) 0 [] (at14 e l).c4.rest).err = 0 ∧
    x = ⟨(at14 e l).c1.val, (at14 e l).c2.val, (at14 e l).c3.val, (at14 e l).c4.val, (bugsP e ((at14 e l).c4.rest.length + 1) 0 [] (at14 e l).c4.rest).val⟩ := by
  rw [parseL_at] at h hx
  by_cases h1 : (at14 e l).c1.err = 0
  · rw [if_neg (not_not_intro h1)] at h hx
    by_cases h2 : (at14 e l).c2.err = 0
    · rw [if_neg (not_not_intro h2)] at h hx
      by_cases h3 : (at14 e l).c3.err = 0
      · rw [if_neg (not_not_intro h3)] at h hx
        by_cases h4 : (at14 e l).c4.err = 0
        · rw [if_neg (not_not_intro h4)] at h hx
          unfold finM at h hx
          by_cases h5 : (bugsP e ((at14 e l).c4.rest.length + 1) 0 [] (at14 e l).c4.rest).err = 0
          · rw [if_neg (not_not_intro h5)] at h
            simp only [Prod.mk.injEq, and_true] at h
            exact ⟨h1, h2, h3, h4, h5, h.symm⟩
          · rw [if_pos h5] at hx; exact absurd hx h5
        · rw [if_pos h4] at hx; exact absurd hx h4
      · rw [if_pos h3] at hx; exact absurd hx h3
    · rw [if_pos h2] at hx; exact absurd hx h2
  · rw [if_pos h1] at hx; exact absurd hx h1
theorem parseL_of {e : Int} {l : List Tok} (h1 : (at14 e l).c1.err = 0) (h2 : (at14 e l).c2.err = 0) (h3 : (at14 e l).c3.err = 0) (h4 : (at14 e l).c4.err = 0) (h5 : (bugsP e ((at14 e l).c4.rest.length + 1) 0 [] (at14 e l).c4.rest).err = 0) :
    parseL e l = (⟨(at14 e l).c1.val, (at14 e l).c2.val, (at14 e l).c3.val, (at14 e l).c4.val, (bugsP e ((at14 e l).c4.rest.length + 1) 0 [] (at14 e l).c4.rest).val⟩, 0, 0) := by
  rw [parseL_at, if_neg (not_not_intro h1), if_neg (not_not_intro h2), if_neg (not_not_intro h3), if_neg (not_not_intro h4)]
  unfold finM
  rw [if_neg (not_not_intro h5)]
theorem parseL_map {e : Int} {l : List Tok} {x : Rp} (h : parseL e (l.map tokOnly) = (x, 0, 0)) : parseL e l = (x, 0, 0) := by
  obtain ⟨h1, h2, h3, h4, h5, h6⟩ := parseL_ok h (by rw [h])
  obtain ⟨a1, a2, a3⟩ := count_map (s := w1) (e := e) (l := l) h1
  have h2' : (countP w2 e (countP w1 e (l.map tokOnly)).rest).err = 0 := h2
  rw [a3] at h2'
  obtain ⟨b1, b2, b3⟩ := count_map h2'
  have h3' : (countP w3 e (countP w2 e (countP w1 e (l.map tokOnly)).rest).rest).err = 0 := h3
  rw [a3, b3] at h3'
  obtain ⟨c1, c2, c3⟩ := count_map h3'
  have h4' : (countP w4 e (countP w3 e (countP w2 e (countP w1 e (l.map tokOnly)).rest).rest).rest).err = 0 := h4
  rw [a3, b3, c3] at h4'
  obtain ⟨d1, d2, d3⟩ := count_map h4'
  have hr : (at14 e (l.map tokOnly)).c4.rest = (at14 e l).c4.rest.map tokOnly := by
    show (countP w4 e (countP w3 e (countP w2 e (countP w1 e (l.map tokOnly)).rest).rest).rest).rest = _
    rw [a3, b3, c3, d3]
    rfl
  rw [hr, List.length_map] at h5 h6
  obtain ⟨e1, e2⟩ := bugs_map e _ _ _ _ h5
  rw [parseL_of a1 b1 c1 d1 e1, h6]
  congr 1
  have v1 : (at14 e l).c1.val = (at14 e (l.map tokOnly)).c1.val := a2
  have v2 : (at14 e l).c2.val = (at14 e (l.map tokOnly)).c2.val := by
    show _ = (countP w2 e (countP w1 e (l.map tokOnly)).rest).val
    rw [a3, ← b2]; rfl
  have v3 : (at14 e l).c3.val = (at14 e (l.map tokOnly)).c3.val := by
    show _ = (countP w3 e (countP w2 e (countP w1 e (l.map tokOnly)).rest).rest).val
    rw [a3, b3, ← c2]; rfl
  have v4 : (at14 e l).c4.val = (at14 e (l.map tokOnly)).c4.val := by
    show _ = (countP w4 e (countP w3 e (countP w2 e (countP w1 e (l.map tokOnly)).rest).rest).rest).val
    rw [a3, b3, c3, ← d2]; rfl
  rw [v1, v2, v3, v4, e2]
/-- The tokens of a report are parsed to it. -/
theorem count_tok {w : List UInt8} {n : Int} {e : Int} {l : List Tok} (h : 0 ≤ n) : countP w e (tW w :: tN n :: tL :: l) = ⟨0, 0, n, l⟩ := by
  have hn : ¬ n < 0 := by omega
  simp [countP, wordP, nextP, numP, tW, tN, tL, hn]
theorem nums_tok (e : Int) (l : List Tok) : ∀ (s out : List Int), out.length + s.length ≤ 512 → numsP e (s.map tN ++ tL :: l) out = ⟨0, 0, out ++ s, l⟩
  | [], out, _ => by simp [numsP, tL]
  | n :: s, out, h => by
    have ih := nums_tok e l s (out ++ [n]) (by simp at h ⊢; omega)
    have h2 : ¬ out.length = 512 := by simp at h; omega
    simp only [List.map_cons, List.cons_append, numsP]
    rw [show (tN n).kind = 2 from rfl, show (tN n).num = n from rfl, if_neg (by simp), if_neg (by simp), if_neg h2, ih]
    simp
theorem code_nm {b : Int} (h : 1 ≤ b ∧ b ≤ 4) : codeB (nm b) = b := by
  obtain rfl | rfl | rfl | rfl : b = 1 ∨ b = 2 ∨ b = 3 ∨ b = 4 := by omega
  · decide
  · decide
  · decide
  · decide
theorem bug_tok {last e : Int} {c : Cex} {l : List Tok} (h1 : last < c.bug) (h2 : 1 ≤ c.bug ∧ c.bug ≤ 4) (h3 : c.sch.length ≤ 512) : bugP last e (lineT c ++ l) = ⟨0, 0, c, l⟩ := by
  have hc := code_nm h2
  have hn := nums_tok e l c.sch [] (by simpa using h3)
  have hw : wordP wBug e (lineT c ++ l) = ⟨0, 0, tW wBug, tW (nm c.bug) :: (c.sch.map tN ++ tL :: l)⟩ := by
    simp [lineT, wordP, nextP, tW]
  have hx : nextP 1 1 e (tW (nm c.bug) :: (c.sch.map tN ++ tL :: l)) = ⟨0, 0, tW (nm c.bug), c.sch.map tN ++ tL :: l⟩ := by simp [nextP, tW]
  have ht : (tW (nm c.bug)).text = nm c.bug := rfl
  unfold bugP kindP
  rw [hw]
  simp only
  rw [hx]
  simp only
  rw [ht, hc, hn, if_neg (by simp), if_neg (by simp), if_neg (by omega), if_neg (by omega)]
  simp
def chain : Int → List Cex → Prop
  | _, [] => True
  | last, c :: l => last < c.bug ∧ (1 ≤ c.bug ∧ c.bug ≤ 4) ∧ c.sch.length ≤ 512 ∧ c.sch.all okV = true ∧ chain c.bug l
theorem bugs_tok (e : Int) : ∀ (bs : List Cex) (k : Nat) (last : Int) (out : List Cex), chain last bs → bs.length + 1 ≤ k → bugsP e k last out (linesT bs) = ⟨0, 0, out ++ bs, []⟩
  | [], k, last, out, _, hk => by
    obtain ⟨k, rfl⟩ : ∃ j, k = j + 1 := ⟨k - 1, by omega⟩
    simp [linesT, bugsP]
  | c :: bs, k, last, out, h, hk => by
    obtain ⟨k, rfl⟩ : ∃ j, k = j + 1 := ⟨k - 1, by simp at hk; omega⟩
    obtain ⟨h1, h2, h3, _, h4⟩ := h
    have hl : linesT (c :: bs) = lineT c ++ linesT bs := by simp [linesT]
    have hb := bug_tok (e := e) (l := linesT bs) h1 h2 h3
    rw [hl, bugsP, if_neg (by simp [lineT]), hb, if_neg (by simp)]
    simp only
    rw [bugs_tok e bs k c.bug (out ++ [c]) h4 (by simp at hk; omega)]
    simp
theorem chain_of (r : Rp) (h : ∀ j, j < r.bugs.length → bugOK r.bugs j = true) : chain 0 r.bugs := by
  have key : ∀ (n i : Nat), r.bugs.length - i = n → i ≤ r.bugs.length → chain (prevB r.bugs i) (r.bugs.drop i) := by
    intro n
    induction n with
    | zero => intro i hn hi; rw [List.drop_of_length_le (by omega)]; trivial
    | succ n ih =>
      intro i hn hi
      have h1 : i < r.bugs.length := by omega
      obtain ⟨b1, b2, b3, b4, b5⟩ := (bugOK_iff _ _).1 (h i h1)
      rw [List.drop_eq_getElem_cons h1, getElem_getD c0 h1]
      refine ⟨b1, ⟨b2, b3⟩, b4, ?_, ?_⟩
      · rw [List.all_eq_true]
        intro n hn
        obtain ⟨j, hj, rfl⟩ := List.getElem_of_mem hn
        rw [getElem_getD 0 hj]
        exact b5 j hj
      · have := ih (i + 1) (by omega) (by omega)
        rwa [prevB_succ] at this
  have := key r.bugs.length 0 (by omega) (by omega)
  simpa [prevB] using this
theorem of_chain : ∀ (l : List Cex) (last : Int), chain last l → ∀ j, j < l.length → cexOK (if j = 0 then last else (l.getD (j - 1) c0).bug) (l.getD j c0) = true
  | [], _, _, j, hj => by simp at hj
  | c :: l, last, h, j, hj => by
    obtain ⟨h1, h2, h3, h4, h5⟩ := h
    cases j with
    | zero => simp [cexOK, h1, h2.1, h2.2, h3, h4]
    | succ j =>
      have := of_chain l c.bug h5 j (by simpa using hj)
      cases j with
      | zero => simpa using this
      | succ j => simpa using this
theorem parse_toks {r : Rp} (h : validR r = true) (e : Int) : parseL e (toksR r) = (r, 0, 0) := by
  obtain ⟨h1, h2⟩ := (validR_iff r).1 h
  have n0 := (okN_iff _).1 (h1 0 (by decide))
  have n1 := (okN_iff _).1 (h1 1 (by decide))
  have n2 := (okN_iff _).1 (h1 2 (by decide))
  have n3 := (okN_iff _).1 (h1 3 (by decide))
  simp only [nums, List.getD_cons_zero, List.getD_cons_succ] at n0 n1 n2 n3
  have hch := chain_of r h2
  have c1 : (at14 e (toksR r)).c1 = ⟨0, 0, r.t, (tW w2 :: tN r.b :: tL :: tW w3 :: tN r.u :: tL :: tW w4 :: tN r.o :: tL :: linesT r.bugs)⟩ := by
    show countP w1 e (tW w1 :: tN r.t :: tL :: (tW w2 :: tN r.b :: tL :: tW w3 :: tN r.u :: tL :: tW w4 :: tN r.o :: tL :: linesT r.bugs)) = _
    exact count_tok n0.1
  have c2 : (at14 e (toksR r)).c2 = ⟨0, 0, r.b, (tW w3 :: tN r.u :: tL :: tW w4 :: tN r.o :: tL :: linesT r.bugs)⟩ := by
    show countP w2 e (at14 e (toksR r)).c1.rest = _
    rw [c1]; exact count_tok n1.1
  have c3 : (at14 e (toksR r)).c3 = ⟨0, 0, r.u, (tW w4 :: tN r.o :: tL :: linesT r.bugs)⟩ := by
    show countP w3 e (at14 e (toksR r)).c2.rest = _
    rw [c2]; exact count_tok n2.1
  have c4 : (at14 e (toksR r)).c4 = ⟨0, 0, r.o, linesT r.bugs⟩ := by
    show countP w4 e (at14 e (toksR r)).c3.rest = _
    rw [c3]; exact count_tok n3.1
  have hlen : r.bugs.length ≤ (linesT r.bugs).length := by
    have : ∀ l : List Cex, l.length ≤ (linesT l).length := by
      intro l
      induction l with
      | nil => simp
      | cons c l ih =>
        have : linesT (c :: l) = lineT c ++ linesT l := by simp [linesT]
        rw [this]
        simp [lineT]
        omega
    exact this _
  have hb := bugs_tok e r.bugs ((linesT r.bugs).length + 1) 0 [] hch (by omega)
  rw [parseL_of (by rw [c1]) (by rw [c2]) (by rw [c3]) (by rw [c4]) (by rw [c4]; simp only; rw [hb]), c1, c2, c3, c4]
  simp only
  rw [hb]
  rfl
/-- What is parsed: the result's tokens. -/
def vt (l : List Tok) : Prop := ∀ t ∈ l, validT t = true
theorem vt_1 {t : Tok} (h : validT t = true) (hk : t.kind = 1) : tokOnly t = tW t.text := by
  obtain ⟨h1, h2⟩ := valid_iff.1 h
  rcases tok_cases (l := t.text) (by rw [h2]) with ⟨_, e⟩ | ⟨_, _, _, e⟩ | ⟨_, _, _, e⟩ | ⟨_, _, _, _, e⟩ <;> rw [h2] at e <;> simp only [Prod.mk.injEq, Tok.mk.injEq, and_true] at e
  · unfold tokOnly tW
    rw [hk, e.2.2]
  · omega
  · omega
  · omega
theorem vt_2 {t : Tok} (h : validT t = true) (hk : t.kind = 2) : tokOnly t = tN t.num ∧ okV t.num = true := by
  obtain ⟨h1, h2⟩ := valid_iff.1 h
  rcases tok_cases (l := t.text) (by rw [h2]) with ⟨_, e⟩ | ⟨_, _, hp, e⟩ | ⟨_, _, _, e⟩ | ⟨_, _, _, _, e⟩ <;> rw [h2] at e <;> simp only [Prod.mk.injEq, Tok.mk.injEq, and_true] at e
  · omega
  · have h3 := fmt_parse hp
    rw [← e.2.2] at h3
    refine ⟨?_, by rw [e.2.2]; exact parse_rng _⟩
    unfold tokOnly tN
    rw [h3, ← e.2.1, hk]
  · omega
  · omega
theorem vt_4 {t : Tok} (h : validT t = true) (hk : t.kind = 4) : tokOnly t = tL := by
  obtain ⟨h1, h2⟩ := valid_iff.1 h
  rcases tok_cases (l := t.text) (by rw [h2]) with ⟨_, e⟩ | ⟨_, _, _, e⟩ | ⟨_, _, _, e⟩ | ⟨_, _, _, _, e⟩ <;> rw [h2] at e <;> simp only [Prod.mk.injEq, Tok.mk.injEq, and_true] at e
  · omega
  · omega
  · omega
  · unfold tokOnly tL
    rw [hk, e.2.1, e.2.2]
theorem next_inv {a b e : Int} {l : List Tok} (h : (nextP a b e l).err = 0) : ((nextP a b e l).val.kind = a ∨ (nextP a b e l).val.kind = b) ∧ l = (nextP a b e l).val :: (nextP a b e l).rest := by
  cases l with
  | nil => simp [nextP] at h
  | cons t l =>
    simp only [nextP] at h ⊢
    split at h
    · simp at h
    · rename_i h1
      rw [if_neg h1]
      exact ⟨(by show t.kind = a ∨ t.kind = b; omega), rfl⟩
theorem vt_cons {t : Tok} {l : List Tok} (h : vt (t :: l)) : validT t = true ∧ vt l := ⟨h t (by simp), fun u hu => h u (by simp [hu])⟩
theorem word_inv {s : List UInt8} {e : Int} {l : List Tok} (hv : vt l) (h : (wordP s e l).err = 0) : l.map tokOnly = tW s :: (wordP s e l).rest.map tokOnly ∧ vt (wordP s e l).rest := by
  obtain ⟨h1, h2, h3⟩ := word_ok h
  obtain ⟨a1, a2⟩ := next_inv h1
  rw [h3]
  rw [a2] at hv
  obtain ⟨v1, v2⟩ := vt_cons hv
  refine ⟨?_, v2⟩
  have := vt_1 v1 (by omega)
  rw [h2] at this
  conv => lhs; rw [a2]
  rw [List.map_cons, this]
theorem count_inv {s : List UInt8} {e : Int} {l : List Tok} (hv : vt l) (h : (countP s e l).err = 0) : l.map tokOnly = tW s :: tN (countP s e l).val :: tL :: (countP s e l).rest.map tokOnly ∧ vt (countP s e l).rest ∧ okN (countP s e l).val = true := by
  obtain ⟨h1, h2, h3, h4, h5⟩ := count_ok h
  obtain ⟨a1, a2⟩ := word_inv hv h1
  obtain ⟨b1, b2⟩ := next_inv h2
  obtain ⟨c1, c2⟩ := next_inv h4
  rw [h5]
  generalize hW : wordP s e l = W at *
  generalize hT : nextP 2 2 e W.rest = T at *
  generalize hU : nextP 4 4 e T.rest = U at *
  rw [b2] at a2
  obtain ⟨v1, v2⟩ := vt_cons a2
  rw [c2] at v2
  obtain ⟨v3, v4⟩ := vt_cons v2
  obtain ⟨k1, k2⟩ := vt_2 v1 (by omega)
  have k3 := vt_4 v3 (by omega)
  refine ⟨?_, v4, ?_⟩
  · rw [a1, b2, List.map_cons, k1, c2, List.map_cons, k3]
  · simp only [okN, okV, Bool.and_eq_true, decide_eq_true_eq] at k2 ⊢
    omega
theorem nums_inv (e : Int) : ∀ (l : List Tok) (out : List Int), vt l → (numsP e l out).err = 0 → out.length ≤ 512 → ∃ m, (numsP e l out).val = out ++ m ∧ l.map tokOnly = m.map tN ++ tL :: (numsP e l out).rest.map tokOnly ∧ vt (numsP e l out).rest ∧ (numsP e l out).val.length ≤ 512 ∧ m.all okV = true
  | [], out, _, h, _ => by simp [numsP] at h
  | t :: l, out, hv, h, ho => by
    obtain ⟨v1, v2⟩ := vt_cons hv
    simp only [numsP] at h ⊢
    split at h
    · simp at h
    · rename_i h1
      rw [if_neg h1]
      split at h
      · rename_i h2
        rw [if_pos h2]
        exact ⟨[], by simp, by simp [vt_4 v1 h2], v2, ho, rfl⟩
      · rename_i h2
        rw [if_neg h2]
        split at h
        · simp at h
        · rename_i h3
          rw [if_neg h3]
          obtain ⟨m, m1, m2, m3, m4, m5⟩ := nums_inv e l (out ++ [t.num]) v2 h (by simp; omega)
          obtain ⟨k1, k2⟩ := vt_2 v1 (by omega)
          exact ⟨t.num :: m, by rw [m1]; simp, by rw [List.map_cons, k1, m2]; simp, m3, m4, by simp [k2, m5]⟩
theorem code_inv {s : List UInt8} (h : ¬ codeB s = 0) : nm (codeB s) = s ∧ 1 ≤ codeB s ∧ codeB s ≤ 4 := by
  unfold codeB at h ⊢
  split
  · rename_i h1; exact ⟨h1.symm, by omega, by omega⟩
  · rename_i h1
    rw [if_neg h1] at h
    split
    · rename_i h2; exact ⟨h2.symm, by omega, by omega⟩
    · rename_i h2
      rw [if_neg h2] at h
      split
      · rename_i h3; exact ⟨h3.symm, by omega, by omega⟩
      · rename_i h3
        rw [if_neg h3] at h
        split
        · rename_i h4; exact ⟨h4.symm, by omega, by omega⟩
        · rename_i h4
          rw [if_neg h4] at h
          exact absurd rfl h
theorem bug_inv {last e : Int} {l : List Tok} (hv : vt l) (h : (bugP last e l).err = 0) : l.map tokOnly = lineT (bugP last e l).val ++ (bugP last e l).rest.map tokOnly ∧ vt (bugP last e l).rest ∧ last < (bugP last e l).val.bug ∧ (1 ≤ (bugP last e l).val.bug ∧ (bugP last e l).val.bug ≤ 4) ∧ (bugP last e l).val.sch.length ≤ 512 ∧ (bugP last e l).val.sch.all okV = true := by
  obtain ⟨h1, h2, h3, h4, h5, h6⟩ := bug_ok h
  obtain ⟨a1, a2⟩ := word_inv hv h1
  obtain ⟨b1, b2⟩ := next_inv h2
  rw [h6]
  generalize hW : wordP wBug e l = W at *
  generalize hT : nextP 1 1 e W.rest = T at *
  rw [b2] at a2
  obtain ⟨v1, v2⟩ := vt_cons a2
  obtain ⟨m, m1, m2, m3, m4, m5⟩ := nums_inv e T.rest [] v2 h5 (by simp)
  obtain ⟨k1, k2, k3⟩ := code_inv h3
  have k4 := vt_1 v1 (by omega)
  simp only [List.nil_append] at m1
  refine ⟨?_, m3, by simp only; omega, ⟨k2, k3⟩, m4, by simp only; rw [m1]; exact m5⟩
  simp only
  rw [a1, b2, List.map_cons, k4, m2, m1]
  simp [lineT, k1]
theorem bugs_inv (e : Int) : ∀ (k : Nat) (last : Int) (out : List Cex) (l : List Tok), vt l → l.length + 1 ≤ k → (∀ t ∈ l, in64 t.pos) → in64 e → (bugsP e k last out l).err = 0 → ∃ m, (bugsP e k last out l).val = out ++ m ∧ l.map tokOnly = linesT m ∧ chain last m
  | 0, _, _, _, _, hk, _, _, _ => by omega
  | k + 1, last, out, l, hv, hk, hg, he, h => by
    by_cases h0 : l = []
    · subst h0
      exact ⟨[], by simp [bugsP], rfl, trivial⟩
    · rw [bugsP, if_neg h0] at h ⊢
      by_cases h1 : (bugP last e l).err = 0
      · rw [if_neg (not_not_intro h1)] at h ⊢
        obtain ⟨a1, a2, a3, a4, a5, a6⟩ := bug_inv hv h1
        have hlt := bug_lt (last := last) hg he h1
        have hgr := (bug_fine (last := last) hg he).2.2
        obtain ⟨m, m1, m2, m3⟩ := bugs_inv e k _ _ _ a2 (by omega) hgr he h
        exact ⟨(bugP last e l).val :: m, by rw [m1]; simp, by rw [a1, m2]; simp [linesT], a3, a4, a5, a6, m3⟩
      · rw [if_pos h1] at h
        exact absurd h h1
theorem parse_inv {e : Int} {l : List Tok} {x : Rp} (hv : vt l) (hg : good l) (he : in64 e) (h : parseL e l = (x, 0, 0)) : l.map tokOnly = toksR x ∧ validR x = true := by
  obtain ⟨h1, h2, h3, h4, h5, h6⟩ := parseL_ok h (by rw [h])
  obtain ⟨a1, a2, a3⟩ := count_inv (s := w1) (e := e) hv h1
  obtain ⟨b1, b2, b3⟩ := count_inv (s := w2) (e := e) a2 h2
  obtain ⟨c1, c2, c3⟩ := count_inv (s := w3) (e := e) b2 h3
  obtain ⟨d1, d2, d3⟩ := count_inv (s := w4) (e := e) c2 h4
  have g4 : good (at14 e l).c4.rest := (count_fine (s := w4) (count_fine (s := w3) (count_fine (s := w2) (count_fine (s := w1) hg he).2.2 he).2.2 he).2.2 he).2.2
  obtain ⟨m, m1, m2, m3⟩ := bugs_inv e _ 0 [] (at14 e l).c4.rest d2 (Nat.le_refl _) g4 he h5
  simp only [List.nil_append] at m1
  have hx : x = ⟨(at14 e l).c1.val, (at14 e l).c2.val, (at14 e l).c3.val, (at14 e l).c4.val, m⟩ := by rw [h6, m1]
  subst hx
  constructor
  · rw [a1, b1, c1, d1]
    have : (countP w4 e (countP w3 e (countP w2 e (countP w1 e l).rest).rest).rest).rest.map tokOnly = linesT m := m2
    rw [this]
    rfl
  · refine (validR_iff _).2 ⟨fun j hj => ?_, fun j hj => ?_⟩
    · match j, hj with
      | 0, _ => exact a3
      | 1, _ => exact b3
      | 2, _ => exact c3
      | 3, _ => exact d3
    · exact of_chain m 0 m3 j hj
end Go.Proofs.S52
