/- Layer 52: the two parsers answer alike. -/
import Derived.Test.YtdbeklchoojpnaaDoorP52k
namespace Go.Proofs.S52
open Go Go.AV Go.Proofs.Dec

theorem next_rel (k e : Int) (l : List Tok) : rnext ⟨l, e, 0, 0⟩ k [] = if (nextP k k e l).err = 0 then ((nextP k k e l).val, ⟨(nextP k k e l).rest, e, 0, 0⟩) else (t0, ⟨l, e, (nextP k k e l).err, (nextP k k e l).pos⟩) := by
  cases l with
  | nil => simp [rnext, nextP, rfail]
  | cons t l =>
    by_cases h : t.kind = k
    · simp [rnext, nextP, h]
    · simp [rnext, nextP, rfail, h]
theorem word_rel (w : List UInt8) (hw : w ≠ []) (e : Int) (l : List Tok) : rnext ⟨l, e, 0, 0⟩ 1 w = if (wordP w e l).err = 0 then ((wordP w e l).val, ⟨(wordP w e l).rest, e, 0, 0⟩) else (t0, ⟨l, e, (wordP w e l).err, (wordP w e l).pos⟩) := by
  cases l with
  | nil => simp [rnext, nextP, wordP, rfail]
  | cons t l =>
    by_cases h : t.kind = 1
    · by_cases h2 : t.text = w
      · simp [rnext, nextP, wordP, h, h2, hw]
      · simp [rnext, nextP, wordP, rfail, h, h2, hw]
    · simp [rnext, nextP, wordP, rfail, h]
theorem rneg_f {p : Tok × RS} (h : ¬ p.2.fe = 0) : rneg p = p.2 := by unfold rneg; rw [if_neg fun e => h e.1]
theorem rcount_f {s : RS} {w : List UInt8} (h : ¬ s.fe = 0) : rcount s w = (0, s) := by
  unfold rcount
  rw [rnext_f h]
  simp only
  rw [rnext_f h, rneg_f h, rnext_f h]
  rfl
theorem count_rel (w : List UInt8) (hw : w ≠ []) (e : Int) (l : List Tok) : if (countP w e l).err = 0 then rcount ⟨l, e, 0, 0⟩ w = ((countP w e l).val, ⟨(countP w e l).rest, e, 0, 0⟩) else (rcount ⟨l, e, 0, 0⟩ w).2.fe = (countP w e l).err ∧ (rcount ⟨l, e, 0, 0⟩ w).2.fa = (countP w e l).pos := by
  by_cases h1 : (wordP w e l).err = 0
  · have hc : countP w e l = numP (nextP 2 2 e (wordP w e l).rest) e := by unfold countP; rw [if_neg (not_not_intro h1)]
    have hr : rcount ⟨l, e, 0, 0⟩ w = ((rnext ⟨(wordP w e l).rest, e, 0, 0⟩ 2 []).1.num, (rnext (rneg (rnext ⟨(wordP w e l).rest, e, 0, 0⟩ 2 [])) 4 []).2) := by unfold rcount; rw [word_rel w hw, if_pos h1]
    rw [hc, hr, next_rel]
    generalize nextP 2 2 e (wordP w e l).rest = T
    by_cases h2 : T.err = 0
    · rw [if_pos h2]
      by_cases h3 : T.val.num < 0
      · have hp : numP T e = ⟨2, T.val.pos, 0, []⟩ := by unfold numP; rw [if_neg (not_not_intro h2), if_pos h3]
        have hr : rneg (T.val, (⟨T.rest, e, 0, 0⟩ : RS)) = ⟨T.rest, e, 2, T.val.pos⟩ := by unfold rneg; rw [if_pos ⟨rfl, h3⟩]; rfl
        rw [hp, hr, rnext_f (by simp)]
        exact ⟨rfl, rfl⟩
      · have hp : numP T e = ⟨(nextP 4 4 e T.rest).err, (nextP 4 4 e T.rest).pos, T.val.num, (nextP 4 4 e T.rest).rest⟩ := by unfold numP; rw [if_neg (not_not_intro h2), if_neg h3]
        have hr : rneg (T.val, (⟨T.rest, e, 0, 0⟩ : RS)) = ⟨T.rest, e, 0, 0⟩ := by unfold rneg; rw [if_neg fun g => h3 g.2]
        rw [hp, hr, next_rel]
        by_cases h4 : (nextP 4 4 e T.rest).err = 0
        · rw [if_pos (by exact h4), if_pos h4]
        · rw [if_neg (by exact h4), if_neg h4]; exact ⟨rfl, rfl⟩
    · have hp : numP T e = ⟨T.err, T.pos, 0, []⟩ := by unfold numP; rw [if_pos h2]
      rw [if_neg h2, hp, rneg_f (by exact h2), rnext_f (by exact h2), if_neg (by exact h2)]
      exact ⟨rfl, rfl⟩
  · have hc : countP w e l = ⟨(wordP w e l).err, (wordP w e l).pos, 0, []⟩ := by unfold countP; rw [if_pos h1]
    have hr : rcount ⟨l, e, 0, 0⟩ w = (0, ⟨l, e, (wordP w e l).err, (wordP w e l).pos⟩) := by
      unfold rcount; rw [word_rel w hw, if_neg h1]
      simp only
      rw [rnext_f (by exact h1), rneg_f (by exact h1), rnext_f (by exact h1)]
      rfl
    rw [hc, hr, if_neg (by exact h1)]
    exact ⟨rfl, rfl⟩
/-- The reader's state behind a bug's numbers. -/
def numsX (e : Int) (l : List Tok) (out : List Int) : RS := if (rnums l out).1 = true then rfail ⟨(rnums l out).2.2, e, 0, 0⟩ 4 ((rnums l out).2.2.getD 0 t0).pos else (rnext ⟨(rnums l out).2.2, e, 0, 0⟩ 4 []).2
theorem nums_rel (e : Int) : ∀ (l : List Tok) (out : List Int), if (numsP e l out).err = 0 then (rnums l out).1 = false ∧ (rnums l out).2.1 = (numsP e l out).val ∧ numsX e l out = ⟨(numsP e l out).rest, e, 0, 0⟩ else (numsX e l out).fe = (numsP e l out).err ∧ (numsX e l out).fa = (numsP e l out).pos
  | [], out => by simp [numsP, rnums, numsX, rnext, rfail]
  | t :: l, out => by
    by_cases h2 : t.kind = 2
    · by_cases h3 : out.length = 512
      · simp [numsP, rnums, numsX, rfail, h2, h3]
      · have := nums_rel e l (out ++ [t.num])
        have e1 : numsP e (t :: l) out = numsP e l (out ++ [t.num]) := by simp [numsP, h2, h3]
        have e2 : rnums (t :: l) out = rnums l (out ++ [t.num]) := by simp [rnums, h2, h3]
        have e3 : numsX e (t :: l) out = numsX e l (out ++ [t.num]) := by simp only [numsX, e2]
        rw [e1, e2, e3]
        exact this
    · by_cases h4 : t.kind = 4
      · simp [numsP, rnums, numsX, rnext, h4]
      · simp [numsP, rnums, numsX, rnext, rfail, h2, h4]
theorem rkind_f {p : Tok × RS} {last : Int} (h : ¬ p.2.fe = 0) : rkind p last = (c0, p.2) := by unfold rkind; rw [if_pos h]
theorem bug_rel (last e : Int) (l : List Tok) : if (bugP last e l).err = 0 then rbug ⟨l, e, 0, 0⟩ last = ((bugP last e l).val, ⟨(bugP last e l).rest, e, 0, 0⟩) else (rbug ⟨l, e, 0, 0⟩ last).2.fe = (bugP last e l).err ∧ (rbug ⟨l, e, 0, 0⟩ last).2.fa = (bugP last e l).pos := by
  by_cases h1 : (wordP wBug e l).err = 0
  · have hb : bugP last e l = kindP (nextP 1 1 e (wordP wBug e l).rest) last e := by unfold bugP; rw [if_neg (not_not_intro h1)]
    have hr : rbug ⟨l, e, 0, 0⟩ last = rkind (rnext ⟨(wordP wBug e l).rest, e, 0, 0⟩ 1 []) last := by unfold rbug; rw [word_rel wBug (by decide), if_pos h1]
    rw [hb, hr, next_rel]
    generalize nextP 1 1 e (wordP wBug e l).rest = T
    by_cases h2 : T.err = 0
    · rw [if_pos h2]
      have hk : rkind (T.val, (⟨T.rest, e, 0, 0⟩ : RS)) last = if codeB T.val.text = 0 then (c0, ⟨T.rest, e, 6, T.val.pos⟩) else if codeB T.val.text ≤ last then (c0, ⟨T.rest, e, 7, T.val.pos⟩) else rline ⟨T.rest, e, 0, 0⟩ (codeB T.val.text) := by
        unfold rkind; rw [if_neg (by simp)]; rfl
      have hp : kindP T last e = if codeB T.val.text = 0 then ⟨6, T.val.pos, c0, []⟩ else if codeB T.val.text ≤ last then ⟨7, T.val.pos, c0, []⟩ else ⟨(numsP e T.rest []).err, (numsP e T.rest []).pos, ⟨codeB T.val.text, (numsP e T.rest []).val⟩, (numsP e T.rest []).rest⟩ := by
        unfold kindP; rw [if_neg (not_not_intro h2)]
      rw [hk, hp]
      by_cases h3 : codeB T.val.text = 0
      · rw [if_pos h3, if_pos h3]
        exact ⟨rfl, rfl⟩
      · rw [if_neg h3, if_neg h3]
        by_cases h4 : codeB T.val.text ≤ last
        · rw [if_pos h4, if_pos h4]
          exact ⟨rfl, rfl⟩
        · rw [if_neg h4, if_neg h4]
          have := nums_rel e T.rest []
          by_cases h5 : (numsP e T.rest []).err = 0
          · rw [if_pos h5] at this
            rw [if_pos (by exact h5)]
            obtain ⟨g1, g2, g3⟩ := this
            unfold numsX at g3
            unfold rline
            rw [g1, if_neg (by simp)] at g3
            rw [g1, if_neg (by simp), g2, g3]
          · rw [if_neg h5] at this
            rw [if_neg (by exact h5)]
            have hx : (rline ⟨T.rest, e, 0, 0⟩ (codeB T.val.text)).2 = numsX e T.rest [] := by
              unfold rline numsX
              split <;> rfl
            rw [hx]
            exact this
    · rw [if_neg h2, rkind_f (by exact h2)]
      have hp : kindP T last e = ⟨T.err, T.pos, c0, []⟩ := by unfold kindP; rw [if_pos h2]
      rw [hp, if_neg (by exact h2)]
      exact ⟨rfl, rfl⟩
  · have hb : bugP last e l = ⟨(wordP wBug e l).err, (wordP wBug e l).pos, c0, []⟩ := by unfold bugP; rw [if_pos h1]
    have hr : rbug ⟨l, e, 0, 0⟩ last = (c0, ⟨l, e, (wordP wBug e l).err, (wordP wBug e l).pos⟩) := by
      unfold rbug; rw [word_rel wBug (by decide), if_neg h1]
      simp only
      rw [rnext_f (by exact h1), rkind_f (by exact h1)]
    rw [hb, hr, if_neg (by exact h1)]
    exact ⟨rfl, rfl⟩
theorem rbugs_f {k : Nat} {last : Int} {out : List Cex} {s : RS} (h : ¬ s.fe = 0) : rbugs k last out s = (out, s) := by
  cases k with
  | zero => rfl
  | succ k => rw [rbugs, if_neg fun g => h g.1]
theorem bugs_rel (e : Int) : ∀ (k : Nat) (last : Int) (out : List Cex) (l : List Tok), if (bugsP e k last out l).err = 0 then (rbugs k last out ⟨l, e, 0, 0⟩).1 = (bugsP e k last out l).val ∧ (rbugs k last out ⟨l, e, 0, 0⟩).2.fe = 0 else (rbugs k last out ⟨l, e, 0, 0⟩).2.fe = (bugsP e k last out l).err ∧ (rbugs k last out ⟨l, e, 0, 0⟩).2.fa = (bugsP e k last out l).pos
  | 0, last, out, l => by simp [bugsP, rbugs]
  | k + 1, last, out, l => by
    by_cases h0 : l = []
    · simp [bugsP, rbugs, h0]
    · have hb := bug_rel last e l
      by_cases h1 : (bugP last e l).err = 0
      · rw [if_pos h1] at hb
        have := bugs_rel e k (bugP last e l).val.bug (out ++ [(bugP last e l).val]) (bugP last e l).rest
        have e1 : bugsP e (k + 1) last out l = bugsP e k (bugP last e l).val.bug (out ++ [(bugP last e l).val]) (bugP last e l).rest := by rw [bugsP, if_neg h0, if_neg (not_not_intro h1)]
        have e2 : rbugs (k + 1) last out ⟨l, e, 0, 0⟩ = rbugs k (bugP last e l).val.bug (out ++ [(bugP last e l).val]) ⟨(bugP last e l).rest, e, 0, 0⟩ := by
          rw [rbugs, if_pos ⟨rfl, h0⟩, hb]
        rw [e1, e2]
        exact this
      · rw [if_neg h1] at hb
        have e1 : bugsP e (k + 1) last out l = ⟨(bugP last e l).err, (bugP last e l).pos, [], []⟩ := by rw [bugsP, if_neg h0, if_pos h1]
        have e2 : (rbugs (k + 1) last out ⟨l, e, 0, 0⟩).2 = (rbug ⟨l, e, 0, 0⟩ last).2 := by
          rw [rbugs, if_pos ⟨rfl, h0⟩, rbugs_f (by rw [hb.1]; exact h1)]
        rw [e1, e2, if_neg (by exact h1)]
        exact hb
theorem rest_f {s : RS} (h : ¬ s.fe = 0) : endS (at15 s) = (r0, s.fe, s.fa) := by
  unfold endS at15
  simp only
  rw [rcount_f h]
  simp only
  rw [rcount_f h]
  simp only
  rw [rcount_f h]
  simp only
  rw [rcount_f h]
  simp only
  rw [rbugs_f h]
  unfold finS
  rw [if_pos h]
theorem endS_eq (s : RS) : endS (at15 s) = finS (rcount s w1).1 (rcount (rcount s w1).2 w2).1 (rcount (rcount (rcount s w1).2 w2).2 w3).1 (rcount (rcount (rcount (rcount s w1).2 w2).2 w3).2 w4).1 (rbugs ((rcount (rcount (rcount (rcount s w1).2 w2).2 w3).2 w4).2.l.length + 1) 0 [] (rcount (rcount (rcount (rcount s w1).2 w2).2 w3).2 w4).2) := rfl
theorem finS_f {a b c d : Int} {k : Nat} {s : RS} (h : ¬ s.fe = 0) : finS a b c d (rbugs k 0 [] s) = (r0, s.fe, s.fa) := by
  rw [rbugs_f h]; unfold finS; rw [if_pos h]
theorem parse_rel (e : Int) (l : List Tok) : parseL e l = endS (at15 ⟨l, e, 0, 0⟩) := by
  rw [parseL_at, endS_eq]
  unfold at14
  simp only
  have c1 := count_rel w1 (by decide) e l
  by_cases h1 : (countP w1 e l).err = 0
  · rw [if_pos h1] at c1
    rw [if_neg (not_not_intro h1), c1]
    simp only
    have c2 := count_rel w2 (by decide) e (countP w1 e l).rest
    by_cases h2 : (countP w2 e (countP w1 e l).rest).err = 0
    · rw [if_pos h2] at c2
      rw [if_neg (not_not_intro h2), c2]
      simp only
      have c3 := count_rel w3 (by decide) e (countP w2 e (countP w1 e l).rest).rest
      by_cases h3 : (countP w3 e (countP w2 e (countP w1 e l).rest).rest).err = 0
      · rw [if_pos h3] at c3
        rw [if_neg (not_not_intro h3), c3]
        simp only
        have c4 := count_rel w4 (by decide) e (countP w3 e (countP w2 e (countP w1 e l).rest).rest).rest
        by_cases h4 : (countP w4 e (countP w3 e (countP w2 e (countP w1 e l).rest).rest).rest).err = 0
        · rw [if_pos h4] at c4
          rw [if_neg (not_not_intro h4), c4]
          simp only
          generalize countP w4 e (countP w3 e (countP w2 e (countP w1 e l).rest).rest).rest = C
          have := bugs_rel e (C.rest.length + 1) 0 [] C.rest
          unfold finM finS
          by_cases h5 : (bugsP e (C.rest.length + 1) 0 [] C.rest).err = 0
          · rw [if_pos h5] at this
            rw [if_neg (not_not_intro h5), if_neg (not_not_intro this.2), this.1]
          · rw [if_neg h5] at this
            rw [if_pos h5, if_pos (by rw [this.1]; exact h5), this.1, this.2]
        · rw [if_neg h4] at c4
          rw [if_pos h4, finS_f (by rw [c4.1]; exact h4), c4.1, c4.2]
      · rw [if_neg h3] at c3
        have hf : ¬ (rcount (⟨(countP w2 e (countP w1 e l).rest).rest, e, 0, 0⟩ : RS) w3).2.fe = 0 := by rw [c3.1]; exact h3
        rw [if_pos h3, rcount_f hf, finS_f hf, c3.1, c3.2]
    · rw [if_neg h2] at c2
      have hf : ¬ (rcount (⟨(countP w1 e l).rest, e, 0, 0⟩ : RS) w2).2.fe = 0 := by rw [c2.1]; exact h2
      rw [if_pos h2, rcount_f hf]
      simp only
      rw [rcount_f hf, finS_f hf, c2.1, c2.2]
  · rw [if_neg h1] at c1
    have hf : ¬ (rcount (⟨l, e, 0, 0⟩ : RS) w1).2.fe = 0 := by rw [c1.1]; exact h1
    rw [if_pos h1, rcount_f hf]
    simp only
    rw [rcount_f hf]
    simp only
    rw [rcount_f hf, finS_f hf, c1.1, c1.2]
theorem parse_eq (s : List UInt8) : parseM s = parseS s := by
  unfold parseM parseS
  rw [parse_rel]
end Go.Proofs.S52
