/- Layer 52: a report's tokens; its text is their joining; parsing them gives the report. -/
import Derived.Test.YtdbeklchoojpnaaDoorL52b
import Derived.Test.YtdbeklchoojpnaaDoorRt52
namespace Go.Proofs.S52
open Go Go.AV Go.Proofs.Dec

def tW (s : List UInt8) : Tok := ⟨1, s, 0, 0⟩
def tN (n : Int) : Tok := ⟨2, fmt n, n, 0⟩
def tL : Tok := ⟨4, [10], 0, 0⟩
def lineT (c : Cex) : List Tok := tW wBug :: tW (nm c.bug) :: (c.sch.map tN ++ [tL])
def headT (r : Rp) : List Tok := [tW w1, tN r.t, tL, tW w2, tN r.b, tL, tW w3, tN r.u, tL, tW w4, tN r.o, tL]
def linesT (l : List Cex) : List Tok := (l.map lineT).flatten
def toksR (r : Rp) : List Tok := headT r ++ linesT r.bugs

/-- Joining, by the kind of what stands in front. -/
def sepK (p : Option Int) (k : Int) : List UInt8 := match p with
  | some q => if k ≠ 4 ∧ q ≠ 4 then [32] else []
  | none => []
def jn : Option Int → List Tok → List UInt8
  | _, [] => []
  | p, t :: l => sepK p t.kind ++ t.text ++ jn (some t.kind) l
def lastK : Option Int → List Tok → Option Int
  | p, [] => p
  | _, t :: l => lastK (some t.kind) l
theorem jn_app : ∀ (l m : List Tok) (p : Option Int), jn p (l ++ m) = jn p l ++ jn (lastK p l) m
  | [], m, p => by simp [jn, lastK]
  | t :: l, m, p => by simp [jn, lastK, jn_app l m]
theorem lastK_app : ∀ (l m : List Tok) (p : Option Int), lastK p (l ++ m) = lastK (lastK p l) m
  | [], m, p => rfl
  | t :: l, m, p => by simp [lastK, lastK_app l m]
theorem jn_map : ∀ (l : List Tok) (p : Option Int), jn p (l.map tokOnly) = jn p l
  | [], p => rfl
  | t :: l, p => by simp only [List.map_cons, jn, jn_map l]; rfl
theorem joinTo_jn (l : List Tok) : ∀ (n i : Nat), l.length - i = n → i ≤ l.length → joinTo l l.length = joinTo l i ++ jn (if i = 0 then none else some (l.getD (i - 1) t0).kind) (l.drop i)
  | 0, i, hn, hi => by
    obtain rfl : i = l.length := by omega
    rw [List.drop_length]
    simp [jn]
  | n + 1, i, hn, hi => by
    have h1 : i < l.length := by omega
    rw [joinTo_jn l n (i + 1) (by omega) (by omega), List.drop_eq_getElem_cons h1, getElem_getD t0 h1]
    simp only [joinTo, jn, Nat.add_sub_cancel, Nat.add_one_ne_zero, if_false, List.append_assoc]
    congr 1
    have : sep l i = sepK (if i = 0 then none else some (l.getD (i - 1) t0).kind) (l.getD i t0).kind := by
      unfold sep sepK
      by_cases h0 : i = 0
      · simp [h0]
      · simp only [h0, if_false]
        by_cases h2 : (l.getD i t0).kind ≠ 4 ∧ (l.getD (i - 1) t0).kind ≠ 4
        · rw [if_pos ⟨by omega, h2⟩, if_pos h2]
        · rw [if_neg fun g => h2 g.2, if_neg h2]
    rw [this]
theorem joinTo_eq (l : List Tok) : joinTo l l.length = jn none l := by
  have := joinTo_jn l l.length 0 (by omega) (by omega)
  simpa [joinTo] using this
/-- The text of a report is its tokens' joining. -/
theorem jn_nums : ∀ (s : List Int) (k : Int), k ≠ 4 → jn (some k) (s.map tN ++ [tL]) = (s.map fun n => 32 :: fmt n).flatten ++ [10]
  | [], k, hk => by simp [jn, tL, sepK]
  | n :: s, k, hk => by
    have ih := jn_nums s 2 (by decide)
    simp only [List.map_cons, List.cons_append, jn, List.flatten_cons]
    rw [show (tN n).kind = 2 from rfl, ih]
    simp [sepK, hk, tN]
theorem sp_inter : ∀ (s : List Int) (n : Int), [32] ++ [32].intercalate ((n :: s).map fmt) = ((n :: s).map fun m => 32 :: fmt m).flatten
  | [], n => by simp [List.intercalate]
  | m :: s, n => by
    have ih := sp_inter s m
    have e : ((n :: m :: s).map fun m => 32 :: fmt m).flatten = (32 :: fmt n) ++ ((m :: s).map fun m => 32 :: fmt m).flatten := by rw [List.map_cons, List.flatten_cons]
    rw [e, ← ih, List.map_cons, inter_cons _ _ (by simp)]
    simp
theorem jn_line (c : Cex) : jn (some 4) (lineT c) = txLine c := by
  have h := jn_nums c.sch 1 (by decide)
  simp only [lineT, jn]
  rw [show (tW (nm c.bug)).kind = 1 from rfl, h]
  unfold txLine
  have : (if 0 < c.sch.length then [32] ++ sched c.sch else []) = (c.sch.map fun n => 32 :: fmt n).flatten := by
    cases hs : c.sch with
    | nil => simp
    | cons n s =>
      rw [if_pos (by simp)]
      exact sp_inter s n
  rw [this]
  simp [sepK, tW, wBug]
theorem lastK_nums : ∀ (s : List Int) (p : Option Int), lastK p (s.map tN ++ [tL]) = some 4
  | [], p => rfl
  | n :: s, p => by simp [lastK, lastK_nums s]
theorem lastK_line (c : Cex) (p : Option Int) : lastK p (lineT c) = some 4 := by
  simp only [lineT, lastK]
  exact lastK_nums _ _
theorem jn_lines : ∀ l : List Cex, jn (some 4) (linesT l) = (l.map txLine).flatten
  | [] => rfl
  | c :: l => by
    have ih := jn_lines l
    unfold linesT at ih ⊢
    rw [List.map_cons, List.flatten_cons, jn_app, jn_line, lastK_line, ih]
    simp
theorem jn_head (r : Rp) : jn none (headT r) = txHead r := by
  simp [headT, jn, sepK, tW, tN, tL, txHead, w1, w2, w3, w4]
theorem txTo_take (r : Rp) : ∀ i, i ≤ r.bugs.length → txTo r i = txHead r ++ ((r.bugs.take i).map txLine).flatten
  | 0, _ => by simp [txTo]
  | i + 1, h => by
    have h1 : i < r.bugs.length := by omega
    rw [txTo, txTo_take r i (by omega), List.take_succ_eq_append_getElem h1, getElem_getD c0 h1]
    simp
theorem txTo_join (r : Rp) : txTo r r.bugs.length = jn none (toksR r) := by
  rw [txTo_take r _ (Nat.le_refl _), List.take_length]
  unfold toksR
  rw [jn_app, jn_head, show lastK none (headT r) = some 4 from rfl, jn_lines]
/-- Its tokens are valid. -/
theorem dec_dig (m : Nat) : ∀ c ∈ dec m, 48 ≤ c.toNat ∧ c.toNat ≤ 57 := fun c hc => by
  obtain ⟨j, hj, rfl⟩ := List.getElem_of_mem hc
  unfold dec at hj ⊢
  have hl := decN_len (nd m) m
  have := decN_dig (nd m) m j (by omega)
  rw [getElem_getD 0 (by omega), this, byte48 _ (Nat.mod_lt _ (by decide))]
  omega
theorem while_all {p : UInt8 → Bool} : ∀ {l : List UInt8}, (∀ c ∈ l, p c = true) → l.takeWhile p = l
  | [], _ => rfl
  | c :: l, h => by
    rw [List.takeWhile_cons, h c (by simp), while_all fun d hd => h d (by simp [hd])]
    rfl
theorem dig_inW {c : UInt8} (h : 48 ≤ c.toNat ∧ c.toNat ≤ 57) : inW (c.toNat : Int) = true := by
  have : dig (c.toNat : Int) = true := by simp only [dig, Bool.and_eq_true, decide_eq_true_eq]; omega
  simp [inW, this]
theorem valid_num {n : Int} (h : okV n = true) : validT (tN n) = true := by
  refine valid_iff.2 ⟨fmt_ne n, ?_⟩
  have hc : ∃ c d, fmt n = c :: d ∧ (c.toNat = 45 ∨ (48 ≤ c.toNat ∧ c.toNat ≤ 57)) ∧ ∀ x ∈ d, 48 ≤ x.toNat ∧ x.toNat ≤ 57 := by
    have hd := dec_dig n.natAbs
    unfold fmt
    split
    · exact ⟨45, _, rfl, .inl rfl, hd⟩
    · cases he : dec n.natAbs with
      | nil => exact absurd he (dec_ne _).1
      | cons c d =>
        rw [he] at hd
        exact ⟨c, d, rfl, .inr (hd c (by simp)), fun x hx => hd x (by simp [hx])⟩
  obtain ⟨c, d, e, h1, h2⟩ := hc
  have hv := h
  simp only [okV, Bool.and_eq_true, decide_eq_true_eq] at hv
  have hp : parse (fmt n) = (n, 0) := parse_fmt hv
  have hch : ch (fmt n) 0 = (c.toNat : Int) := by rw [e]; rfl
  have hend : endOf inW (fmt n) (0 + 1) = (fmt n).length := by
    rw [e]
    unfold endOf
    simp only [Nat.zero_add, List.drop_succ_cons, List.drop_zero, List.length_cons]
    rw [while_all fun x hx => dig_inW (h2 x hx)]
    omega
  have hcut : cut (fmt n) 0 (endOf inW (fmt n) (0 + 1)) = fmt n := by rw [hend, cut0, List.take_length]
  have hl : isLet (ch (fmt n) 0) = false := by
    rw [hch]
    simp only [isLet, Bool.or_eq_false_iff, Bool.and_eq_false_iff, decide_eq_false_iff_not]
    omega
  have hn : ch (fmt n) 0 = 45 ∨ dig (ch (fmt n) 0) = true := by
    rw [hch]
    simp only [dig, Bool.and_eq_true, decide_eq_true_eq]
    omega
  show tok (fmt n) 0 = (⟨2, fmt n, n, 0⟩, 0)
  rw [tok_num hl hn (by rw [hcut, hp]), hcut, hp]
  rfl
theorem valid_L : validT tL = true := by decide +kernel
theorem valid_nm {b : Int} (h : 1 ≤ b ∧ b ≤ 4) : validT (tW (nm b)) = true := by
  obtain rfl | rfl | rfl | rfl : b = 1 ∨ b = 2 ∨ b = 3 ∨ b = 4 := by omega
  · decide +kernel
  · decide +kernel
  · decide +kernel
  · decide +kernel
theorem okN_V {n : Int} (h : okN n = true) : okV n = true := by
  simp only [okN, okV, Bool.and_eq_true, decide_eq_true_eq] at h ⊢
  omega
theorem valid_toks {r : Rp} (h : validR r = true) : ∀ t ∈ toksR r, validT t = true := by
  obtain ⟨h1, h2⟩ := (validR_iff r).1 h
  have a := okN_V (h1 0 (by decide))
  have b := okN_V (h1 1 (by decide))
  have c := okN_V (h1 2 (by decide))
  have d := okN_V (h1 3 (by decide))
  intro t ht
  unfold toksR at ht
  rcases List.mem_append.1 ht with ht | ht
  · simp only [headT, List.mem_cons, List.not_mem_nil, or_false] at ht
    rcases ht with rfl | rfl | rfl | rfl | rfl | rfl | rfl | rfl | rfl | rfl | rfl | rfl
    · decide +kernel
    · exact valid_num a
    · exact valid_L
    · decide +kernel
    · exact valid_num b
    · exact valid_L
    · decide +kernel
    · exact valid_num c
    · exact valid_L
    · decide +kernel
    · exact valid_num d
    · exact valid_L
  · unfold linesT at ht
    obtain ⟨l, hl, htl⟩ := List.mem_flatten.1 ht
    obtain ⟨x, hx, rfl⟩ := List.mem_map.1 hl
    obtain ⟨i, hi, rfl⟩ := List.getElem_of_mem hx
    rw [getElem_getD c0 hi] at htl
    have hb := (bugOK_iff _ _).1 (h2 i hi)
    simp only [lineT, List.mem_cons, List.mem_append, List.not_mem_nil, or_false] at htl
    rcases htl with rfl | rfl | htl | rfl
    · decide +kernel
    · exact valid_nm ⟨hb.2.1, hb.2.2.1⟩
    · obtain ⟨n, hn, rfl⟩ := List.mem_map.1 htl
      obtain ⟨j, hj, rfl⟩ := List.getElem_of_mem hn
      rw [getElem_getD 0 hj]
      exact valid_num (hb.2.2.2.2 j hj)
    · exact valid_L
end Go.Proofs.S52
