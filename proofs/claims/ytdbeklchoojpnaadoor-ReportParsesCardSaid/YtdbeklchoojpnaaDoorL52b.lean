/- Layer 52: plain facts on what is parsed, and on schedules' texts. -/
import Derived.Test.YtdbeklchoojpnaaDoorP52x
namespace Go.Proofs.S52
open Go Go.AV Go.Proofs.Dec

theorem parse_rng (w : List UInt8) : okV (parse w).1 = true := by
  unfold parse
  split
  · decide
  · split
    · decide
    · split
      · decide
      · rename_i h
        simp only [okV, Bool.and_eq_true, decide_eq_true_eq]
        omega
theorem nums_out (e : Int) : ∀ (l : List Tok) (out : List Int), out.length ≤ 512 → (numsP e l out).val.length ≤ 512
  | [], out, _ => by simp [numsP]
  | t :: l, out, h => by
    simp only [numsP]
    split
    · simp
    · split
      · exact h
      · split
        · simp
        · exact nums_out e l _ (by simp; omega)
theorem bug_out (last e : Int) (l : List Tok) : (bugP last e l).val.sch.length ≤ 512 := by
  have := nums_out e (nextP 1 1 e (wordP wBug e l).rest).rest [] (by simp)
  unfold bugP kindP
  split
  · simp [c0]
  · split
    · simp [c0]
    · split
      · simp [c0]
      · split
        · simp [c0]
        · exact this
theorem bugs_out (e : Int) : ∀ (k : Nat) (last : Int) (out : List Cex) (l : List Tok), (∀ c ∈ out, c.sch.length ≤ 512) → (bugsP e k last out l).val.length ≤ out.length + k ∧ ∀ c ∈ (bugsP e k last out l).val, c.sch.length ≤ 512
  | 0, _, out, l, h => ⟨by simp [bugsP], h⟩
  | k + 1, last, out, l, h => by
    rw [bugsP]
    split
    · exact ⟨by simp only; omega, h⟩
    · split
      · exact ⟨by simp, by simp⟩
      · have := bugs_out e k (bugP last e l).val.bug (out ++ [(bugP last e l).val]) (bugP last e l).rest fun c hc => by
          rcases List.mem_append.1 hc with hc | hc
          · exact h c hc
          · rw [List.mem_singleton.1 hc]; exact bug_out _ _ _
        simp only [List.length_append, List.length_cons, List.length_nil] at this
        exact ⟨by omega, this.2⟩
theorem parse_or (s : List UInt8) (hs : s.length ≤ 9223372036854775807) : ((parseM s).2.1 ≠ 0 ∧ (parseM s).1 = r0) ∨ ((parseM s).2 = (0, 0) ∧ (scan s).2.1 = 0 ∧ parseM s = parseL s.length (scan s).1) := by
  unfold parseM
  split
  · rename_i h; exact .inl ⟨h, rfl⟩
  · rename_i h
    have h0 : (scan s).2.1 = 0 := by simpa using h
    rw [parseL_at]
    split
    · rename_i h1; exact .inl ⟨h1, rfl⟩
    · split
      · rename_i h1; exact .inl ⟨h1, rfl⟩
      · split
        · rename_i h1; exact .inl ⟨h1, rfl⟩
        · split
          · rename_i h1; exact .inl ⟨h1, rfl⟩
          · unfold finM
            split
            · rename_i h1; exact .inl ⟨h1, rfl⟩
            · exact .inr ⟨rfl, h0, rfl⟩
theorem parse_small (s : List UInt8) : (parseM s).1.bugs.length ≤ 20000 ∧ ∀ c ∈ (parseM s).1.bugs, c.sch.length ≤ 512 := by
  have hz : r0.bugs.length ≤ 20000 ∧ ∀ c ∈ r0.bugs, c.sch.length ≤ 512 := by simp [r0]
  have hsl := scan_len s
  unfold parseM
  split
  · exact hz
  · rw [parseL_at]
    have n1 := count_len w1 s.length (scan s).1
    have n2 := count_len w2 s.length (countP w1 s.length (scan s).1).rest
    have n3 := count_len w3 s.length (countP w2 s.length (countP w1 s.length (scan s).1).rest).rest
    have n4 := count_len w4 s.length (countP w3 s.length (countP w2 s.length (countP w1 s.length (scan s).1).rest).rest).rest
    have m4 : (at14 s.length (scan s).1).c4.rest.length ≤ 16384 := by
      show (countP w4 s.length (countP w3 s.length (countP w2 s.length (countP w1 s.length (scan s).1).rest).rest).rest).rest.length ≤ _
      omega
    split
    · exact hz
    · split
      · exact hz
      · split
        · exact hz
        · split
          · exact hz
          · unfold finM
            split
            · exact hz
            · have := bugs_out s.length ((at14 s.length (scan s).1).c4.rest.length + 1) 0 [] (at14 s.length (scan s).1).c4.rest (by simp)
              simp only [List.length_nil, Nat.zero_add] at this
              exact ⟨by simp only; omega, this.2⟩
/-- Splitting and joining. -/
theorem inter_cons (x : List UInt8) : ∀ (m : List (List UInt8)), m ≠ [] → [32].intercalate (x :: m) = x ++ [32] ++ [32].intercalate m
  | [], h => absurd rfl h
  | y :: m, _ => by simp [List.intercalate, List.intersperse]
theorem inter_split : ∀ s : List UInt8, [32].intercalate (splitW s) = s
  | [] => by simp [splitW, List.intercalate]
  | c :: l => by
    have ih := inter_split l
    by_cases hc : c = 32
    · simp only [splitW, hc, if_true]
      rw [inter_cons _ _ (splitW_ne l), ih]
      rfl
    · simp only [splitW, hc, if_false]
      cases h : splitW l with
      | nil => exact (splitW_ne l h).elim
      | cons x m =>
        rw [h] at ih
        cases m with
        | nil => simp [List.intercalate] at ih ⊢; exact ih
        | cons y m =>
          rw [inter_cons _ _ (by simp)] at ih ⊢
          simp only [List.cons_append, List.append_assoc] at ih ⊢
          rw [ih]
theorem split_join_one : ∀ x : List UInt8, (∀ c ∈ x, ¬ c = 32) → splitW x = [x]
  | [], _ => rfl
  | c :: x, h => by
    have ih := split_join_one x fun d hd => h d (by simp [hd])
    have hc := h c (by simp)
    simp only [splitW, hc, if_false, ih]
theorem split_app : ∀ (x y : List UInt8), (∀ c ∈ x, ¬ c = 32) → splitW (x ++ 32 :: y) = x :: splitW y
  | [], y, _ => by simp [splitW]
  | c :: x, y, h => by
    have ih := split_app x y fun d hd => h d (by simp [hd])
    have hc := h c (by simp)
    simp only [List.cons_append, splitW, hc, if_false, ih]
theorem split_join : ∀ l : List (List UInt8), l ≠ [] → (∀ x ∈ l, ∀ c ∈ x, ¬ c = 32) → splitW ([32].intercalate l) = l
  | [], h, _ => absurd rfl h
  | [x], _, h => by simpa [List.intercalate] using split_join_one x (h x (by simp))
  | x :: y :: l, _, h => by
    have ih := split_join (y :: l) (by simp) fun z hz => h z (by simp at hz ⊢; exact .inr hz)
    rw [inter_cons _ _ (by simp)]
    have := split_app x ([32].intercalate (y :: l)) (h x (by simp))
    rw [ih] at this
    rw [← this]
    simp
theorem fmt_nosp (n : Int) : ∀ c ∈ fmt n, ¬ c = 32 := by
  have hd : ∀ c ∈ dec n.natAbs, ¬ c = 32 := fun c hc => by
    obtain ⟨j, hj, rfl⟩ := List.getElem_of_mem hc
    unfold dec at hj ⊢
    have hl := decN_len (nd n.natAbs) n.natAbs
    have := decN_dig (nd n.natAbs) n.natAbs j (by omega)
    rw [getElem_getD 0 (by omega), this]
    intro e
    have := congrArg UInt8.toNat e
    rw [byte48 _ (Nat.mod_lt _ (by decide)), show (32 : UInt8).toNat = 32 from rfl] at this
    omega
  intro c hc
  unfold fmt at hc
  split at hc
  · rcases List.mem_cons.1 hc with rfl | hc
    · decide
    · exact hd c hc
  · exact hd c hc
theorem nd_le (m : Nat) : nd m ≤ 21 := by
  have := dec_len m
  unfold dec at this
  rw [decN_len] at this
  exact this
theorem dec_inj {a b : Nat} (ha : a < 10 ^ 20) (hb : b < 10 ^ 20) (h : dec a = dec b) : a = b := by
  have key : ∀ m, m < 10 ^ 20 → numN (dec m) (dec m).length = (m : Int) := fun m hm => by
    obtain ⟨i, h1, h2, h3, h4⟩ := ndF_spec 20 m (by omega)
    have hdec : dec m = decN m (i + 1) := by unfold dec nd; rw [h2]
    rw [hdec, decN_len, numN_dec, Nat.mod_eq_of_lt h3]
  have e1 := key a ha
  have e2 := key b hb
  rw [h] at e1
  omega
theorem dec_ne (m : Nat) : dec m ≠ [] ∧ ((dec m).getD 0 0).toNat ≠ 45 := by
  have hl : (dec m).length = nd m := decN_len _ _
  have hp : 1 ≤ nd m := by
    unfold nd ndF
    split <;> omega
  refine ⟨fun h => by rw [h] at hl; simp at hl; omega, ?_⟩
  unfold dec
  rw [decN_dig _ _ _ hp, byte48 _ (Nat.mod_lt _ (by decide))]
  omega
theorem fmt_inj {a b : Int} (ha : in64 a) (hb : in64 b) (h : fmt a = fmt b) : a = b := by
  unfold in64 at ha hb
  have p : (10 : Nat) ^ 20 = 100000000000000000000 := by decide
  unfold fmt at h
  split at h
  · split at h
    · simp only [List.cons.injEq, true_and] at h
      have := dec_inj (by omega) (by omega) h
      omega
    · have := (dec_ne b.natAbs).2
      rw [← h] at this
      simp at this
  · split at h
    · have := (dec_ne a.natAbs).2
      rw [h] at this
      simp at this
    · have := dec_inj (by omega) (by omega) h
      omega
theorem fmt_ne (n : Int) : fmt n ≠ [] := by
  unfold fmt
  split
  · simp
  · exact (dec_ne _).1
theorem okV_in {n : Int} (h : okV n = true) : in64 n := by
  simp only [okV, Bool.and_eq_true, decide_eq_true_eq] at h
  unfold in64
  omega
theorem parse_fmt_iff {n : Int} (h : in64 n) : (parse (fmt n)).2 = 0 ↔ okV n = true := by
  constructor
  · intro h1
    have := fmt_parse h1
    have hr := parse_rng (fmt n)
    rw [fmt_inj (okV_in hr) h this] at hr
    exact hr
  · intro h1
    simp only [okV, Bool.and_eq_true, decide_eq_true_eq] at h1
    rw [parse_fmt h1]
theorem pnums_fmt : ∀ (l : List Int) (out : List Int), (∀ n ∈ l, in64 n) → if l.all okV = true then pnums (l.map fmt) out = (out ++ l, 0) else (pnums (l.map fmt) out).2 ≠ 0
  | [], out, _ => by simp [pnums]
  | n :: l, out, h => by
    have hn := h n (by simp)
    have ih := pnums_fmt l (out ++ [n]) fun m hm => h m (by simp [hm])
    by_cases h1 : okV n = true
    · have h2 := (parse_fmt_iff hn).2 h1
      have h3 : (parse (fmt n)).1 = n := by
        have h4 := h1
        simp only [okV, Bool.and_eq_true, decide_eq_true_eq] at h4
        rw [parse_fmt h4]
      simp only [List.map_cons, pnums, h2, if_true, h3, List.all_cons, h1, Bool.true_and]
      split
      · rename_i h5
        rw [if_pos h5] at ih
        rw [ih]
        simp
      · rename_i h5
        rw [if_neg h5] at ih
        exact ih
    · have h2 : ¬ (parse (fmt n)).2 = 0 := fun e => h1 ((parse_fmt_iff hn).1 e)
      simp only [List.map_cons, pnums, if_neg h2, List.all_cons]
      rw [if_neg (by simp [h1])]
      exact h2
theorem sched_nil : sched [] = [] := by simp [sched, List.intercalate]
theorem psch_sched {l : List Int} (h : ∀ n ∈ l, in64 n) : if l.length ≤ 512 ∧ l.all okV = true then psch (sched l) = (l, 0) else (psch (sched l)).2 ≠ 0 := by
  cases l with
  | nil => rw [sched_nil]; simp [psch]
  | cons n l =>
    have hs : splitW (sched (n :: l)) = (n :: l).map fmt := split_join _ (by simp) fun x hx => by
      obtain ⟨m, _, rfl⟩ := List.mem_map.1 hx
      exact fmt_nosp m
    have hne : ¬ sched (n :: l) = [] := fun e => by
      have := hs
      rw [e] at this
      simp [splitW] at this
      exact fmt_ne n this.1
    have hp := pnums_fmt (n :: l) [] h
    by_cases h1 : (n :: l).length ≤ 512
    · have hq : psch (sched (n :: l)) = pnums ((n :: l).map fmt) [] := by
        rw [psch_in hne (by rw [hs, List.length_map]; omega), hs]
      rw [hq]
      by_cases h2 : (n :: l).all okV = true
      · rw [if_pos h2] at hp
        rw [if_pos ⟨h1, h2⟩, hp]
        rfl
      · rw [if_neg h2] at hp
        rw [if_neg fun g => h2 g.2]
        exact hp
    · rw [if_neg fun g => h1 g.1, psch_long hne (by rw [hs, List.length_map]; omega)]
      simp
theorem pnums_inv : ∀ (W : List (List UInt8)) (out : List Int), (pnums W out).2 = 0 → (pnums W out).1.map fmt = out.map fmt ++ W ∧ ((∀ n ∈ out, okV n = true) → ∀ n ∈ (pnums W out).1, okV n = true)
  | [], out, _ => by simp [pnums]
  | w :: W, out, h => by
    unfold pnums at h ⊢
    split at h
    · rename_i h1
      rw [if_pos h1]
      obtain ⟨a, b⟩ := pnums_inv W _ h
      refine ⟨by rw [a]; simp [fmt_parse h1], fun ho => b fun n hn => ?_⟩
      rcases List.mem_append.1 hn with hn | hn
      · exact ho n hn
      · rw [List.mem_singleton.1 hn]; exact parse_rng w
    · rename_i h1; exact absurd h h1
theorem pnums_bad : ∀ (W : List (List UInt8)) (out : List Int), (pnums W out).2 ≠ 0 → (pnums W out).1 = []
  | [], out, h => by simp [pnums] at h
  | w :: W, out, h => by
    unfold pnums at h ⊢
    split at h
    · rename_i h1; rw [if_pos h1]; exact pnums_bad W _ h
    · rename_i h1; rw [if_neg h1]
theorem psch_ok {s : List UInt8} (h : (psch s).2 = 0) : sched (psch s).1 = s ∧ (∀ n ∈ (psch s).1, okV n = true) ∧ (psch s).1.length ≤ 512 := by
  by_cases h1 : s = []
  · subst h1; exact ⟨sched_nil, by simp [psch], by simp [psch]⟩
  · by_cases h2 : 512 < (splitW s).length
    · rw [psch_long h1 h2] at h; simp at h
    · rw [psch_in h1 h2] at h ⊢
      obtain ⟨a, b⟩ := pnums_inv _ _ h
      simp only [List.map_nil, List.nil_append] at a
      refine ⟨by unfold sched; rw [a, inter_split], b (by simp), ?_⟩
      have := congrArg List.length a
      simp at this
      omega
theorem psch_bad {s : List UInt8} (h : (psch s).2 ≠ 0) : (psch s).1 = [] := by
  by_cases h1 : s = []
  · subst h1; rfl
  · by_cases h2 : 512 < (splitW s).length
    · rw [psch_long h1 h2]
    · rw [psch_in h1 h2] at h ⊢
      exact pnums_bad _ _ h
end Go.Proofs.S52
