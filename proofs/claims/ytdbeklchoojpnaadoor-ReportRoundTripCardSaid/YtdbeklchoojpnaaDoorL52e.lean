/- Layer 52: text and parse are inverse. -/
import Derived.Test.YtdbeklchoojpnaaDoorL52d
namespace Go.Proofs.S52
open Go Go.AV Go.Proofs.Dec

theorem toks_pos (r : Rp) : ∀ t ∈ toksR r, t.pos = 0 := by
  intro t ht
  unfold toksR at ht
  rcases List.mem_append.1 ht with ht | ht
  · simp only [headT, List.mem_cons, List.not_mem_nil, or_false] at ht
    rcases ht with rfl | rfl | rfl | rfl | rfl | rfl | rfl | rfl | rfl | rfl | rfl | rfl <;> rfl
  · unfold linesT at ht
    obtain ⟨l, hl, htl⟩ := List.mem_flatten.1 ht
    obtain ⟨x, hx, rfl⟩ := List.mem_map.1 hl
    simp only [lineT, List.mem_cons, List.mem_append, List.not_mem_nil, or_false] at htl
    rcases htl with rfl | rfl | htl | rfl
    · rfl
    · rfl
    · obtain ⟨n, hn, rfl⟩ := List.mem_map.1 htl
      rfl
    · rfl
theorem toks_fix (r : Rp) : (toksR r).map tokOnly = toksR r := by
  have h := toks_pos r
  generalize toksR r = l at h
  induction l with
  | nil => rfl
  | cons t l ih =>
    rw [List.map_cons, ih fun u hu => h u (by simp [hu])]
    have := h t (by simp)
    cases t
    simp only at this
    subst this
    rfl
theorem text_len (r : Rp) : (textR r).1.length ≤ 16384 := by
  unfold textR
  split
  · split
    · simp
    · simp only; omega
  · simp
theorem text_ok {r : Rp} (h : (textR r).2 = 0) : validR r = true ∧ (textR r).1 = txTo r r.bugs.length ∧ ¬ 16384 < (txTo r r.bugs.length).length := by
  unfold textR at h ⊢
  split at h
  · rename_i h1
    split at h
    · simp at h
    · rename_i h2
      rw [if_pos h1, if_neg h2]
      exact ⟨h1, rfl, h2⟩
  · simp at h
theorem text_trip {r : Rp} (h : (textR r).2 = 0) : parseM (textR r).1 = (r, 0, 0) ∧ validR r = true := by
  obtain ⟨h1, h2, h3⟩ := text_ok h
  refine ⟨?_, h1⟩
  have hj : joinTo (toksR r) (toksR r).length = txTo r r.bugs.length := by rw [joinTo_eq, txTo_join]
  have hv : (toksR r).all validT = true := List.all_eq_true.2 (valid_toks h1)
  have hJ := join_ok hv (by rw [hj]; omega)
  obtain ⟨s1, s2⟩ := join_scan (l := toksR r) (by rw [hJ])
  rw [hJ, hj, ← h2] at s1 s2
  simp only [alike, beq_iff_eq] at s2
  rw [toks_fix] at s2
  have hp := parse_toks h1 ((textR r).1.length : Int)
  rw [← s2] at hp
  have hq := parseL_map hp
  unfold parseM
  rw [if_neg (by rw [s1]; simp), hq]
theorem parse_trip {s : List UInt8} (hs : s.length ≤ 2000) (h : (parseM s).2 = (0, 0)) : (textR (parseM s).1).2 = 0 ∧ (scan s).2 = (0, 0) ∧ (scan (textR (parseM s).1).1).2 = (0, 0) ∧ alike (scan s).1 (scan (textR (parseM s).1).1).1 = true := by
  rcases parse_or s (by omega) with ⟨h1, _⟩ | ⟨_, h2, h3⟩
  · rw [h] at h1; exact absurd rfl h1
  · obtain ⟨hg, hz⟩ := scan_good (l := s) (by omega)
    have hx : parseL s.length (scan s).1 = ((parseM s).1, 0, 0) := by
      rw [← h3]
      exact Prod.ext rfl h
    have hv : vt (scan s).1 := by
      have := (scan_valid s s.length 0 [] (by omega) (by omega) (by simp) (by simp)).1
      rw [scan_S (by omega)]
      exact this
    obtain ⟨i1, i2⟩ := parse_inv hv hg (by unfold in64; omega) hx
    obtain ⟨j1, _⟩ := scan_join_ok (s := s) (by omega)
    have hj : joinTo (scan s).1 (scan s).1.length = txTo (parseM s).1 (parseM s).1.bugs.length := by
      rw [joinTo_eq, txTo_join, ← i1, jn_map]
    have hall : (scan s).1.all validT = true := List.all_eq_true.2 hv
    have hlen : ¬ 16384 < (joinTo (scan s).1 (scan s).1.length).length := by
      intro g
      unfold joinL at j1
      rw [if_pos hall, if_pos g] at j1
      simp at j1
    have hJ := join_ok hall (by omega)
    obtain ⟨s1, s2⟩ := join_scan (l := (scan s).1) j1
    have ht : textR (parseM s).1 = (txTo (parseM s).1 (parseM s).1.bugs.length, 0) := text_in i2 (by rw [← hj]; exact hlen)
    have hu : (joinL (scan s).1).1 = (textR (parseM s).1).1 := by rw [hJ, ht, ← hj]
    rw [hu] at s1 s2
    refine ⟨by rw [ht], Prod.ext h2 (hz h2), s1, ?_⟩
    simp only [alike, beq_iff_eq] at s2 ⊢
    exact s2.symm
end Go.Proofs.S52
