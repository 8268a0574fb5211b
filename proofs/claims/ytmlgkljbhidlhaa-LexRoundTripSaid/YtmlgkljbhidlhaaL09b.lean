/- Layer 9: tokens as a law's argument. -/
import Derived.Test.YtmlgkljbhidlhaaL09
import Derived.Test.YtmlgkljbhidlhaaP09g
import Derived.Test.YtmlgkljbhidlhaaAvLawG
namespace Go.Proofs.S09
open Go Go.AV
def t31 : TyE := ⟨.leaf, .int .i64 0, 8, .int .i64, false⟩
def t33 : TyE := ⟨tokSh, .agg [.int .i64 0, .str [], .int .i64 0, .int .i64 0], 40, .struct [31, 9, 3, 3], true⟩
def t22 : TyE := ⟨.leaf, .nils, 24, .slice 33, false⟩

theorem has33 {n : Nat} {y : AV} (h : HasTyB (cfg n) true t33 y) : ∃ t : Tok, y = encT t ∧ t.text.length ≤ reachBytes := by
  obtain ⟨xs, rfl, hl, hx⟩ := has_struct rfl h
  match xs, hl with
  | [a, b, c, d], _ =>
    obtain ⟨k, hk⟩ := has_int (k := .i64) rfl (hx 0 31 t31 rfl rfl)
    obtain ⟨s, hs, hs'⟩ := has_strS rfl (hx 1 9 t9 rfl rfl)
    obtain ⟨m, hm⟩ := has_int (k := .i64) rfl (hx 2 3 t3 rfl rfl)
    obtain ⟨p, hp⟩ := has_int (k := .i64) rfl (hx 3 3 t3 rfl rfl)
    simp at hk hs hm hp
    subst hk hs hm hp
    exact ⟨⟨k, s, m, p⟩, rfl, hs'⟩
theorem has22 {n : Nat} {y : AV} (h : HasTyB (cfg n) true t22 y) : ∃ l : List Tok, l.length * 40 ≤ reachBytes ∧ (∀ t ∈ l, t.text.length ≤ reachBytes) ∧ y.isStat = true ∧ AV.le [] [] y (rowT l) := by
  obtain ⟨m, f, rfl, hm, hf⟩ := has_sliceS (tl := t33) rfl rfl h
  have h2 : ∀ i, ∃ t : Tok, t.text.length ≤ reachBytes ∧ (i < m → f i = encT t) := fun i => by
    by_cases hi : i < m
    · obtain ⟨t, h3, h4⟩ := has33 (hf i hi)
      exact ⟨t, h4, fun _ => h3⟩
    · exact ⟨t0, Nat.zero_le _, fun h => absurd h hi⟩
  obtain ⟨g, hg⟩ := Classical.skolem.1 h2
  refine ⟨(List.range m).map g, by rw [List.length_map, List.length_range]; exact hm, fun t ht => ?_, rfl, rfl, by simp, fun i hi => ?_⟩
  · obtain ⟨i, _, rfl⟩ := List.mem_map.1 ht
    exact (hg i).1
  · rw [(hg i).2 hi]
    simp [hi]
end Go.Proofs.S09
