/- What an argument of a type reads as. -/
import Derived.Test.YtmlgkljbhidlhaaAvLaw
namespace Go.AV

theorem has_int {C : Cfg} {S : Bool} {te : TyE} {k : IntKind} {y : AV} (hk : te.kind = .int k) (h : HasTyB C S te y) : ∃ n, y = .int k n := by
  cases h with
  | int h2 => rw [hk] at h2; cases h2; exact ⟨_, rfl⟩
  | bool h2 | str h2 | slice h2 | opaqueSlice h2 | struct h2 | arr h2 => rw [hk] at h2; cases h2

theorem has_intR {C : Cfg} {S : Bool} {te : TyE} {y : AV} {k : IntKind} (hk : te.kind = .int k) (h : HasTyB C S te y) : ∃ n, y = .int k n ∧ k.min ≤ n ∧ n ≤ k.max := by
  cases h with
  | int h2 hn =>
    rw [hk] at h2
    cases h2
    refine ⟨_, rfl, ?_⟩
    simp only [Lit.wf, Bool.and_eq_true, decide_eq_true_eq] at hn
    exact hn
  | bool h2 | str h2 | slice h2 | opaqueSlice h2 | struct h2 | arr h2 => rw [hk] at h2; cases h2

theorem has_slice {C : Cfg} {S : Bool} {te tl : TyE} {e : TypeId} {y : AV} (hk : te.kind = .slice e) (hl : tyOf C e = some tl) (h : HasTyB C S te y) : ∃ n f, y = .seq tl.sh n f ∧ n ≤ maxLen ∧ ∀ i, i < n → HasTyB C S tl (f i) := by
  cases h with
  | slice h2 h3 h4 h5 _ => rw [hk] at h2; cases h2; rw [hl] at h3; cases h3; exact ⟨_, _, rfl, h4, h5⟩
  | opaqueSlice h2 h3 => rw [hk] at h2; cases h2; rw [hl] at h3; cases h3
  | int h2 | bool h2 | str h2 | struct h2 | arr h2 => rw [hk] at h2; cases h2

theorem has_struct {C : Cfg} {S : Bool} {te : TyE} {fs : List TypeId} {y : AV} (hk : te.kind = .struct fs) (h : HasTyB C S te y) : ∃ xs, y = .agg xs ∧ xs.length = fs.length ∧ ∀ (j : Nat) (e : TypeId) (tf : TyE), fs[j]? = some e → tyOf C e = some tf → HasTyB C S tf (xs.getD j .any) := by
  cases h with
  | struct h2 h3 h4 => rw [hk] at h2; cases h2; exact ⟨_, rfl, h3, h4⟩
  | int h2 | bool h2 | str h2 | slice h2 | opaqueSlice h2 | arr h2 => rw [hk] at h2; cases h2

theorem rows_of {α : Type} {n : Nat} {f : Nat → AV} (enc : α → AV) (d : α) (h : ∀ i, i < n → ∃ e, f i = enc e) : ∃ l : List α, l.length = n ∧ ∀ i, i < n → f i = enc (l.getD i d) := by
  have h' : ∀ i, ∃ e, i < n → f i = enc e := fun i => by
    by_cases hi : i < n
    · obtain ⟨e, he⟩ := h i hi; exact ⟨e, fun _ => he⟩
    · exact ⟨d, fun h => absurd h hi⟩
  obtain ⟨g, hg⟩ := Classical.skolem.1 h'
  refine ⟨(List.range n).map g, by simp, fun i hi => ?_⟩
  rw [hg i hi]
  simp [hi]

theorem has_str {C : Cfg} {S : Bool} {te : TyE} {y : AV} (hk : te.kind = .string) (h : HasTyB C S te y) : ∃ l : List UInt8, y = .str l ∧ l.length ≤ maxLen := by
  cases h with
  | str h2 h3 _ => exact ⟨_, rfl, h3⟩
  | int h2 | bool h2 | slice h2 | opaqueSlice h2 | struct h2 | arr h2 => rw [hk] at h2; cases h2
/-- Of sizes within reach. -/
theorem has_strS {C : Cfg} {te : TyE} {y : AV} (hk : te.kind = .string) (h : HasTyB C true te y) : ∃ l : List UInt8, y = .str l ∧ l.length ≤ reachBytes := by
  cases h with
  | str h2 h3 h4 => exact ⟨_, rfl, h4 rfl⟩
  | int h2 | bool h2 | slice h2 | opaqueSlice h2 | struct h2 | arr h2 => rw [hk] at h2; cases h2
theorem has_sliceS {C : Cfg} {te tl : TyE} {e : TypeId} {y : AV} (hk : te.kind = .slice e) (hl : tyOf C e = some tl) (h : HasTyB C true te y) : ∃ n f, y = .seq tl.sh n f ∧ n * tl.bytes ≤ reachBytes ∧ ∀ i, i < n → HasTyB C true tl (f i) := by
  cases h with
  | slice h2 h3 h4 h5 h6 => rw [hk] at h2; cases h2; rw [hl] at h3; cases h3; exact ⟨_, _, rfl, h6 rfl, h5⟩
  | opaqueSlice h2 h3 => rw [hk] at h2; cases h2; rw [hl] at h3; cases h3
  | int h2 | bool h2 | str h2 | struct h2 | arr h2 => rw [hk] at h2; cases h2
end Go.AV
