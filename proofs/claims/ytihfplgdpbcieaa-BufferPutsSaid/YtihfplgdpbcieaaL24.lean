/- Layer 24: the arguments of a law as lists and records. -/
import Derived.Test.YtihfplgdpbcieaaP24b
import Derived.Test.YtihfplgdpbcieaaAvD
namespace Go.Proofs.S24
open Go Go.AV

theorem has_int {C : Cfg} {te : TyE} {k : IntKind} {y : AV} (hk : te.kind = .int k) (h : HasTy C te y) : ∃ n, y = .int k n := by
  cases h with
  | int h2 => rw [hk] at h2; cases h2; exact ⟨_, rfl⟩
  | bool h2 | str h2 | slice h2 | opaqueSlice h2 | struct h2 | arr h2 => rw [hk] at h2; cases h2

theorem has_slice {C : Cfg} {te tl : TyE} {e : TypeId} {y : AV} (hk : te.kind = .slice e) (hl : tyOf C e = some tl) (h : HasTy C te y) : ∃ n f, y = .seq tl.sh n f ∧ n ≤ maxLen ∧ ∀ i, i < n → HasTy C tl (f i) := by
  cases h with
  | slice h2 h3 h4 h5 => rw [hk] at h2; cases h2; rw [hl] at h3; cases h3; exact ⟨_, _, rfl, h4, h5⟩
  | opaqueSlice h2 h3 => rw [hk] at h2; cases h2; rw [hl] at h3; cases h3
  | int h2 | bool h2 | str h2 | struct h2 | arr h2 => rw [hk] at h2; cases h2

theorem has_struct {C : Cfg} {te : TyE} {fs : List TypeId} {y : AV} (hk : te.kind = .struct fs) (h : HasTy C te y) : ∃ xs, y = .agg xs ∧ xs.length = fs.length ∧ ∀ (j : Nat) (e : TypeId) (tf : TyE), fs[j]? = some e → tyOf C e = some tf → HasTy C tf (xs.getD j .any) := by
  cases h with
  | struct h2 h3 h4 => rw [hk] at h2; cases h2; exact ⟨_, rfl, h3, h4⟩
  | int h2 | bool h2 | str h2 | slice h2 | opaqueSlice h2 | arr h2 => rw [hk] at h2; cases h2

def t3 : TyE := ⟨.leaf, .int .i64 0, 8, .int .i64, false⟩
def t22 : TyE := ⟨.leaf, .nils, 24, .slice 30, false⟩
def t24 : TyE := ⟨bufSh, .agg [.int .i64 0, .int .i64 0, .nils], 40, .struct [3, 3, 22], false⟩
def t30 : TyE := ⟨entSh, .agg [.int .i64 0, .int .i64 0], 16, .struct [3, 3], true⟩
def t37 : TyE := ⟨.leaf, .nils, 24, .slice 3, false⟩

theorem rows_of {α : Type} {n : Nat} {f : Nat → AV} (enc : α → AV) (d : α) (h : ∀ i, i < n → ∃ e, f i = enc e) : ∃ l : List α, l.length = n ∧ ∀ i, i < n → f i = enc (l.getD i d) := by
  have h' : ∀ i, ∃ e, i < n → f i = enc e := fun i => by
    by_cases hi : i < n
    · obtain ⟨e, he⟩ := h i hi; exact ⟨e, fun _ => he⟩
    · exact ⟨d, fun h => absurd h hi⟩
  obtain ⟨g, hg⟩ := Classical.skolem.1 h'
  refine ⟨(List.range n).map g, by simp, fun i hi => ?_⟩
  rw [hg i hi]
  simp [hi]

theorem has30 {n : Nat} {y : AV} (h : HasTy (cfg n) t30 y) : ∃ e, y = encE e := by
  obtain ⟨xs, rfl, hl, hx⟩ := has_struct (fs := [3, 3]) rfl h
  match xs, hl with
  | [a, b], _ =>
    obtain ⟨v, hv⟩ := has_int rfl (hx 0 3 t3 rfl rfl)
    obtain ⟨w, hw⟩ := has_int rfl (hx 1 3 t3 rfl rfl)
    simp at hv hw
    subst hv hw
    exact ⟨⟨v, w⟩, rfl⟩

theorem has22 {n : Nat} {y : AV} (h : HasTy (cfg n) t22 y) : ∃ l : List Entry, l.length ≤ maxLen ∧ y.isStat = true ∧ AV.le [] [] y (rowE l) := by
  obtain ⟨m, f, rfl, hm, hf⟩ := has_slice (tl := t30) rfl rfl h
  obtain ⟨l, rfl, h2⟩ := rows_of encE default fun i hi => has30 (hf i hi)
  exact ⟨l, hm, rfl, by simp only [rowE, AV.le]; exact ⟨rfl, trivial, h2⟩⟩

theorem has37 {n : Nat} {y : AV} (h : HasTy (cfg n) t37 y) : ∃ l : List Int, l.length ≤ maxLen ∧ y.isStat = true ∧ AV.le [] [] y (rowI l) := by
  obtain ⟨m, f, rfl, hm, hf⟩ := has_slice (tl := t3) rfl rfl h
  obtain ⟨l, rfl, h2⟩ := rows_of (AV.int .i64) 0 fun i hi => has_int rfl (hf i hi)
  exact ⟨l, hm, rfl, by simp only [rowI, AV.le]; exact ⟨rfl, trivial, h2⟩⟩

theorem has24 {n : Nat} {y : AV} (h : HasTy (cfg n) t24 y) : ∃ b : Buf, b.entries.length ≤ maxLen ∧ y.isStat = true ∧ AV.le [] [] y (encB b) := by
  obtain ⟨xs, rfl, hl, hx⟩ := has_struct (fs := [3, 3, 22]) rfl h
  match xs, hl with
  | [a, b, c], _ =>
    obtain ⟨v, hv⟩ := has_int rfl (hx 0 3 t3 rfl rfl)
    obtain ⟨w, hw⟩ := has_int rfl (hx 1 3 t3 rfl rfl)
    obtain ⟨l, hl, hs, hc⟩ := has22 (hx 2 22 t22 rfl rfl)
    simp at hv hw hc hs
    subst hv hw
    exact ⟨⟨v, w, l⟩, hl, by simp [AV.isStat, AV.areStat, hs], by simp [encB, AV.le, AV.les, hc]⟩

theorem ownK : ownKnob Try.prog.godebug = none := by kernel_rfl
theorem all_known (n : Nat) : AllKnown (cfg n) := by
  intro t te ht
  have := get_mem ht
  simp only [cfg, TT, List.mem_cons, Prod.mk.injEq, List.not_mem_nil, or_false] at this
  rcases this with ⟨_, rfl⟩ | ⟨_, rfl⟩ | ⟨_, rfl⟩ | ⟨_, rfl⟩ | ⟨_, rfl⟩ | ⟨_, rfl⟩ | ⟨_, rfl⟩ | ⟨_, rfl⟩ <;> trivial
end Go.Proofs.S24
