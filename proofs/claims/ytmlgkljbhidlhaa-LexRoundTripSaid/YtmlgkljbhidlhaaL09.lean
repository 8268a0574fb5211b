/- Layer 9: the arguments of a law. -/
import Derived.Test.YtmlgkljbhidlhaaP09b
import Derived.Test.YtmlgkljbhidlhaaAvHas
namespace Go.Proofs.S09
open Go Go.AV
def t3 : TyE := ⟨.leaf, .int .i64 0, 8, .int .i64, false⟩
def t9 : TyE := ⟨.leaf, .str [], 16, .string, false⟩
theorem ownK : ownKnob Try.prog.godebug = none := by kernel_rfl
theorem all_known (n : Nat) : AllKnown (cfg n) := by
  intro t te ht
  have := get_mem ht
  simp only [cfg, TT, List.mem_cons, Prod.mk.injEq, List.not_mem_nil, or_false] at this
  rcases this with ⟨_, rfl⟩ | ⟨_, rfl⟩ | ⟨_, rfl⟩ | ⟨_, rfl⟩ | ⟨_, rfl⟩ | ⟨_, rfl⟩ | ⟨_, rfl⟩ | ⟨_, rfl⟩ | ⟨_, rfl⟩ <;> trivial
end Go.Proofs.S09
