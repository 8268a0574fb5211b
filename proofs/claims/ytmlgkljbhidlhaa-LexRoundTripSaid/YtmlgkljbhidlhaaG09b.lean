import Derived.Test.YtmlgkljbhidlhaaG09
namespace Go.Proofs.S09
open Go Go.AV Go.Proofs.Dec
def z0 : Tok := ⟨0, [], 0, 0⟩
def join (s t : List UInt8) : List UInt8 := (s ++ [10]) ++ t
def inv4 (s t : List UInt8) (k : Nat) : Option Inv := match Nat.beq k 11 with
  | true => some { ι := Nat, S := fun i => ⟨[(0, .str s), (1, .str t), (5, rowT (scan s).1), (7, rowT (scan t).1), (9, rowT (scan (join s t)).1), (88, rowT (scan t).1), (89, .int .i64 (scan t).1.length), (90, .int .i64 i)], []⟩, μ := fun i => (scan t).1.length - i, ok := fun i => i ≤ (scan t).1.length }
  | false => none
noncomputable def g4 (s t : List UInt8) : Prop := fnVc (vx 143 (inv4 s t)) Try.f4 [.str s, .str t] (.bool true)
end Go.Proofs.S09
