import Derived.Test.YtihfplgdpbcieaaS24a
namespace Go.Proofs.S24
open Go Go.AV
def inv15 (b : Buf) (k : Nat) : Option Inv := match Nat.beq k 4 with
  | true => some { ι := Nat, S := fun i => ⟨[(1, .ptr 1 []), (3, .int .i64 i)], [(1, .cell 24 bufSh (encB b))]⟩, μ := fun i => b.entries.length - i, ok := fun i => i ≤ b.entries.length ∧ ∀ j, j < i → entryOK (b.entries.getD j default) = true }
  | false => none
noncomputable def g15 (b : Buf) : Prop := fnVc (vx 57 (inv15 b)) Try.f15 [vB b] (.bool (validB b))
def inv16 (b : Buf) (x : Int) (k : Nat) : Option Inv := match Nat.beq k 4 with
  | true => some { ι := Nat, S := fun i => ⟨[(1, .int .i64 x), (2, .ptr 2 []), (7, .int .i64 ((i : Int) - 1))], [(2, .cell 24 bufSh (encB b))]⟩, μ := fun i => i, ok := fun i => i ≤ b.entries.length ∧ lookN b x b.entries.length = lookN b x i }
  | false => none
noncomputable def g16 (b : Buf) (x : Int) : Prop := fnVc (vx 37 (inv16 b x)) Try.f16 [vB b, .int .i64 x] (.tup [.int .i64 (lookupB b x).1, .int .i64 (lookupB b x).2.1, .bool (lookupB b x).2.2])
noncomputable def g17 (b : Buf) (x : Int) : Prop := fnVc (vx 37 (inv16 b x)) Try.f17 [vB b, .int .i64 x] (.tup [.int .i64 (lookupB b x).1, .int .i64 (lookupB b x).2.1, .bool (lookupB b x).2.2])
def inv18 (b : Buf) (v : List Int) (k : Nat) : Option Inv := match Nat.beq k 6 with
  | true => some { ι := Nat, S := fun i => ⟨[(1, rowI v), (2, .ptr 2 []), (6, .own 14 v.length), (19, rowE b.entries), (20, .int .i64 b.entries.length), (21, .int .i64 i)], [(2, .cell 24 bufSh (encB b)), (14, .row 3 .leaf v.length fun j => .int .i64 ((drainN b v i).getD j 0))]⟩, μ := fun i => b.entries.length - i, ok := fun i => i ≤ b.entries.length ∧ ∀ j, j < i → (b.entries.getD j default).var < v.length }
  | false => none
noncomputable def g18 (b : Buf) (v : List Int) : Prop := fnVc (vx 38 (inv18 b v)) Try.f18 [vB b, rowI v] (.tup [rowI (drainB b v).1, .int .i64 (drainB b v).2])
def inv19 (b : Buf) (v : List Int) (k : Nat) : Option Inv := match Nat.beq k 4 with
  | true => some { ι := Nat, S := fun i => ⟨[(1, rowI v), (2, .ptr 2 []), (6, .int .i64 i)], [(2, .cell 24 bufSh (encB b))]⟩, μ := fun i => b.entries.length - i, ok := fun i => i ≤ b.entries.length ∧ ∀ j, j < i → (b.entries.getD j default).var < v.length }
  | false => match Nat.beq k 11 with
    | true => some { ι := Nat, S := fun i => ⟨[(2, .ptr 2 []), (7, .own 30 v.length), (8, .int .i64 i)], [(2, .cell 24 bufSh (encB b)), (30, .row 3 .leaf v.length fun j => .int .i64 ((drainN b v i).getD j 0))]⟩, μ := fun i => b.entries.length - i, ok := fun i => i ≤ b.entries.length }
    | false => none
noncomputable def g19 (b : Buf) (v : List Int) : Prop := fnVc (vx 53 (inv19 b v)) Try.f19 [vB b, rowI v] (.tup [rowI (drainB b v).1, .int .i64 (drainB b v).2])
def inv20 (a b : List Int) (k : Nat) : Option Inv := match Nat.beq k 4 with
  | true => some { ι := Nat, S := fun i => ⟨[(0, rowI a), (1, rowI b), (5, .int .i64 i)], []⟩, μ := fun i => a.length - i, ok := fun i => i ≤ a.length ∧ ∀ j, j < i → a.getD j 0 = b.getD j 0 }
  | false => none
noncomputable def g20 (a b : List Int) : Prop := fnVc (vx 26 (inv20 a b)) Try.f20 [rowI a, rowI b] (.bool (a == b))
noncomputable def g8 : Prop := fnVc (vx 102 fun _ => none) Try.f8 [] (.bool true)
end Go.Proofs.S24
