import Derived.Test.YthdecejldbbiaaaS01a
namespace Go.Proofs.S01
open Go Go.AV
noncomputable def g10 (n : Int) : Prop := fnVc (vx 7 fun _ => none) Try.f10 [.int .i64 n] (.int .i64 (wr n))
noncomputable def g11 (n : Int) : Prop := fnVc (vx 15 fun _ => none) Try.f11 [.int .i64 n] (.int .i64 (wr n))
noncomputable def g18 (b : Bool) : Prop := fnVc (vx 4 fun _ => none) Try.f18 [.bool b] (.int .i64 (tru b))
noncomputable def g20 (b : Bool) : Prop := fnVc (vx 4 fun _ => none) Try.f20 [.bool b] (.int .i64 (tru b))
def inv19 (x y : Int) (r : Nat → Int) (k : Nat) : Option Inv := match Nat.beq k 8 with
  | true => some { ι := Nat, S := fun i => ⟨[(0, .int .i64 ((low x / 2 ^ i : Nat) : Int)), (1, .int .i64 ((low y / 2 ^ i : Nat) : Int)), (5, .ptr 5 []), (7, .int .i64 (bitsR r (low x) (low y) i)), (8, .int .i64 (2 ^ i)), (9, .int .i64 i)], [(5, .cell (.arr 4 .leaf) (.arr 4 fun i => .int .i64 (r i)))]⟩, μ := fun i => 32 - i, ok := fun i => i ≤ 32 }
  | false => none
noncomputable def g19 (x y : Int) (r : Nat → Int) : Prop := fnVc (vx 42 (inv19 x y r)) Try.f19 [.int .i64 x, .int .i64 y, .mc (.arr 4 .leaf) (.arr 4 fun i => .int .i64 (r i))] (.int .i64 (wr (bitsR r (low x) (low y) 32)))
noncomputable def g8 (f a b : Int) : Prop := fnVc (vx 75 fun _ => none) Try.f8 [.int .i64 f, .int .i64 a, .int .i64 b] (.tup [.int .i64 (app f a b).1, .int .i64 (app f a b).2])
noncomputable def g9 (f a b : Int) : Prop := fnVc (vx 75 fun _ => none) Try.f9 [.int .i64 f, .int .i64 a, .int .i64 b] (.tup [.int .i64 (app f a b).1, .int .i64 (app f a b).2])
noncomputable def g13 (f a b : Int) : Prop := fnVc (vx 17 fun _ => none) Try.f13 [.int .i64 f, .int .i64 a, .int .i64 b] (.int .i64 (app f a b).1)
def inv21 (l : List UInt8) (k : Nat) : Option Inv := match Nat.beq k 8 with
  | true => some { ι := Nat, S := fun i => ⟨[(0, .str (strip l)), (28, .int .i64 (strip l).length), (29, .int .i64 i)], []⟩, μ := fun i => (strip l).length - i, ok := fun i => i ≤ (strip l).length ∧ ∀ j, j < i → isDig ((strip l).getD j 0) = true }
  | false => none
noncomputable def g21 (l : List UInt8) : Prop := fnVc (vx 43 (inv21 l)) Try.f21 [.str l] (.bool (notat l))
def inv22 (l : List UInt8) (k : Nat) : Option Inv := match Nat.beq k 8 with
  | true => some { ι := Nat, S := fun i => ⟨[(0, .str (strip l)), (3, .int .i64 i)], []⟩, μ := fun i => (strip l).length - i, ok := fun i => i ≤ (strip l).length ∧ ∀ j, j < i → isDig ((strip l).getD j 0) = true }
  | false => none
noncomputable def g22 (l : List UInt8) : Prop := fnVc (vx 39 (inv22 l)) Try.f22 [.str l] (.bool (notat l))
def inv14 (l : List UInt8) (k : Nat) : Option Inv := match Nat.beq k 10 with
  | true => some { ι := Nat, S := fun i => ⟨[(0, .str (strip l)), (4, .bool (decide ((l.getD 0 0).toNat = 45))), (5, .int .i64 (numN (strip l) i)), (20, .int .i64 (strip l).length), (21, .int .i64 i)], []⟩, μ := fun i => (strip l).length - i, ok := fun i => i ≤ (strip l).length }
  | false => none
noncomputable def g14 (l : List UInt8) : Prop := fnVc (vx 43 (inv14 l)) Try.f14 [.str l] (.tup [.int .i64 (parse l).1, .int .i64 (parse l).2])
def inv15 (l : List UInt8) (k : Nat) : Option Inv := match Nat.beq k 7 with
  | true => some { ι := Nat, S := fun i => ⟨[(0, .str l), (4, .int .i64 (numR l i)), (5, .int .i64 i)], []⟩, μ := fun i => l.length - i, ok := fun i => i ≤ l.length }
  | false => none
noncomputable def g15 (l : List UInt8) : Prop := fnVc (vx 42 (inv15 l)) Try.f15 [.str l] (.tup [.int .i64 (parse l).1, .int .i64 (parse l).2])
noncomputable def g12 : Prop := fnVc (vx 57 fun _ => none) Try.f12 [] (.bool true)
noncomputable def g3 (f a b : Int) : Prop := fnVc (vx 43 fun _ => none) Try.f3 [.int .i64 f, .int .i64 a, .int .i64 b] (.bool true)
noncomputable def g4 (a b c : Int) : Prop := fnVc (vx 107 fun _ => none) Try.f4 [.int .i64 a, .int .i64 b, .int .i64 c] (.bool true)
noncomputable def g5 (a b : Int) : Prop := fnVc (vx 72 fun _ => none) Try.f5 [.int .i64 a, .int .i64 b] (.bool true)
end Go.Proofs.S01
