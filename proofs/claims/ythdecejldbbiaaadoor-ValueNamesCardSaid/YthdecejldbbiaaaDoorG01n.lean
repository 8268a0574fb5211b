import Derived.Test.YthdecejldbbiaaaDoorS01n
namespace Go.Proofs.S01N
open Go Go.AV Go.Proofs.Dec
noncomputable def g11 (n : Int) : Prop := fnVc (vx 7 fun _ => none) Tryd.f11 [.int .i64 n] (.int .i64 (wr n))
noncomputable def g12 (b : Bool) : Prop := fnVc (vx 4 fun _ => none) Tryd.f12 [.bool b] (.int .i64 (tru b))
noncomputable def g9 (f a b : Int) : Prop := fnVc (vx 75 fun _ => none) Tryd.f9 [.int .i64 f, .int .i64 a, .int .i64 b] (.tup [.int .i64 (app f a b).1, .int .i64 (app f a b).2])
noncomputable def g4 : Prop := fnVc (vx 57 fun _ => none) Tryd.f4 [] (.bool true)
def inv13 (l : List UInt8) (k : Nat) : Option Inv := match Nat.beq k 8 with
  | true => some { ι := Nat, S := fun i => ⟨[(0, .str (strip l)), (28, .int .i64 (strip l).length), (29, .int .i64 i)], []⟩, μ := fun i => (strip l).length - i, ok := fun i => i ≤ (strip l).length ∧ ∀ j, j < i → isDig ((strip l).getD j 0) = true }
  | false => none
noncomputable def g13 (l : List UInt8) : Prop := fnVc (vx 43 (inv13 l)) Tryd.f13 [.str l] (.bool (notat l))
def inv10 (l : List UInt8) (k : Nat) : Option Inv := match Nat.beq k 10 with
  | true => some { ι := Nat, S := fun i => ⟨[(0, .str (strip l)), (4, .bool (decide ((l.getD 0 0).toNat = 45))), (5, .int .i64 (numN (strip l) i)), (20, .int .i64 (strip l).length), (21, .int .i64 i)], []⟩, μ := fun i => (strip l).length - i, ok := fun i => i ≤ (strip l).length }
  | false => none
noncomputable def g10 (l : List UInt8) : Prop := fnVc (vx 43 (inv10 l)) Tryd.f10 [.str l] (.tup [.int .i64 (parse l).1, .int .i64 (parse l).2])
def inv5 (l : List UInt8) (k : Nat) : Option Inv := match Nat.beq k 2 with
  | true => some { ι := Nat, S := fun i => ⟨[(0, .str l), (5, .int .i64 i)], []⟩, μ := fun i => 10 - i, ok := fun i => i ≤ 10 ∧ ∀ j, j < i → ¬ nameL.getD j [] = l }
  | false => none
noncomputable def g5 (l : List UInt8) : Prop := fnVc (vx 16 (inv5 l)) Tryd.f5 [.str l] (.tup [.int .i64 (byName l).1, .bool (byName l).2])
def inv6 (l : List UInt8) (k : Nat) : Option Inv := match Nat.beq k 2 with
  | true => some { ι := Nat, S := fun i => ⟨[(0, .str l), (4, .int .i64 ((i : Int) + 1))], []⟩, μ := fun i => 10 - i, ok := fun i => i ≤ 10 ∧ ∀ j, j < i → ¬ nameL.getD j [] = l }
  | false => none
noncomputable def g6 (l : List UInt8) : Prop := fnVc (vx 14 (inv6 l)) Tryd.f6 [.str l] (.tup [.int .i64 (byName l).1, .bool (byName l).2])
noncomputable def g7 (f : Int) : Prop := fnVc (vx 13 fun _ => none) Tryd.f7 [.int .i64 f] (.str (nameF f))
noncomputable def g8 (f : Int) : Prop := fnVc (vx 24 fun _ => none) Tryd.f8 [.int .i64 f] (.str (nameF f))
noncomputable def g3 (l : List UInt8) (f : Int) : Prop := fnVc (vx 61 fun _ => none) Tryd.f3 [.str l, .int .i64 f] (.bool true)
end Go.Proofs.S01N
