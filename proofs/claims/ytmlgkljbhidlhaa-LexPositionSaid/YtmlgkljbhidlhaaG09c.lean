import Derived.Test.YtmlgkljbhidlhaaG09
import Derived.Test.YtmlgkljbhidlhaaAvExt2
namespace Go.Proofs.S09
open Go Go.AV Go.Proofs.Dec
/-- The place of the last byte c, or -1. -/
def lastN (l : List UInt8) (c : Int) : Nat → Int
  | 0 => -1
  | k + 1 => if ch l k = c then (k : Int) else lastN l c k
def pos (l : List UInt8) (a : Int) : Int × Int × Bool :=
  if a < 0 ∨ (l.length : Int) < a then (0, 0, false) else (1 + cntI (l.take a.toNat) 10, a - lastN l 10 a.toNat, true)
def spP : FuncId → List AV → Option AV
  | 41, [.str l, .int _ n] => some (.int .i64 (cntI l n.toNat.toUInt8))
  | 27, [.str l, .str c] => some (.int .i64 (cntI l (c.getD 0 0)))
  | 43, [.str l, .int _ n] | 28, [.str l, .int _ n] => some (.int .i64 (lastN l n l.length))
  | 15, [.str l, .int _ a] | 16, [.str l, .int _ a] => some (.tup [.int .i64 (pos l a).1, .int .i64 (pos l a).2.1, .bool (pos l a).2.2])
  | 40, _ | 42, _ => some (.int .i64 (-1))
  | 9, [] => some (.bool true)
  | _, _ => none
noncomputable def vp (n : Nat) (inv : Nat → Option Inv) : VCtx := { C := cfg n, CC := Known Try.prog [], orc := fun _ _ => spP, inv := inv }
def inv27 (l : List UInt8) (k : Nat) : Option Inv := match Nat.beq k 6 with
  | true => some { ι := Unit, S := fun _ => ⟨[(0, .str l), (1, .str [10]), (5, .int .i64 0)], []⟩, μ := fun _ => 0, ok := fun _ => False }
  | false => none
noncomputable def g27 (l : List UInt8) : Prop := fnVc (vp 34 (inv27 l)) Try.f27 [.str l, .str [10]] (.int .i64 (cntI l 10))
def inv43 (l : List UInt8) (c : Int) (k : Nat) : Option Inv := match Nat.beq k 2 with
  | true => some { ι := Nat, S := fun i => ⟨[(0, .str l), (1, .int .u8 c), (5, .int .i64 ((i : Int) - 1))], []⟩, μ := fun i => i, ok := fun i => i ≤ l.length ∧ lastN l c l.length = lastN l c i }
  | false => none
noncomputable def g43 (l : List UInt8) (c : Int) : Prop := fnVc (vp 19 (inv43 l c)) Try.f43 [.str l, .int .u8 c] (.int .i64 (lastN l c l.length))
noncomputable def g28 (l : List UInt8) (c : Int) : Prop := fnVc (vp 8 fun _ => none) Try.f28 [.str l, .int .u8 c] (.int .i64 (lastN l c l.length))
noncomputable def g15 (l : List UInt8) (a : Int) : Prop := fnVc (vp 26 fun _ => none) Try.f15 [.str l, .int .i64 a] (.tup [.int .i64 (pos l a).1, .int .i64 (pos l a).2.1, .bool (pos l a).2.2])
def inv16 (l : List UInt8) (a : Int) (k : Nat) : Option Inv := match Nat.beq k 6 with
  | true => some { ι := Nat, S := fun i => ⟨[(0, .str l), (1, .int .i64 a), (7, .int .i64 (1 + cntI (l.take i) 10)), (8, .int .i64 ((i : Int) - lastN l 10 i)), (9, .int .i64 i)], []⟩, μ := fun i => l.length - i, ok := fun i => (i : Int) ≤ a }
  | false => none
noncomputable def g16 (l : List UInt8) (a : Int) : Prop := fnVc (vp 33 (inv16 l a)) Try.f16 [.str l, .int .i64 a] (.tup [.int .i64 (pos l a).1, .int .i64 (pos l a).2.1, .bool (pos l a).2.2])
noncomputable def g7 (l : List UInt8) (a : Int) : Prop := fnVc (vp 45 fun _ => none) Try.f7 [.str l, .int .i64 a] (.bool true)
end Go.Proofs.S09
