/- Layer 1: decimal texts of numbers. -/
import Derived.Test.YthdecejldbbiaaaP01b
namespace Go.Proofs.S01
open Go Go.AV

/-- The k lowest decimal digits of m. -/
def decN (m : Nat) : Nat → List UInt8
  | 0 => []
  | k + 1 => decN (m / 10) k ++ [UInt8.ofNat (48 + m % 10)]
/-- How many digits m has. -/
def ndF : Nat → Nat → Nat
  | 0, _ => 1
  | k + 1, m => if m < 10 then 1 else ndF k (m / 10) + 1
def nd (m : Nat) : Nat := ndF 20 m
def dec (m : Nat) : List UInt8 := decN m (nd m)
def fmt (n : Int) : List UInt8 := if n < 0 then 45 :: dec n.natAbs else dec n.natAbs

def spF : FuncId → List AV → Option AV
  | 23, [.int _ n] => some (.str (dec n.toNat))
  | 16, [.int _ n] | 17, [.int _ n] => some (.str (fmt n))
  | f, l => sp f l
noncomputable def vf (n : Nat) (inv : Nat → Option Inv) : VCtx := { C := cfg n, CC := Known Try.prog [], orc := fun _ _ => spF, inv := inv }
def bufAt (m i : Nat) (j : Nat) : Int := if 20 ≤ i + j ∧ j < 20 then ((48 + m / 10 ^ (19 - j) % 10 : Nat) : Int) else 0
def inv23 (m : Nat) (k : Nat) : Option Inv := match Nat.beq k 4 with
  | true => some { ι := Nat, S := fun i => ⟨[(0, .int .u64 ((m / 10 ^ i : Nat) : Int)), (3, .ptr 3 []), (4, .int .i64 (20 - (i : Int))), (5, .int .i64 i)], [(3, .cell (.arr 20 .leaf) (.arr 20 fun j => .int .u8 (bufAt m i j)))]⟩, μ := fun i => 20 - i, ok := fun i => i < 20 ∧ (i = 0 ∨ 10 ^ i ≤ m) }
  | false => none
noncomputable def g23 (m : Nat) : Prop := fnVc (vf 23 (inv23 m)) Try.f23 [.int .u64 m] (.str (dec m))
noncomputable def g16 (n : Int) : Prop := fnVc (vf 15 fun _ => none) Try.f16 [.int .i64 n] (.str (fmt n))
/-- What is left of n behind its i lowest digits. -/
def td (n : Int) (i : Nat) : Int := if n < 0 then 0 - ((n.natAbs / 10 ^ i : Nat) : Int) else ((n.natAbs / 10 ^ i : Nat) : Int)
def inv17 (n : Int) (k : Nat) : Option Inv := match Nat.beq k 5 with
  | true => some { ι := Nat, S := fun i => ⟨[(0, .int .i64 n), (3, .str (decN n.natAbs i)), (4, .int .i64 (td n i))], []⟩, μ := fun i => 20 - i, ok := fun i => i < 20 ∧ (i = 0 ∨ 10 ^ (i - 1) ≤ n.natAbs) }
  | false => none
noncomputable def g17 (n : Int) : Prop := fnVc (vf 30 (inv17 n)) Try.f17 [.int .i64 n] (.str (fmt n))
noncomputable def g6 (l : List UInt8) (n : Int) : Prop := fnVc (vf 41 fun _ => none) Try.f6 [.str l, .int .i64 n] (.bool true)
noncomputable def g7 (l : List UInt8) (n : Int) : Prop := fnVc (vf 48 fun _ => none) Try.f7 [.str l, .int .i64 n] (.bool true)
end Go.Proofs.S01
