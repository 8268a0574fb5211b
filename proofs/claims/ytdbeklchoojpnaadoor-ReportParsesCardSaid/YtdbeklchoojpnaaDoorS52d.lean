/- Layer 1: decimal texts of numbers. -/
import Derived.Test.YtdbeklchoojpnaaDoorP52b
namespace Go.Proofs.S52
open Go Go.AV Go.Proofs.Dec

def repSh : Shape := .agg [.leaf, .leaf, .leaf, .leaf, .leaf]
def cexSh : Shape := .agg [.leaf, .leaf]
def parSh : Shape := .agg [.leaf, .leaf]
def rdrSh : Shape := .agg [.leaf, .leaf, fltSh]
/-- The k lowest decimal digits of m. -/
def decN (m : Nat) : Nat → List UInt8
  | 0 => []
  | k + 1 => decN (m / 10) k ++ [UInt8.ofNat (48 + m % 10)]
/-- How many digits m has. -/
def ndF : Nat → Nat → Nat
  | 0, _ => 1
  | k + 1, m => if m < 10 then 1 else ndF k (m / 10) + 1
def nd (m : Nat) : Nat := ndF 20 m
def dec (m : Nat) : List UInt8 := decN m (nd m)
def fmt (n : Int) : List UInt8 := if n < 0 then 45 :: dec n.natAbs else dec n.natAbs

def spF : FuncId → List AV → Option AV
  | 40, [.int _ n] => some (.str (dec n.toNat))
  | 25, [.int _ n] | 27, [.int _ n] => some (.str (fmt n))
  | f, l => sp f l
def TTd : List (Nat × TyE) := [
  (3, ⟨.leaf, .int .i64 0, 8, .int .i64, false⟩),
  (4, ⟨.leaf, .bool false, 1, .bool, false⟩),
  (5, ⟨.leaf, .int .u8 0, 1, .int .u8, false⟩),
  (9, ⟨.leaf, .str [], 16, .string, false⟩),
  (22, ⟨.leaf, .nils, 24, .slice 49, false⟩),
  (24, ⟨repSh, .agg [.int .i64 0, .int .i64 0, .int .i64 0, .int .i64 0, .nils], 56, .struct [3, 3, 3, 3, 22], false⟩),
  (27, ⟨.leaf, .int .i64 0, 8, .int .i64, false⟩),
  (31, ⟨fltSh, .agg [.int .i64 0, .int .i64 0], 16, .struct [27, 3], true⟩),
  (36, ⟨.leaf, .nils, 24, .slice 3, false⟩),
  (42, ⟨.leaf, .nils, 24, .slice 68, false⟩),
  (47, ⟨.leaf, .int .i64 0, 8, .int .i64, false⟩),
  (49, ⟨cexSh, .agg [.int .i64 0, .nils], 32, .struct [47, 36], false⟩),
  (55, ⟨parSh, .agg [.nils, .int .i64 0], 32, .struct [42, 3], false⟩),
  (60, ⟨rdrSh, .agg [.nils, .int .i64 0, .agg [.int .i64 0, .int .i64 0]], 48, .struct [42, 3, 31], false⟩),
  (61, ⟨.leaf, .nils, 24, .slice 9, false⟩),
  (66, ⟨.leaf, .int .i64 0, 8, .int .i64, false⟩),
  (68, ⟨tokSh, .agg [.int .i64 0, .str [], .int .i64 0, .int .i64 0], 40, .struct [66, 9, 3, 3], true⟩),
  (72, ⟨.leaf, .int .u64 0, 8, .int .u64, false⟩),
  (84, ⟨.leaf, .nils, 24, .slice 5, false⟩),
  (93, ⟨.arr 20 .leaf, .arr 20 (fun _ => .int .u8 0), 20, .arr 20 5, false⟩)]
noncomputable def cfgD (n : Nat) : Cfg := { P := Tryd.prog, T := TTd, G := [], wraps := false, ntmps := n }
theorem cfgD_ok (n : Nat) : TysOK (cfgD n) := tys_ok (by kernel_rfl)
noncomputable def vf (n : Nat) (inv : Nat → Option Inv) : VCtx := { C := cfgD n, CC := Known Tryd.prog [], orc := fun _ _ => spF, inv := inv }
def bufAt (m i : Nat) (j : Nat) : Int := if 20 ≤ i + j ∧ j < 20 then ((48 + m / 10 ^ (19 - j) % 10 : Nat) : Int) else 0
def invD (m : Nat) (k : Nat) : Option Inv := match Nat.beq k 4 with
  | true => some { ι := Nat, S := fun i => ⟨[(0, .int .u64 ((m / 10 ^ i : Nat) : Int)), (3, .ptr 3 []), (4, .int .i64 (20 - (i : Int))), (5, .int .i64 i)], [(3, .cell 93 (.arr 20 .leaf) (.arr 20 fun j => .int .u8 (bufAt m i j)))]⟩, μ := fun i => 20 - i, ok := fun i => i < 20 ∧ (i = 0 ∨ 10 ^ i ≤ m) }
  | false => none
noncomputable def gD (m : Nat) : Prop := fnVc (vf 23 (invD m)) Tryd.f40 [.int .u64 m] (.str (dec m))
noncomputable def gF (n : Int) : Prop := fnVc (vf 15 fun _ => none) Tryd.f25 [.int .i64 n] (.str (fmt n))
/-- What is left of n behind its i lowest digits. -/
def td (n : Int) (i : Nat) : Int := if n < 0 then 0 - ((n.natAbs / 10 ^ i : Nat) : Int) else ((n.natAbs / 10 ^ i : Nat) : Int)
def invFr (n : Int) (k : Nat) : Option Inv := match Nat.beq k 5 with
  | true => some { ι := Nat, S := fun i => ⟨[(0, .int .i64 n), (3, .str (decN n.natAbs i)), (4, .int .i64 (td n i))], []⟩, μ := fun i => 20 - i, ok := fun i => i < 20 ∧ (i = 0 ∨ 10 ^ (i - 1) ≤ n.natAbs) }
  | false => none
noncomputable def gFr (n : Int) : Prop := fnVc (vf 30 (invFr n)) Tryd.f27 [.int .i64 n] (.str (fmt n))
end Go.Proofs.S52
