/- Layer 1: its data, what its functions answer, the types. -/
import Derived.Test.YthdecejldbbiaaaAvK
import Derived.Test.YthdecejldbbiaaaProg
import Derived.KernelRfl
namespace Go.Proofs.S01
open Go Go.AV

/-- The value of 32 bits. -/
def wr (n : Int) : Int := (n + 2147483648) % 4294967296 - 2147483648
def tru (b : Bool) : Int := bif b then 1 else 0
def low (n : Int) : Nat := (n % 4294967296).toNat
def bop (g : Nat → Nat → Nat) (x y : Int) : Int := wr (g (low x) (low y) : Nat)

def app (f a b : Int) : Int × Int :=
  if f = 1 then (wr (wr a + wr b), 0)
  else if f = 2 then (wr (wr a - wr b), 0)
  else if f = 3 then (wr (wr a * wr b), 0)
  else if f = 4 then (bop (· &&& ·) a b, 0)
  else if f = 5 then (bop (· ||| ·) a b, 0)
  else if f = 6 then (bop (· ^^^ ·) a b, 0)
  else if f = 7 then (tru (wr a == wr b), 0)
  else if f = 8 then (tru (wr a != wr b), 0)
  else if f = 9 then (tru (decide (wr a < wr b)), 0)
  else if f = 10 then (tru (decide (wr a ≤ wr b)), 0)
  else (0, 8)

def bitsR (r : Nat → Int) (X Y : Nat) : Nat → Int
  | 0 => 0
  | n + 1 => bitsR r X Y n + 2 ^ n * r (2 * (X / 2 ^ n % 2) + Y / 2 ^ n % 2)

def strip (l : List UInt8) : List UInt8 := if (l.getD 0 0).toNat = 45 then l.drop 1 else l
def isDig (c : UInt8) : Bool := decide (48 ≤ c.toNat) && decide (c.toNat ≤ 57)
def notat (l : List UInt8) : Bool := l == [48] || ((strip l).all isDig && !(strip l == []) && !(((strip l).getD 0 0).toNat == 48))
def numN (l : List UInt8) : Nat → Int
  | 0 => 0
  | k + 1 => numN l k * 10 + (((l.getD k 0).toNat : Int) - 48)
def numR (l : List UInt8) : Nat → Int
  | 0 => 0
  | k + 1 => if (l.getD k 0).toNat = 45 then numR l k else 10 * numR l k + (((l.getD k 0).toNat : Int) - 48)
def signed (l : List UInt8) : Int := if (l.getD 0 0).toNat = 45 then 0 - numN (strip l) (strip l).length else numN (strip l) (strip l).length
def parse (l : List UInt8) : Int × Int :=
  if notat l = false then (0, 16)
  else if 10 < (strip l).length then (0, 2)
  else if signed l < -2147483648 ∨ 2147483647 < signed l then (0, 2)
  else (signed l, 0)

def decI : AV → Int
  | .int _ a => a
  | _ => 0

def sp : FuncId → List AV → Option AV
  | 10, [.int _ n] | 11, [.int _ n] => some (.int .i64 (wr n))
  | 18, [.bool b] | 20, [.bool b] => some (.int .i64 (tru b))
  | 8, [.int _ f, .int _ a, .int _ b] | 9, [.int _ f, .int _ a, .int _ b] => some (.tup [.int .i64 (app f a b).1, .int .i64 (app f a b).2])
  | 13, [.int _ f, .int _ a, .int _ b] => some (.int .i64 (app f a b).1)
  | 19, [.int _ x, .int _ y, .mc _ (.arr _ r)] => some (.int .i64 (wr (bitsR (fun i => decI (r i)) (low x) (low y) 32)))
  | 14, [.str l] | 15, [.str l] => some (.tup [.int .i64 (parse l).1, .int .i64 (parse l).2])
  | 21, [.str l] | 22, [.str l] => some (.bool (notat l))
  | 12, [] => some (.bool true)
  | _, _ => none

def TT : List (Nat × TyE) := [
  (3, ⟨.leaf, .int .i64 0, 8, .int .i64, false⟩),
  (4, ⟨.leaf, .bool false, 1, .bool, false⟩),
  (5, ⟨.leaf, .int .u8 0, 1, .int .u8, false⟩),
  (9, ⟨.leaf, .str [], 16, .string, false⟩),
  (21, ⟨.leaf, .int .i32 0, 4, .int .i32, false⟩),
  (22, ⟨.leaf, .int .i64 0, 8, .int .i64, false⟩),
  (23, ⟨.leaf, .int .i64 0, 8, .int .i64, false⟩),
  (37, ⟨.arr 4 .leaf, .arr 4 (fun _ => .int .i64 0), 32, .arr 4 3, false⟩),
  (38, ⟨.leaf, .int .u32 0, 4, .int .u32, false⟩),
  (41, ⟨.leaf, .int .u64 0, 8, .int .u64, false⟩),
  (42, ⟨.arr 20 .leaf, .arr 20 (fun _ => .int .u8 0), 20, .arr 20 5, false⟩),
  (43, ⟨.leaf, .nils, 24, .slice 5, false⟩)]

noncomputable def cfg (n : Nat) : Cfg := { P := Try.prog, T := TT, G := [], wraps := false, ntmps := n }
theorem cfg_ok (n : Nat) : TysOK (cfg n) := tys_ok (by kernel_rfl)
noncomputable def vx (n : Nat) (inv : Nat → Option Inv) : VCtx := { C := cfg n, CC := Known Try.prog [], orc := fun _ _ => sp, inv := inv }

theorem inR64 {n : Int} (h1 : -9223372036854775808 ≤ n) (h2 : n ≤ 9223372036854775807) : InR .i64 n := by
  show (if (true && decide (n % 18446744073709551616 ≥ 9223372036854775808)) = true then n % 18446744073709551616 - 18446744073709551616 else n % 18446744073709551616) = n
  rw [Bool.true_and]
  by_cases h : n % 18446744073709551616 ≥ 9223372036854775808
  · rw [decide_eq_true h, if_pos rfl]; omega
  · rw [decide_eq_false h, if_neg (by simp)]; omega
theorem f_eq {p : Bool} (h : p = true → False) : false = p := by cases p; rfl; exact (h rfl).elim
end Go.Proofs.S01
