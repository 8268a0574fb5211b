/- The arithmetic on 32 bits. -/
import Derived.Test.YthdecejldbbiaaaDoorDec
namespace Go.Proofs.Dec
open Go Go.AV
/-- The value of 32 bits. -/
def wr (n : Int) : Int := (n + 2147483648) % 4294967296 - 2147483648
def tru (b : Bool) : Int := bif b then 1 else 0
def low (n : Int) : Nat := (n % 4294967296).toNat
def bop (g : Nat → Nat → Nat) (x y : Int) : Int := wr (g (low x) (low y) : Nat)

def app (f a b : Int) : Int × Int :=
  if f = 1 then (wr (wr a + wr b), 0)
  else if f = 2 then (wr (wr a - wr b), 0)
  else if f = 3 then (wr (wr a * wr b), 0)
  else if f = 4 then (bop (· &&& ·) a b, 0)
  else if f = 5 then (bop (· ||| ·) a b, 0)
  else if f = 6 then (bop (· ^^^ ·) a b, 0)
  else if f = 7 then (tru (wr a == wr b), 0)
  else if f = 8 then (tru (wr a != wr b), 0)
  else if f = 9 then (tru (decide (wr a < wr b)), 0)
  else if f = 10 then (tru (decide (wr a ≤ wr b)), 0)
  else (0, 8)

theorem wrap32 (n : Int) : IntKind.wrap IntKind.i32 (IntKind.wrap IntKind.u32 n) = wr n := by
  simp only [IntKind.wrap, IntKind.signed, IntKind.bits, wr]
  simp
  split <;> omega
theorem wr_rng (n : Int) : -2147483648 ≤ wr n ∧ wr n ≤ 2147483647 := by unfold wr; omega
theorem low_lt (n : Int) : low n < 4294967296 := by unfold low; omega
theorem low_wr (n : Int) : low (wr n) = low n := by unfold low wr; omega
theorem wr64 (n : Int) : wr (IntKind.wrap .i64 n) = wr n := by
  simp only [IntKind.wrap, IntKind.signed, IntKind.bits, wr]
  simp
  split <;> omega
theorem wr_mod (n : Nat) : wr (n : Int) = wr ((n % 2 ^ 32 : Nat) : Int) := by unfold wr; omega
theorem low_bv (a : Int) : (BitVec.ofInt 64 (wr a)).toNat % 2 ^ 32 = low a := by
  rw [BitVec.toNat_ofInt]
  unfold low wr
  omega
theorem bits_and (a b : Int) : wr (bits .and .i64 (wr a) (wr b)) = bop (· &&& ·) a b := by
  show wr (IntKind.wrap .i64 ((BitVec.ofInt 64 (wr a) &&& BitVec.ofInt 64 (wr b)).toNat : Int)) = _
  rw [wr64, wr_mod, BitVec.toNat_and, Nat.and_mod_two_pow, low_bv, low_bv]
  rfl
theorem bits_or (a b : Int) : wr (bits .or .i64 (wr a) (wr b)) = bop (· ||| ·) a b := by
  show wr (IntKind.wrap .i64 ((BitVec.ofInt 64 (wr a) ||| BitVec.ofInt 64 (wr b)).toNat : Int)) = _
  rw [wr64, wr_mod, BitVec.toNat_or, Nat.or_mod_two_pow, low_bv, low_bv]
  rfl
theorem bits_xor (a b : Int) : wr (bits .xor .i64 (wr a) (wr b)) = bop (· ^^^ ·) a b := by
  show wr (IntKind.wrap .i64 ((BitVec.ofInt 64 (wr a) ^^^ BitVec.ofInt 64 (wr b)).toNat : Int)) = _
  rw [wr64, wr_mod, BitVec.toNat_xor, Nat.xor_mod_two_pow, low_bv, low_bv]
  rfl
theorem mul_rng {x y : Int} (hx : -2147483648 ≤ x ∧ x ≤ 2147483647) (hy : -2147483648 ≤ y ∧ y ≤ 2147483647) : -9223372036854775808 ≤ x * y ∧ x * y ≤ 9223372036854775807 := by
  have h1 : (x * y).natAbs ≤ 2147483648 * 2147483648 := by
    rw [Int.natAbs_mul]
    exact Nat.mul_le_mul (by omega) (by omega)
  omega
end Go.Proofs.Dec
