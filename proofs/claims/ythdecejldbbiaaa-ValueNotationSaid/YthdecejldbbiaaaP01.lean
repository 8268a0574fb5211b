import Derived.Test.YthdecejldbbiaaaG01
namespace Go.Proofs.S01
open Go Go.AV
theorem wrap32 (n : Int) : IntKind.wrap IntKind.i32 (IntKind.wrap IntKind.u32 n) = wr n := by
  simp only [IntKind.wrap, IntKind.signed, IntKind.bits, wr]
  simp
  split <;> omega
theorem e10 (n : Int) : g10 n = (IntKind.i64 = IntKind.i64 ∧ IntKind.wrap IntKind.i32 (IntKind.wrap IntKind.u32 n) = wr n) := by kernel_rfl
theorem k10 (n : Int) : Known Try.prog [] 10 [.int .i64 n] (.int .i64 (wr n)) := by
  refine Known.of (V := vx 7 fun _ => none) (fn := Try.f10) rfl (by kernel_rfl) (cfg_ok _) rfl ?_
  show g10 n
  rw [e10]
  exact ⟨rfl, wrap32 n⟩
theorem e11 (n : Int) : g11 n = ((4294967296 : Int) ≠ (0 : Int) ∧ InR IntKind.i64 (Int.tmod n (4294967296 : Int)) ∧ (decide (Int.tmod n (4294967296 : Int) < (0 : Int)) = true → InR IntKind.i64 (Int.tmod n (4294967296 : Int) + (4294967296 : Int)) ∧ (decide ((2147483647 : Int) < Int.tmod n (4294967296 : Int) + (4294967296 : Int)) = true → InR IntKind.i64 (Int.tmod n (4294967296 : Int) + (4294967296 : Int) - (4294967296 : Int)) ∧ IntKind.i64 = IntKind.i64 ∧ Int.tmod n (4294967296 : Int) + (4294967296 : Int) - (4294967296 : Int) = wr n) ∧ (decide ((2147483647 : Int) < Int.tmod n (4294967296 : Int) + (4294967296 : Int)) = false → IntKind.i64 = IntKind.i64 ∧ Int.tmod n (4294967296 : Int) + (4294967296 : Int) = wr n)) ∧ (decide (Int.tmod n (4294967296 : Int) < (0 : Int)) = false → (decide ((2147483647 : Int) < Int.tmod n (4294967296 : Int)) = true → InR IntKind.i64 (Int.tmod n (4294967296 : Int) - (4294967296 : Int)) ∧ IntKind.i64 = IntKind.i64 ∧ Int.tmod n (4294967296 : Int) - (4294967296 : Int) = wr n) ∧ (decide ((2147483647 : Int) < Int.tmod n (4294967296 : Int)) = false → IntKind.i64 = IntKind.i64 ∧ Int.tmod n (4294967296 : Int) = wr n))) := by kernel_rfl
theorem k11 (n : Int) : Known Try.prog [] 11 [.int .i64 n] (.int .i64 (wr n)) := by
  refine Known.of (V := vx 15 fun _ => none) (fn := Try.f11) rfl (by kernel_rfl) (cfg_ok _) rfl ?_
  show g11 n
  rw [e11]
  simp only [and_true, true_and, implies_true, Bool.or_eq_true, Bool.and_eq_true, Bool.or_eq_false_iff, Bool.and_eq_false_iff, Bool.not_eq_true', decide_eq_true_eq, decide_eq_false_iff_not, Bool.not_eq_false', imp_self, beq_iff_eq, beq_eq_false_iff_ne, bne_iff_ne, bne_eq_false_iff_eq, ne_eq, Decidable.not_not]
  have ht : 0 ≤ n → n.tmod 4294967296 = n % 4294967296 := fun h => Int.tmod_eq_emod_of_nonneg h
  have ht' : ¬ 0 ≤ n → n.tmod 4294967296 = -((-n) % 4294967296) := fun h => by
    have : (-(-n)).tmod 4294967296 = -((-n).tmod 4294967296) := Int.neg_tmod _ _
    rw [Int.neg_neg] at this
    rw [this, Int.tmod_eq_emod_of_nonneg (by omega)]
  unfold wr
  generalize n.tmod 4294967296 = m at *
  refine ⟨by decide, inR64 (by omega) (by omega), fun h => ⟨inR64 (by omega) (by omega), fun h => ⟨inR64 (by omega) (by omega), by omega⟩, fun h => by omega⟩, fun h => ⟨fun h => ⟨inR64 (by omega) (by omega), by omega⟩, fun h => by omega⟩⟩
theorem e18 (b : Bool) : g18 b = ((b = true → IntKind.i64 = IntKind.i64 ∧ (1 : Int) = tru b) ∧ (b = false → IntKind.i64 = IntKind.i64 ∧ (0 : Int) = tru b)) := by kernel_rfl
theorem k18 (b : Bool) : Known Try.prog [] 18 [.bool b] (.int .i64 (tru b)) := by
  refine Known.of (V := vx 4 fun _ => none) (fn := Try.f18) rfl (by kernel_rfl) (cfg_ok _) rfl ?_
  show g18 b
  rw [e18]
  cases b <;> simp [tru]
theorem e20 (b : Bool) : g20 b = ((b = true → IntKind.i64 = IntKind.i64 ∧ (1 : Int) = tru b) ∧ (b = false → IntKind.i64 = IntKind.i64 ∧ (0 : Int) = tru b)) := by kernel_rfl
theorem k20 (b : Bool) : Known Try.prog [] 20 [.bool b] (.int .i64 (tru b)) := by
  refine Known.of (V := vx 4 fun _ => none) (fn := Try.f20) rfl (by kernel_rfl) (cfg_ok _) rfl ?_
  show g20 b
  rw [e20]
  cases b <;> simp [tru]
theorem wr_rng (n : Int) : -2147483648 ≤ wr n ∧ wr n ≤ 2147483647 := by unfold wr; omega
theorem low_lt (n : Int) : low n < 4294967296 := by unfold low; omega
theorem low_wr (n : Int) : low (wr n) = low n := by unfold low wr; omega
theorem bitsR_bound (r : Nat → Int) (hr : ∀ i, 0 ≤ r i ∧ r i ≤ 1) (X Y : Nat) : ∀ i, 0 ≤ bitsR r X Y i ∧ bitsR r X Y i < 2 ^ i
  | 0 => by simp [bitsR]
  | i + 1 => by
    have ih := bitsR_bound r hr X Y i
    have h := hr (2 * (X / 2 ^ i % 2) + Y / 2 ^ i % 2)
    simp only [bitsR, Int.pow_succ]
    generalize r (2 * (X / 2 ^ i % 2) + Y / 2 ^ i % 2) = z at *
    generalize (2 : Int) ^ i = p at *
    have : z = 0 ∨ z = 1 := by omega
    rcases this with rfl | rfl <;> omega
theorem pow_le (i : Nat) (h : i < 32) : 1 ≤ (2 : Int) ^ i ∧ (2 : Int) ^ i ≤ 2147483648 := by
  have h1 : (2 : Nat) ^ i ≤ 2 ^ 31 := Nat.pow_le_pow_right (by decide) (by omega)
  have h2 : 0 < (2 : Nat) ^ i := Nat.pow_pos (by decide)
  have h3 : ((2 ^ i : Nat) : Int) = (2 : Int) ^ i := by norm_cast
  omega
theorem tmod2 (n : Nat) : (n : Int).tmod 2 = ((n % 2 : Nat) : Int) := rfl
theorem tdiv2 (n : Nat) : (n : Int).tdiv 2 = ((n / 2 : Nat) : Int) := rfl
theorem ix2 (a b : Nat) : (2 * (a : Int) + (b : Int)).toNat = 2 * a + b := by omega
theorem inRn {n : Nat} (h : n ≤ 4294967296) : InR .i64 (n : Int) := inR64 (by omega) (by omega)
theorem half (n i : Nat) : n / 2 ^ i / 2 = n / 2 ^ (i + 1) := by rw [Nat.div_div_eq_div_mul, Nat.pow_succ]
theorem e19 (x y : Int) (r : Nat → Int) : g19 x y r = ((decide (x < (0 : Int)) = true → InR IntKind.i64 (x + (4294967296 : Int)) ∧ (decide (y < (0 : Int)) = true → InR IntKind.i64 (y + (4294967296 : Int)) ∧ (∃ (i : Nat), i ≤ (32 : Nat) ∧ ((IntKind.i64 = IntKind.i64 ∧ x + (4294967296 : Int) = (↑(low x / (2 : Nat) ^ i) : Int)) ∧ (IntKind.i64 = IntKind.i64 ∧ y + (4294967296 : Int) = (↑(low y / (2 : Nat) ^ i) : Int)) ∧ AV.ptr (5 : Nat) [] = AV.ptr (5 : Nat) [] ∧ (IntKind.i64 = IntKind.i64 ∧ (0 : Int) = bitsR r (low x) (low y) i) ∧ (IntKind.i64 = IntKind.i64 ∧ (1 : Int) = (2 : Int) ^ i) ∧ (IntKind.i64 = IntKind.i64 ∧ (0 : Int) = (↑i : Int)) ∧ True) ∧ (Shape.arr (4 : Nat) Shape.leaf = Shape.arr (4 : Nat) Shape.leaf ∧ (4 : Nat) = (4 : Nat) ∧ ∀ (i : Nat), AV.int IntKind.i64 (r i) = AV.int IntKind.i64 (r i)) ∧ True) ∧ ∀ (i : Nat), i ≤ (32 : Nat) → (decide ((↑i : Int) < (32 : Int)) = true → (2 : Int) ≠ (0 : Int) ∧ InR IntKind.i64 (Int.tmod (↑(low x / (2 : Nat) ^ i) : Int) (2 : Int)) ∧ InR IntKind.i64 ((2 : Int) * Int.tmod (↑(low x / (2 : Nat) ^ i) : Int) (2 : Int)) ∧ (2 : Int) ≠ (0 : Int) ∧ InR IntKind.i64 (Int.tmod (↑(low y / (2 : Nat) ^ i) : Int) (2 : Int)) ∧ InR IntKind.i64 ((2 : Int) * Int.tmod (↑(low x / (2 : Nat) ^ i) : Int) (2 : Int) + Int.tmod (↑(low y / (2 : Nat) ^ i) : Int) (2 : Int)) ∧ inIx ((2 : Int) * Int.tmod (↑(low x / (2 : Nat) ^ i) : Int) (2 : Int) + Int.tmod (↑(low y / (2 : Nat) ^ i) : Int) (2 : Int)) (4 : Nat) ∧ InR IntKind.i64 ((2 : Int) ^ i * r (Int.toNat ((2 : Int) * Int.tmod (↑(low x / (2 : Nat) ^ i) : Int) (2 : Int) + Int.tmod (↑(low y / (2 : Nat) ^ i) : Int) (2 : Int)))) ∧ InR IntKind.i64 (bitsR r (low x) (low y) i + (2 : Int) ^ i * r (Int.toNat ((2 : Int) * Int.tmod (↑(low x / (2 : Nat) ^ i) : Int) (2 : Int) + Int.tmod (↑(low y / (2 : Nat) ^ i) : Int) (2 : Int)))) ∧ (2 : Int) ≠ (0 : Int) ∧ InR IntKind.i64 (Int.tdiv (↑(low x / (2 : Nat) ^ i) : Int) (2 : Int)) ∧ (2 : Int) ≠ (0 : Int) ∧ InR IntKind.i64 (Int.tdiv (↑(low y / (2 : Nat) ^ i) : Int) (2 : Int)) ∧ InR IntKind.i64 ((2 : Int) * (2 : Int) ^ i) ∧ InR IntKind.i64 ((↑i : Int) + (1 : Int)) ∧ ∃ (j : Nat), j ≤ (32 : Nat) ∧ (32 : Nat) - j < (32 : Nat) - i ∧ ((IntKind.i64 = IntKind.i64 ∧ Int.tdiv (↑(low x / (2 : Nat) ^ i) : Int) (2 : Int) = (↑(low x / (2 : Nat) ^ j) : Int)) ∧ (IntKind.i64 = IntKind.i64 ∧ Int.tdiv (↑(low y / (2 : Nat) ^ i) : Int) (2 : Int) = (↑(low y / (2 : Nat) ^ j) : Int)) ∧ AV.ptr (5 : Nat) [] = AV.ptr (5 : Nat) [] ∧ (IntKind.i64 = IntKind.i64 ∧ bitsR r (low x) (low y) i + (2 : Int) ^ i * r (Int.toNat ((2 : Int) * Int.tmod (↑(low x / (2 : Nat) ^ i) : Int) (2 : Int) + Int.tmod (↑(low y / (2 : Nat) ^ i) : Int) (2 : Int))) = bitsR r (low x) (low y) j) ∧ (IntKind.i64 = IntKind.i64 ∧ (2 : Int) * (2 : Int) ^ i = (2 : Int) ^ j) ∧ (IntKind.i64 = IntKind.i64 ∧ (↑i : Int) + (1 : Int) = (↑j : Int)) ∧ True) ∧ (Shape.arr (4 : Nat) Shape.leaf = Shape.arr (4 : Nat) Shape.leaf ∧ (4 : Nat) = (4 : Nat) ∧ ∀ (i : Nat), AV.int IntKind.i64 (r i) = AV.int IntKind.i64 (r i)) ∧ True) ∧ (decide ((↑i : Int) < (32 : Int)) = false → Known Try.prog [] (11 : Nat) [AV.int IntKind.i64 (bitsR r (low x) (low y) i)] (AV.int IntKind.i64 (wr (bitsR r (low x) (low y) i))) ∧ IntKind.i64 = IntKind.i64 ∧ wr (bitsR r (low x) (low y) i) = wr (bitsR r (low x) (low y) (32 : Nat)))) ∧ (decide (y < (0 : Int)) = false → (∃ (i : Nat), i ≤ (32 : Nat) ∧ ((IntKind.i64 = IntKind.i64 ∧ x + (4294967296 : Int) = (↑(low x / (2 : Nat) ^ i) : Int)) ∧ (IntKind.i64 = IntKind.i64 ∧ y = (↑(low y / (2 : Nat) ^ i) : Int)) ∧ AV.ptr (5 : Nat) [] = AV.ptr (5 : Nat) [] ∧ (IntKind.i64 = IntKind.i64 ∧ (0 : Int) = bitsR r (low x) (low y) i) ∧ (IntKind.i64 = IntKind.i64 ∧ (1 : Int) = (2 : Int) ^ i) ∧ (IntKind.i64 = IntKind.i64 ∧ (0 : Int) = (↑i : Int)) ∧ True) ∧ (Shape.arr (4 : Nat) Shape.leaf = Shape.arr (4 : Nat) Shape.leaf ∧ (4 : Nat) = (4 : Nat) ∧ ∀ (i : Nat), AV.int IntKind.i64 (r i) = AV.int IntKind.i64 (r i)) ∧ True) ∧ ∀ (i : Nat), i ≤ (32 : Nat) → (decide ((↑i : Int) < (32 : Int)) = true → (2 : Int) ≠ (0 : Int) ∧ InR IntKind.i64 (Int.tmod (↑(low x / (2 : Nat) ^ i) : Int) (2 : Int)) ∧ InR IntKind.i64 ((2 : Int) * Int.tmod (↑(low x / (2 : Nat) ^ i) : Int) (2 : Int)) ∧ (2 : Int) ≠ (0 : Int) ∧ InR IntKind.i64 (Int.tmod (↑(low y / (2 : Nat) ^ i) : Int) (2 : Int)) ∧ InR IntKind.i64 ((2 : Int) * Int.tmod (↑(low x / (2 : Nat) ^ i) : Int) (2 : Int) + Int.tmod (↑(low y / (2 : Nat) ^ i) : Int) (2 : Int)) ∧ inIx ((2 : Int) * Int.tmod (↑(low x / (2 : Nat) ^ i) : Int) (2 : Int) + Int.tmod (↑(low y / (2 : Nat) ^ i) : Int) (2 : Int)) (4 : Nat) ∧ InR IntKind.i64 ((2 : Int) ^ i * r (Int.toNat ((2 : Int) * Int.tmod (↑(low x / (2 : Nat) ^ i) : Int) (2 : Int) + Int.tmod (↑(low y / (2 : Nat) ^ i) : Int) (2 : Int)))) ∧ InR IntKind.i64 (bitsR r (low x) (low y) i + (2 : Int) ^ i * r (Int.toNat ((2 : Int) * Int.tmod (↑(low x / (2 : Nat) ^ i) : Int) (2 : Int) + Int.tmod (↑(low y / (2 : Nat) ^ i) : Int) (2 : Int)))) ∧ (2 : Int) ≠ (0 : Int) ∧ InR IntKind.i64 (Int.tdiv (↑(low x / (2 : Nat) ^ i) : Int) (2 : Int)) ∧ (2 : Int) ≠ (0 : Int) ∧ InR IntKind.i64 (Int.tdiv (↑(low y / (2 : Nat) ^ i) : Int) (2 : Int)) ∧ InR IntKind.i64 ((2 : Int) * (2 : Int) ^ i) ∧ InR IntKind.i64 ((↑i : Int) + (1 : Int)) ∧ ∃ (j : Nat), j ≤ (32 : Nat) ∧ (32 : Nat) - j < (32 : Nat) - i ∧ ((IntKind.i64 = IntKind.i64 ∧ Int.tdiv (↑(low x / (2 : Nat) ^ i) : Int) (2 : Int) = (↑(low x / (2 : Nat) ^ j) : Int)) ∧ (IntKind.i64 = IntKind.i64 ∧ Int.tdiv (↑(low y / (2 : Nat) ^ i) : Int) (2 : Int) = (↑(low y / (2 : Nat) ^ j) : Int)) ∧ AV.ptr (5 : Nat) [] = AV.ptr (5 : Nat) [] ∧ (IntKind.i64 = IntKind.i64 ∧ bitsR r (low x) (low y) i + (2 : Int) ^ i * r (Int.toNat ((2 : Int) * Int.tmod (↑(low x / (2 : Nat) ^ i) : Int) (2 : Int) + Int.tmod (↑(low y / (2 : Nat) ^ i) : Int) (2 : Int))) = bitsR r (low x) (low y) j) ∧ (IntKind.i64 = IntKind.i64 ∧ (2 : Int) * (2 : Int) ^ i = (2 : Int) ^ j) ∧ (IntKind.i64 = IntKind.i64 ∧ (↑i : Int) + (1 : Int) = (↑j : Int)) ∧ True) ∧ (Shape.arr (4 : Nat) Shape.leaf = Shape.arr (4 : Nat) Shape.leaf ∧ (4 : Nat) = (4 : Nat) ∧ ∀ (i : Nat), AV.int IntKind.i64 (r i) = AV.int IntKind.i64 (r i)) ∧ True) ∧ (decide ((↑i : Int) < (32 : Int)) = false → Known Try.prog [] (11 : Nat) [AV.int IntKind.i64 (bitsR r (low x) (low y) i)] (AV.int IntKind.i64 (wr (bitsR r (low x) (low y) i))) ∧ IntKind.i64 = IntKind.i64 ∧ wr (bitsR r (low x) (low y) i) = wr (bitsR r (low x) (low y) (32 : Nat))))) ∧ (decide (x < (0 : Int)) = false → (decide (y < (0 : Int)) = true → InR IntKind.i64 (y + (4294967296 : Int)) ∧ (∃ (i : Nat), i ≤ (32 : Nat) ∧ ((IntKind.i64 = IntKind.i64 ∧ x = (↑(low x / (2 : Nat) ^ i) : Int)) ∧ (IntKind.i64 = IntKind.i64 ∧ y + (4294967296 : Int) = (↑(low y / (2 : Nat) ^ i) : Int)) ∧ AV.ptr (5 : Nat) [] = AV.ptr (5 : Nat) [] ∧ (IntKind.i64 = IntKind.i64 ∧ (0 : Int) = bitsR r (low x) (low y) i) ∧ (IntKind.i64 = IntKind.i64 ∧ (1 : Int) = (2 : Int) ^ i) ∧ (IntKind.i64 = IntKind.i64 ∧ (0 : Int) = (↑i : Int)) ∧ True) ∧ (Shape.arr (4 : Nat) Shape.leaf = Shape.arr (4 : Nat) Shape.leaf ∧ (4 : Nat) = (4 : Nat) ∧ ∀ (i : Nat), AV.int IntKind.i64 (r i) = AV.int IntKind.i64 (r i)) ∧ True) ∧ ∀ (i : Nat), i ≤ (32 : Nat) → (decide ((↑i : Int) < (32 : Int)) = true → (2 : Int) ≠ (0 : Int) ∧ InR IntKind.i64 (Int.tmod (↑(low x / (2 : Nat) ^ i) : Int) (2 : Int)) ∧ InR IntKind.i64 ((2 : Int) * Int.tmod (↑(low x / (2 : Nat) ^ i) : Int) (2 : Int)) ∧ (2 : Int) ≠ (0 : Int) ∧ InR IntKind.i64 (Int.tmod (↑(low y / (2 : Nat) ^ i) : Int) (2 : Int)) ∧ InR IntKind.i64 ((2 : Int) * Int.tmod (↑(low x / (2 : Nat) ^ i) : Int) (2 : Int) + Int.tmod (↑(low y / (2 : Nat) ^ i) : Int) (2 : Int)) ∧ inIx ((2 : Int) * Int.tmod (↑(low x / (2 : Nat) ^ i) : Int) (2 : Int) + Int.tmod (↑(low y / (2 : Nat) ^ i) : Int) (2 : Int)) (4 : Nat) ∧ InR IntKind.i64 ((2 : Int) ^ i * r (Int.toNat ((2 : Int) * Int.tmod (↑(low x / (2 : Nat) ^ i) : Int) (2 : Int) + Int.tmod (↑(low y / (2 : Nat) ^ i) : Int) (2 : Int)))) ∧ InR IntKind.i64 (bitsR r (low x) (low y) i + (2 : Int) ^ i * r (Int.toNat ((2 : Int) * Int.tmod (↑(low x / (2 : Nat) ^ i) : Int) (2 : Int) + Int.tmod (↑(low y / (2 : Nat) ^ i) : Int) (2 : Int)))) ∧ (2 : Int) ≠ (0 : Int) ∧ InR IntKind.i64 (Int.tdiv (↑(low x / (2 : Nat) ^ i) : Int) (2 : Int)) ∧ (2 : Int) ≠ (0 : Int) ∧ InR IntKind.i64 (Int.tdiv (↑(low y / (2 : Nat) ^ i) : Int) (2 : Int)) ∧ InR IntKind.i64 ((2 : Int) * (2 : Int) ^ i) ∧ InR IntKind.i64 ((↑i : Int) + (1 : Int)) ∧ ∃ (j : Nat), j ≤ (32 : Nat) ∧ (32 : Nat) - j < (32 : Nat) - i ∧ ((IntKind.i64 = IntKind.i64 ∧ Int.tdiv (↑(low x / (2 : Nat) ^ i) : Int) (2 : Int) = (↑(low x / (2 : Nat) ^ j) : Int)) ∧ (IntKind.i64 = IntKind.i64 ∧ Int.tdiv (↑(low y / (2 : Nat) ^ i) : Int) (2 : Int) = (↑(low y / (2 : Nat) ^ j) : Int)) ∧ AV.ptr (5 : Nat) [] = AV.ptr (5 : Nat) [] ∧ (IntKind.i64 = IntKind.i64 ∧ bitsR r (low x) (low y) i + (2 : Int) ^ i * r (Int.toNat ((2 : Int) * Int.tmod (↑(low x / (2 : Nat) ^ i) : Int) (2 : Int) + Int.tmod (↑(low y / (2 : Nat) ^ i) : Int) (2 : Int))) = bitsR r (low x) (low y) j) ∧ (IntKind.i64 = IntKind.i64 ∧ (2 : Int) * (2 : Int) ^ i = (2 : Int) ^ j) ∧ (IntKind.i64 = IntKind.i64 ∧ (↑i : Int) + (1 : Int) = (↑j : Int)) ∧ True) ∧ (Shape.arr (4 : Nat) Shape.leaf = Shape.arr (4 : Nat) Shape.leaf ∧ (4 : Nat) = (4 : Nat) ∧ ∀ (i : Nat), AV.int IntKind.i64 (r i) = AV.int IntKind.i64 (r i)) ∧ True) ∧ (decide ((↑i : Int) < (32 : Int)) = false → Known Try.prog [] (11 : Nat) [AV.int IntKind.i64 (bitsR r (low x) (low y) i)] (AV.int IntKind.i64 (wr (bitsR r (low x) (low y) i))) ∧ IntKind.i64 = IntKind.i64 ∧ wr (bitsR r (low x) (low y) i) = wr (bitsR r (low x) (low y) (32 : Nat)))) ∧ (decide (y < (0 : Int)) = false → (∃ (i : Nat), i ≤ (32 : Nat) ∧ ((IntKind.i64 = IntKind.i64 ∧ x = (↑(low x / (2 : Nat) ^ i) : Int)) ∧ (IntKind.i64 = IntKind.i64 ∧ y = (↑(low y / (2 : Nat) ^ i) : Int)) ∧ AV.ptr (5 : Nat) [] = AV.ptr (5 : Nat) [] ∧ (IntKind.i64 = IntKind.i64 ∧ (0 : Int) = bitsR r (low x) (low y) i) ∧ (IntKind.i64 = IntKind.i64 ∧ (1 : Int) = (2 : Int) ^ i) ∧ (IntKind.i64 = IntKind.i64 ∧ (0 : Int) = (↑i : Int)) ∧ True) ∧ (Shape.arr (4 : Nat) Shape.leaf = Shape.arr (4 : Nat) Shape.leaf ∧ (4 : Nat) = (4 : Nat) ∧ ∀ (i : Nat), AV.int IntKind.i64 (r i) = AV.int IntKind.i64 (r i)) ∧ True) ∧ ∀ (i : Nat), i ≤ (32 : Nat) → (decide ((↑i : Int) < (32 : Int)) = true → (2 : Int) ≠ (0 : Int) ∧ InR IntKind.i64 (Int.tmod (↑(low x / (2 : Nat) ^ i) : Int) (2 : Int)) ∧ InR IntKind.i64 ((2 : Int) * Int.tmod (↑(low x / (2 : Nat) ^ i) : Int) (2 : Int)) ∧ (2 : Int) ≠ (0 : Int) ∧ InR IntKind.i64 (Int.tmod (↑(low y / (2 : Nat) ^ i) : Int) (2 : Int)) ∧ InR IntKind.i64 ((2 : Int) * Int.tmod (↑(low x / (2 : Nat) ^ i) : Int) (2 : Int) + Int.tmod (↑(low y / (2 : Nat) ^ i) : Int) (2 : Int)) ∧ inIx ((2 : Int) * Int.tmod (↑(low x / (2 : Nat) ^ i) : Int) (2 : Int) + Int.tmod (↑(low y / (2 : Nat) ^ i) : Int) (2 : Int)) (4 : Nat) ∧ InR IntKind.i64 ((2 : Int) ^ i * r (Int.toNat ((2 : Int) * Int.tmod (↑(low x / (2 : Nat) ^ i) : Int) (2 : Int) + Int.tmod (↑(low y / (2 : Nat) ^ i) : Int) (2 : Int)))) ∧ InR IntKind.i64 (bitsR r (low x) (low y) i + (2 : Int) ^ i * r (Int.toNat ((2 : Int) * Int.tmod (↑(low x / (2 : Nat) ^ i) : Int) (2 : Int) + Int.tmod (↑(low y / (2 : Nat) ^ i) : Int) (2 : Int)))) ∧ (2 : Int) ≠ (0 : Int) ∧ InR IntKind.i64 (Int.tdiv (↑(low x / (2 : Nat) ^ i) : Int) (2 : Int)) ∧ (2 : Int) ≠ (0 : Int) ∧ InR IntKind.i64 (Int.tdiv (↑(low y / (2 : Nat) ^ i) : Int) (2 : Int)) ∧ InR IntKind.i64 ((2 : Int) * (2 : Int) ^ i) ∧ InR IntKind.i64 ((↑i : Int) + (1 : Int)) ∧ ∃ (j : Nat), j ≤ (32 : Nat) ∧ (32 : Nat) - j < (32 : Nat) - i ∧ ((IntKind.i64 = IntKind.i64 ∧ Int.tdiv (↑(low x / (2 : Nat) ^ i) : Int) (2 : Int) = (↑(low x / (2 : Nat) ^ j) : Int)) ∧ (IntKind.i64 = IntKind.i64 ∧ Int.tdiv (↑(low y / (2 : Nat) ^ i) : Int) (2 : Int) = (↑(low y / (2 : Nat) ^ j) : Int)) ∧ AV.ptr (5 : Nat) [] = AV.ptr (5 : Nat) [] ∧ (IntKind.i64 = IntKind.i64 ∧ bitsR r (low x) (low y) i + (2 : Int) ^ i * r (Int.toNat ((2 : Int) * Int.tmod (↑(low x / (2 : Nat) ^ i) : Int) (2 : Int) + Int.tmod (↑(low y / (2 : Nat) ^ i) : Int) (2 : Int))) = bitsR r (low x) (low y) j) ∧ (IntKind.i64 = IntKind.i64 ∧ (2 : Int) * (2 : Int) ^ i = (2 : Int) ^ j) ∧ (IntKind.i64 = IntKind.i64 ∧ (↑i : Int) + (1 : Int) = (↑j : Int)) ∧ True) ∧ (Shape.arr (4 : Nat) Shape.leaf = Shape.arr (4 : Nat) Shape.leaf ∧ (4 : Nat) = (4 : Nat) ∧ ∀ (i : Nat), AV.int IntKind.i64 (r i) = AV.int IntKind.i64 (r i)) ∧ True) ∧ (decide ((↑i : Int) < (32 : Int)) = false → Known Try.prog [] (11 : Nat) [AV.int IntKind.i64 (bitsR r (low x) (low y) i)] (AV.int IntKind.i64 (wr (bitsR r (low x) (low y) i))) ∧ IntKind.i64 = IntKind.i64 ∧ wr (bitsR r (low x) (low y) i) = wr (bitsR r (low x) (low y) (32 : Nat)))))) := by kernel_rfl
theorem k19 (x y : Int) (r : Nat → Int) (hr : ∀ i, 0 ≤ r i ∧ r i ≤ 1) (hx : -2147483648 ≤ x ∧ x ≤ 2147483647) (hy : -2147483648 ≤ y ∧ y ≤ 2147483647) : Known Try.prog [] 19 [.int .i64 x, .int .i64 y, .mc (.arr 4 .leaf) (.arr 4 fun i => .int .i64 (r i))] (.int .i64 (wr (bitsR r (low x) (low y) 32))) := by
  refine Known.of (V := vx 42 (inv19 x y r)) (fn := Try.f19) rfl (by kernel_rfl) (cfg_ok _) rfl ?_
  show g19 x y r
  rw [e19]
  simp only [and_true, true_and, implies_true, Bool.or_eq_true, Bool.and_eq_true, Bool.or_eq_false_iff, Bool.and_eq_false_iff, Bool.not_eq_true', decide_eq_true_eq, decide_eq_false_iff_not, Bool.not_eq_false', imp_self, beq_iff_eq, beq_eq_false_iff_ne, bne_iff_ne, bne_eq_false_iff_eq, ne_eq, Decidable.not_not]
  simp only [tmod2, tdiv2, ix2, half]
  have hB := bitsR_bound r hr (low x) (low y)
  have lx := low_lt x
  have ly := low_lt y
  have px : ∀ {n : Int}, n < 0 → -2147483648 ≤ n → n + 4294967296 = (low n : Int) := fun h h2 => by unfold low; omega
  have nx : ∀ {n : Int}, ¬ n < 0 → n ≤ 2147483647 → n = (low n : Int) := fun h h2 => by unfold low; omega
  have hd : ∀ (n i : Nat), n < 4294967296 → n / 2 ^ i ≤ 4294967296 := fun n i h => Nat.le_trans (Nat.div_le_self _ _) (by omega)
  refine ⟨fun h1 => ⟨inR64 (by omega) (by omega), fun h2 => ⟨inR64 (by omega) (by omega), ?_, fun i hi => ?_⟩, fun h2 => ⟨?_, fun i hi => ?_⟩⟩, fun h1 => ⟨fun h2 => ⟨inR64 (by omega) (by omega), ?_, fun i hi => ?_⟩, fun h2 => ⟨?_, fun i hi => ?_⟩⟩⟩
  all_goals first
    | (refine ⟨0, by omega, ?_, ?_, rfl, rfl, rfl⟩ <;> simp only [Nat.pow_zero, Nat.div_one] <;> first | exact px (by assumption) (by omega) | exact nx (by assumption) (by omega))
    | skip
  all_goals
    refine ⟨fun hlt => ?_, fun hge => ?_⟩
    · have hlt : i < 32 := by omega
      have h3 := pow_le i hlt
      have h4 := hB i
      have h4' := hB (i + 1)
      have h5 := hr (2 * (low x / 2 ^ i % 2) + low y / 2 ^ i % 2)
      have h6 := hd (low x) i lx
      have h7 := hd (low y) i ly
      have h8 := hd (low x) (i + 1) lx
      have h9 := hd (low y) (i + 1) ly
      have h10 : 0 ≤ 2 ^ i * r (2 * (low x / 2 ^ i % 2) + low y / 2 ^ i % 2) ∧ 2 ^ i * r (2 * (low x / 2 ^ i % 2) + low y / 2 ^ i % 2) ≤ 2147483648 := by
        have : r (2 * (low x / 2 ^ i % 2) + low y / 2 ^ i % 2) = 0 ∨ r (2 * (low x / 2 ^ i % 2) + low y / 2 ^ i % 2) = 1 := by omega
        rcases this with e | e <;> rw [e] <;> omega
      refine ⟨by decide, inR64 (by omega) (by omega), inR64 (by omega) (by omega), by decide, inR64 (by omega) (by omega), inR64 (by omega) (by omega), ⟨by omega, by omega⟩, inR64 (by omega) (by omega), inR64 (by omega) (by omega), by decide, inRn h8, by decide, inRn h9, inR64 (by omega) (by omega), inR64 (by omega) (by omega), i + 1, by omega, by omega, rfl, rfl, rfl, by rw [Int.pow_succ, Int.mul_comm], by omega⟩
    · obtain rfl : i = 32 := by omega
      exact ⟨k11 _, rfl⟩
theorem e8 (f a b : Int) : g8 f a b = (Known Try.prog [] (10 : Nat) [AV.int IntKind.i64 a] (AV.int IntKind.i64 (wr a)) ∧ Known Try.prog [] (10 : Nat) [AV.int IntKind.i64 b] (AV.int IntKind.i64 (wr b)) ∧ ((f == (1 : Int)) = true → InR IntKind.i64 (wr a + wr b) ∧ Known Try.prog [] (10 : Nat) [AV.int IntKind.i64 (wr a + wr b)] (AV.int IntKind.i64 (wr (wr a + wr b))) ∧ (IntKind.i64 = IntKind.i64 ∧ wr (wr a + wr b) = (app f a b).1) ∧ (IntKind.i64 = IntKind.i64 ∧ (0 : Int) = (app f a b).2) ∧ True) ∧ ((f == (1 : Int)) = false → ((f == (2 : Int)) = true → InR IntKind.i64 (wr a - wr b) ∧ Known Try.prog [] (10 : Nat) [AV.int IntKind.i64 (wr a - wr b)] (AV.int IntKind.i64 (wr (wr a - wr b))) ∧ (IntKind.i64 = IntKind.i64 ∧ wr (wr a - wr b) = (app f a b).1) ∧ (IntKind.i64 = IntKind.i64 ∧ (0 : Int) = (app f a b).2) ∧ True) ∧ ((f == (2 : Int)) = false → ((f == (3 : Int)) = true → InR IntKind.i64 (wr a * wr b) ∧ Known Try.prog [] (10 : Nat) [AV.int IntKind.i64 (wr a * wr b)] (AV.int IntKind.i64 (wr (wr a * wr b))) ∧ (IntKind.i64 = IntKind.i64 ∧ wr (wr a * wr b) = (app f a b).1) ∧ (IntKind.i64 = IntKind.i64 ∧ (0 : Int) = (app f a b).2) ∧ True) ∧ ((f == (3 : Int)) = false → ((f == (4 : Int)) = true → Known Try.prog [] (10 : Nat) [AV.int IntKind.i64 (bits BinOp.and IntKind.i64 (wr a) (wr b))] (AV.int IntKind.i64 (wr (bits BinOp.and IntKind.i64 (wr a) (wr b)))) ∧ (IntKind.i64 = IntKind.i64 ∧ wr (bits BinOp.and IntKind.i64 (wr a) (wr b)) = (app f a b).1) ∧ (IntKind.i64 = IntKind.i64 ∧ (0 : Int) = (app f a b).2) ∧ True) ∧ ((f == (4 : Int)) = false → ((f == (5 : Int)) = true → Known Try.prog [] (10 : Nat) [AV.int IntKind.i64 (bits BinOp.or IntKind.i64 (wr a) (wr b))] (AV.int IntKind.i64 (wr (bits BinOp.or IntKind.i64 (wr a) (wr b)))) ∧ (IntKind.i64 = IntKind.i64 ∧ wr (bits BinOp.or IntKind.i64 (wr a) (wr b)) = (app f a b).1) ∧ (IntKind.i64 = IntKind.i64 ∧ (0 : Int) = (app f a b).2) ∧ True) ∧ ((f == (5 : Int)) = false → ((f == (6 : Int)) = true → Known Try.prog [] (10 : Nat) [AV.int IntKind.i64 (bits BinOp.xor IntKind.i64 (wr a) (wr b))] (AV.int IntKind.i64 (wr (bits BinOp.xor IntKind.i64 (wr a) (wr b)))) ∧ (IntKind.i64 = IntKind.i64 ∧ wr (bits BinOp.xor IntKind.i64 (wr a) (wr b)) = (app f a b).1) ∧ (IntKind.i64 = IntKind.i64 ∧ (0 : Int) = (app f a b).2) ∧ True) ∧ ((f == (6 : Int)) = false → ((f == (7 : Int)) = true → Known Try.prog [] (18 : Nat) [AV.bool (wr a == wr b)] (AV.int IntKind.i64 (tru (wr a == wr b))) ∧ (IntKind.i64 = IntKind.i64 ∧ tru (wr a == wr b) = (app f a b).1) ∧ (IntKind.i64 = IntKind.i64 ∧ (0 : Int) = (app f a b).2) ∧ True) ∧ ((f == (7 : Int)) = false → ((f == (8 : Int)) = true → Known Try.prog [] (18 : Nat) [AV.bool (wr a != wr b)] (AV.int IntKind.i64 (tru (wr a != wr b))) ∧ (IntKind.i64 = IntKind.i64 ∧ tru (wr a != wr b) = (app f a b).1) ∧ (IntKind.i64 = IntKind.i64 ∧ (0 : Int) = (app f a b).2) ∧ True) ∧ ((f == (8 : Int)) = false → ((f == (9 : Int)) = true → Known Try.prog [] (18 : Nat) [AV.bool (decide (wr a < wr b))] (AV.int IntKind.i64 (tru (decide (wr a < wr b)))) ∧ (IntKind.i64 = IntKind.i64 ∧ tru (decide (wr a < wr b)) = (app f a b).1) ∧ (IntKind.i64 = IntKind.i64 ∧ (0 : Int) = (app f a b).2) ∧ True) ∧ ((f == (9 : Int)) = false → ((f == (10 : Int)) = true → Known Try.prog [] (18 : Nat) [AV.bool (decide (wr a ≤ wr b))] (AV.int IntKind.i64 (tru (decide (wr a ≤ wr b)))) ∧ (IntKind.i64 = IntKind.i64 ∧ tru (decide (wr a ≤ wr b)) = (app f a b).1) ∧ (IntKind.i64 = IntKind.i64 ∧ (0 : Int) = (app f a b).2) ∧ True) ∧ ((f == (10 : Int)) = false → (IntKind.i64 = IntKind.i64 ∧ (0 : Int) = (app f a b).1) ∧ (IntKind.i64 = IntKind.i64 ∧ (8 : Int) = (app f a b).2) ∧ True))))))))))) := by kernel_rfl
theorem wr64 (n : Int) : wr (IntKind.wrap .i64 n) = wr n := by
  simp only [IntKind.wrap, IntKind.signed, IntKind.bits, wr]
  simp
  split <;> omega
theorem wr_mod (n : Nat) : wr (n : Int) = wr ((n % 2 ^ 32 : Nat) : Int) := by unfold wr; omega
theorem low_bv (a : Int) : (BitVec.ofInt 64 (wr a)).toNat % 2 ^ 32 = low a := by
  rw [BitVec.toNat_ofInt]
  unfold low wr
  omega
theorem bits_and (a b : Int) : wr (bits .and .i64 (wr a) (wr b)) = bop (· &&& ·) a b := by
  show wr (IntKind.wrap .i64 ((BitVec.ofInt 64 (wr a) &&& BitVec.ofInt 64 (wr b)).toNat : Int)) = _
  rw [wr64, wr_mod, BitVec.toNat_and, Nat.and_mod_two_pow, low_bv, low_bv]
  rfl
theorem bits_or (a b : Int) : wr (bits .or .i64 (wr a) (wr b)) = bop (· ||| ·) a b := by
  show wr (IntKind.wrap .i64 ((BitVec.ofInt 64 (wr a) ||| BitVec.ofInt 64 (wr b)).toNat : Int)) = _
  rw [wr64, wr_mod, BitVec.toNat_or, Nat.or_mod_two_pow, low_bv, low_bv]
  rfl
theorem bits_xor (a b : Int) : wr (bits .xor .i64 (wr a) (wr b)) = bop (· ^^^ ·) a b := by
  show wr (IntKind.wrap .i64 ((BitVec.ofInt 64 (wr a) ^^^ BitVec.ofInt 64 (wr b)).toNat : Int)) = _
  rw [wr64, wr_mod, BitVec.toNat_xor, Nat.xor_mod_two_pow, low_bv, low_bv]
  rfl
theorem mul_rng {x y : Int} (hx : -2147483648 ≤ x ∧ x ≤ 2147483647) (hy : -2147483648 ≤ y ∧ y ≤ 2147483647) : -9223372036854775808 ≤ x * y ∧ x * y ≤ 9223372036854775807 := by
  have h1 : (x * y).natAbs ≤ 2147483648 * 2147483648 := by
    rw [Int.natAbs_mul]
    exact Nat.mul_le_mul (by omega) (by omega)
  omega
theorem k8 (f a b : Int) : Known Try.prog [] 8 [.int .i64 f, .int .i64 a, .int .i64 b] (.tup [.int .i64 (app f a b).1, .int .i64 (app f a b).2]) := by
  refine Known.of (V := vx 75 fun _ => none) (fn := Try.f8) rfl (by kernel_rfl) (cfg_ok _) rfl ?_
  show g8 f a b
  rw [e8]
  simp only [and_true, true_and, implies_true, Bool.or_eq_true, Bool.and_eq_true, Bool.or_eq_false_iff, Bool.and_eq_false_iff, Bool.not_eq_true', decide_eq_true_eq, decide_eq_false_iff_not, Bool.not_eq_false', imp_self, beq_iff_eq, beq_eq_false_iff_ne, bne_iff_ne, bne_eq_false_iff_eq, ne_eq, Decidable.not_not]
  have ha := wr_rng a
  have hb := wr_rng b
  have hm := mul_rng ha hb
  refine ⟨k10 a, k10 b, ?_⟩
  refine ⟨fun h => ?_, fun n1 => ⟨fun h => ?_, fun n2 => ⟨fun h => ?_, fun n3 => ⟨fun h => ?_, fun n4 => ⟨fun h => ?_, fun n5 => ⟨fun h => ?_, fun n6 => ⟨fun h => ?_, fun n7 => ⟨fun h => ?_, fun n8 => ⟨fun h => ?_, fun n9 => ⟨fun h => ?_, fun n10 => ?_⟩⟩⟩⟩⟩⟩⟩⟩⟩⟩
  · subst h; exact ⟨inR64 (by omega) (by omega), k10 _, rfl, rfl⟩
  · subst h; exact ⟨inR64 (by omega) (by omega), k10 _, rfl, rfl⟩
  · subst h; exact ⟨inR64 (by omega) (by omega), k10 _, rfl, rfl⟩
  · subst h; exact ⟨k10 _, bits_and a b, rfl⟩
  · subst h; exact ⟨k10 _, bits_or a b, rfl⟩
  · subst h; exact ⟨k10 _, bits_xor a b, rfl⟩
  · subst h; exact ⟨k18 _, rfl, rfl⟩
  · subst h; exact ⟨k18 _, rfl, rfl⟩
  · subst h; exact ⟨k18 _, rfl, rfl⟩
  · subst h; exact ⟨k18 _, rfl, rfl⟩
  · simp [app, n1, n2, n3, n4, n5, n6, n7, n8, n9, n10]
theorem bitsR_g (r : Nat → Int) (g X Y : Nat) (h : ∀ n, ((g / 2 ^ n % 2 : Nat) : Int) = r (2 * (X / 2 ^ n % 2) + Y / 2 ^ n % 2)) : ∀ n, bitsR r X Y n = ((g % 2 ^ n : Nat) : Int)
  | 0 => by simp [bitsR, Nat.mod_one]
  | n + 1 => by
    rw [bitsR, bitsR_g r g X Y h n, ← h n, Nat.mod_pow_succ]
    push_cast
    rfl
def rAnd : Nat → Int
  | 3 => 1
  | _ => 0
def rOr : Nat → Int
  | 1 => 1
  | 2 => 1
  | 3 => 1
  | _ => 0
def rXor : Nat → Int
  | 1 => 1
  | 2 => 1
  | _ => 0
theorem bit_cases' {G B C : Nat} {o : Bool → Bool → Bool} {r : Nat → Int} (h : decide (G = 1) = o (decide (B = 1)) (decide (C = 1))) (hG : G < 2) (hB : B < 2) (hC : C < 2)
    (h00 : r 0 = (o false false).toInt) (h01 : r 1 = (o false true).toInt) (h10 : r 2 = (o true false).toInt) (h11 : r 3 = (o true true).toInt) : (G : Int) = r (2 * B + C) := by
  have key : ∀ b : Bool, decide (G = 1) = b → (G : Int) = b.toInt := by
    intro b hb
    cases b
    · have := of_decide_eq_false hb
      show (G : Int) = 0
      omega
    · have := of_decide_eq_true hb
      show (G : Int) = 1
      omega
  have h1 : B = 0 ∨ B = 1 := by omega
  have h2 : C = 0 ∨ C = 1 := by omega
  rcases h1 with rfl | rfl <;> rcases h2 with rfl | rfl
  · exact (key _ h).trans h00.symm
  · exact (key _ h).trans h01.symm
  · exact (key _ h).trans h10.symm
  · exact (key _ h).trans h11.symm
theorem bit_cases {g X Y n : Nat} {o : Bool → Bool → Bool} {r : Nat → Int} (h : g.testBit n = o (X.testBit n) (Y.testBit n))
    (h00 : r 0 = (o false false).toInt) (h01 : r 1 = (o false true).toInt) (h10 : r 2 = (o true false).toInt) (h11 : r 3 = (o true true).toInt) :
    ((g / 2 ^ n % 2 : Nat) : Int) = r (2 * (X / 2 ^ n % 2) + Y / 2 ^ n % 2) := by
  rw [Nat.testBit_eq_decide_div_mod_eq, Nat.testBit_eq_decide_div_mod_eq, Nat.testBit_eq_decide_div_mod_eq] at h
  exact bit_cases' h (by omega) (by omega) (by omega) h00 h01 h10 h11
theorem bitsR_and (X Y n : Nat) : bitsR rAnd X Y n = (((X &&& Y) % 2 ^ n : Nat) : Int) :=
  bitsR_g rAnd (X &&& Y) X Y (fun n => bit_cases (r := rAnd) (o := fun a b => a && b) (Nat.testBit_and X Y n) rfl rfl rfl rfl) n
theorem bitsR_or (X Y n : Nat) : bitsR rOr X Y n = (((X ||| Y) % 2 ^ n : Nat) : Int) :=
  bitsR_g rOr (X ||| Y) X Y (fun n => bit_cases (r := rOr) (o := fun a b => a || b) (Nat.testBit_or X Y n) rfl rfl rfl rfl) n
theorem bitsR_xor (X Y n : Nat) : bitsR rXor X Y n = (((X ^^^ Y) % 2 ^ n : Nat) : Int) :=
  bitsR_g rXor (X ^^^ Y) X Y (fun n => bit_cases (r := rXor) (o := fun a b => a ^^ b) (Nat.testBit_xor X Y n) rfl rfl rfl rfl) n
theorem wr_mod' (n : Nat) : wr ((n % 2 ^ 32 : Nat) : Int) = wr (n : Int) := (wr_mod n).symm
theorem a_and : (fun i => [AV.int .i64 0, AV.int .i64 0, AV.int .i64 0, AV.int .i64 1].getD i (AV.int .i64 0)) = fun i => AV.int .i64 (rAnd i) :=
  funext fun i => match i with | 0 | 1 | 2 | 3 | _ + 4 => rfl
theorem a_or : (fun i => [AV.int .i64 0, AV.int .i64 1, AV.int .i64 1, AV.int .i64 1].getD i (AV.int .i64 0)) = fun i => AV.int .i64 (rOr i) :=
  funext fun i => match i with | 0 | 1 | 2 | 3 | _ + 4 => rfl
theorem a_xor : (fun i => [AV.int .i64 0, AV.int .i64 1, AV.int .i64 1, AV.int .i64 0].getD i (AV.int .i64 0)) = fun i => AV.int .i64 (rXor i) :=
  funext fun i => match i with | 0 | 1 | 2 | 3 | _ + 4 => rfl
theorem r01 {r : Nat → Int} (h : r = rAnd ∨ r = rOr ∨ r = rXor) : ∀ i, 0 ≤ r i ∧ r i ≤ 1 := by
  intro i
  rcases h with rfl | rfl | rfl <;> (first | unfold rAnd | unfold rOr | unfold rXor) <;> split <;> omega
theorem k19' (a b : Int) (r : Nat → Int) (F : Nat → AV) (h : r = rAnd ∨ r = rOr ∨ r = rXor) (hF : F = fun i => .int .i64 (r i)) (N : Nat) (hN : bitsR r (low (wr a)) (low (wr b)) 32 = ((N % 2 ^ 32 : Nat) : Int)) :
    Known Try.prog [] 19 [.int .i64 (wr a), .int .i64 (wr b), .mc (.arr 4 .leaf) (.arr 4 F)] (.int .i64 (wr (bitsR (fun i => decI (F i)) (low (wr a)) (low (wr b)) 32))) ∧ wr (bitsR (fun i => decI (F i)) (low (wr a)) (low (wr b)) 32) = wr (N : Int) := by
  subst hF
  refine ⟨k19 (wr a) (wr b) r (r01 h) (wr_rng a) (wr_rng b), ?_⟩
  show wr (bitsR r _ _ 32) = _
  rw [hN, wr_mod']
theorem e9 (f a b : Int) : g9 f a b = (Known Try.prog [] (11 : Nat) [AV.int IntKind.i64 a] (AV.int IntKind.i64 (wr a)) ∧ Known Try.prog [] (11 : Nat) [AV.int IntKind.i64 b] (AV.int IntKind.i64 (wr b)) ∧ ((f == (1 : Int)) = true → InR IntKind.i64 (wr a + wr b) ∧ Known Try.prog [] (11 : Nat) [AV.int IntKind.i64 (wr a + wr b)] (AV.int IntKind.i64 (wr (wr a + wr b))) ∧ (IntKind.i64 = IntKind.i64 ∧ wr (wr a + wr b) = (app f a b).1) ∧ (IntKind.i64 = IntKind.i64 ∧ (0 : Int) = (app f a b).2) ∧ True) ∧ ((f == (1 : Int)) = false → ((f == (2 : Int)) = true → InR IntKind.i64 (wr a - wr b) ∧ Known Try.prog [] (11 : Nat) [AV.int IntKind.i64 (wr a - wr b)] (AV.int IntKind.i64 (wr (wr a - wr b))) ∧ (IntKind.i64 = IntKind.i64 ∧ wr (wr a - wr b) = (app f a b).1) ∧ (IntKind.i64 = IntKind.i64 ∧ (0 : Int) = (app f a b).2) ∧ True) ∧ ((f == (2 : Int)) = false → ((f == (3 : Int)) = true → InR IntKind.i64 (wr a * wr b) ∧ Known Try.prog [] (11 : Nat) [AV.int IntKind.i64 (wr a * wr b)] (AV.int IntKind.i64 (wr (wr a * wr b))) ∧ (IntKind.i64 = IntKind.i64 ∧ wr (wr a * wr b) = (app f a b).1) ∧ (IntKind.i64 = IntKind.i64 ∧ (0 : Int) = (app f a b).2) ∧ True) ∧ ((f == (3 : Int)) = false → ((f == (4 : Int)) = true → Known Try.prog [] (19 : Nat) [AV.int IntKind.i64 (wr a), AV.int IntKind.i64 (wr b), AV.mc (Shape.arr (4 : Nat) Shape.leaf) (AV.arr (4 : Nat) fun (i : Nat) => List.getD (List.set (List.set (List.set (List.set (List.map (fun (x : Nat) => AV.int IntKind.i64 (0 : Int)) (List.range (4 : Nat))) (0 : Nat) (strip1 (AV.int IntKind.i64 (0 : Int)))) (1 : Nat) (strip1 (AV.int IntKind.i64 (0 : Int)))) (2 : Nat) (strip1 (AV.int IntKind.i64 (0 : Int)))) (3 : Nat) (strip1 (AV.int IntKind.i64 (1 : Int)))) i (AV.int IntKind.i64 (0 : Int)))] (AV.int IntKind.i64 (wr (bitsR (fun (i : Nat) => decI (List.getD (List.set (List.set (List.set (List.set (List.map (fun (x : Nat) => AV.int IntKind.i64 (0 : Int)) (List.range (4 : Nat))) (0 : Nat) (strip1 (AV.int IntKind.i64 (0 : Int)))) (1 : Nat) (strip1 (AV.int IntKind.i64 (0 : Int)))) (2 : Nat) (strip1 (AV.int IntKind.i64 (0 : Int)))) (3 : Nat) (strip1 (AV.int IntKind.i64 (1 : Int)))) i (AV.int IntKind.i64 (0 : Int)))) (low (wr a)) (low (wr b)) (32 : Nat)))) ∧ (IntKind.i64 = IntKind.i64 ∧ wr (bitsR (fun (i : Nat) => decI (List.getD (List.set (List.set (List.set (List.set (List.map (fun (x : Nat) => AV.int IntKind.i64 (0 : Int)) (List.range (4 : Nat))) (0 : Nat) (strip1 (AV.int IntKind.i64 (0 : Int)))) (1 : Nat) (strip1 (AV.int IntKind.i64 (0 : Int)))) (2 : Nat) (strip1 (AV.int IntKind.i64 (0 : Int)))) (3 : Nat) (strip1 (AV.int IntKind.i64 (1 : Int)))) i (AV.int IntKind.i64 (0 : Int)))) (low (wr a)) (low (wr b)) (32 : Nat)) = (app f a b).1) ∧ (IntKind.i64 = IntKind.i64 ∧ (0 : Int) = (app f a b).2) ∧ True) ∧ ((f == (4 : Int)) = false → ((f == (5 : Int)) = true → Known Try.prog [] (19 : Nat) [AV.int IntKind.i64 (wr a), AV.int IntKind.i64 (wr b), AV.mc (Shape.arr (4 : Nat) Shape.leaf) (AV.arr (4 : Nat) fun (i : Nat) => List.getD (List.set (List.set (List.set (List.set (List.map (fun (x : Nat) => AV.int IntKind.i64 (0 : Int)) (List.range (4 : Nat))) (0 : Nat) (strip1 (AV.int IntKind.i64 (0 : Int)))) (1 : Nat) (strip1 (AV.int IntKind.i64 (1 : Int)))) (2 : Nat) (strip1 (AV.int IntKind.i64 (1 : Int)))) (3 : Nat) (strip1 (AV.int IntKind.i64 (1 : Int)))) i (AV.int IntKind.i64 (0 : Int)))] (AV.int IntKind.i64 (wr (bitsR (fun (i : Nat) => decI (List.getD (List.set (List.set (List.set (List.set (List.map (fun (x : Nat) => AV.int IntKind.i64 (0 : Int)) (List.range (4 : Nat))) (0 : Nat) (strip1 (AV.int IntKind.i64 (0 : Int)))) (1 : Nat) (strip1 (AV.int IntKind.i64 (1 : Int)))) (2 : Nat) (strip1 (AV.int IntKind.i64 (1 : Int)))) (3 : Nat) (strip1 (AV.int IntKind.i64 (1 : Int)))) i (AV.int IntKind.i64 (0 : Int)))) (low (wr a)) (low (wr b)) (32 : Nat)))) ∧ (IntKind.i64 = IntKind.i64 ∧ wr (bitsR (fun (i : Nat) => decI (List.getD (List.set (List.set (List.set (List.set (List.map (fun (x : Nat) => AV.int IntKind.i64 (0 : Int)) (List.range (4 : Nat))) (0 : Nat) (strip1 (AV.int IntKind.i64 (0 : Int)))) (1 : Nat) (strip1 (AV.int IntKind.i64 (1 : Int)))) (2 : Nat) (strip1 (AV.int IntKind.i64 (1 : Int)))) (3 : Nat) (strip1 (AV.int IntKind.i64 (1 : Int)))) i (AV.int IntKind.i64 (0 : Int)))) (low (wr a)) (low (wr b)) (32 : Nat)) = (app f a b).1) ∧ (IntKind.i64 = IntKind.i64 ∧ (0 : Int) = (app f a b).2) ∧ True) ∧ ((f == (5 : Int)) = false → ((f == (6 : Int)) = true → Known Try.prog [] (19 : Nat) [AV.int IntKind.i64 (wr a), AV.int IntKind.i64 (wr b), AV.mc (Shape.arr (4 : Nat) Shape.leaf) (AV.arr (4 : Nat) fun (i : Nat) => List.getD (List.set (List.set (List.set (List.set (List.map (fun (x : Nat) => AV.int IntKind.i64 (0 : Int)) (List.range (4 : Nat))) (0 : Nat) (strip1 (AV.int IntKind.i64 (0 : Int)))) (1 : Nat) (strip1 (AV.int IntKind.i64 (1 : Int)))) (2 : Nat) (strip1 (AV.int IntKind.i64 (1 : Int)))) (3 : Nat) (strip1 (AV.int IntKind.i64 (0 : Int)))) i (AV.int IntKind.i64 (0 : Int)))] (AV.int IntKind.i64 (wr (bitsR (fun (i : Nat) => decI (List.getD (List.set (List.set (List.set (List.set (List.map (fun (x : Nat) => AV.int IntKind.i64 (0 : Int)) (List.range (4 : Nat))) (0 : Nat) (strip1 (AV.int IntKind.i64 (0 : Int)))) (1 : Nat) (strip1 (AV.int IntKind.i64 (1 : Int)))) (2 : Nat) (strip1 (AV.int IntKind.i64 (1 : Int)))) (3 : Nat) (strip1 (AV.int IntKind.i64 (0 : Int)))) i (AV.int IntKind.i64 (0 : Int)))) (low (wr a)) (low (wr b)) (32 : Nat)))) ∧ (IntKind.i64 = IntKind.i64 ∧ wr (bitsR (fun (i : Nat) => decI (List.getD (List.set (List.set (List.set (List.set (List.map (fun (x : Nat) => AV.int IntKind.i64 (0 : Int)) (List.range (4 : Nat))) (0 : Nat) (strip1 (AV.int IntKind.i64 (0 : Int)))) (1 : Nat) (strip1 (AV.int IntKind.i64 (1 : Int)))) (2 : Nat) (strip1 (AV.int IntKind.i64 (1 : Int)))) (3 : Nat) (strip1 (AV.int IntKind.i64 (0 : Int)))) i (AV.int IntKind.i64 (0 : Int)))) (low (wr a)) (low (wr b)) (32 : Nat)) = (app f a b).1) ∧ (IntKind.i64 = IntKind.i64 ∧ (0 : Int) = (app f a b).2) ∧ True) ∧ ((f == (6 : Int)) = false → ((f == (7 : Int)) = true → Known Try.prog [] (20 : Nat) [AV.bool (wr a == wr b)] (AV.int IntKind.i64 (tru (wr a == wr b))) ∧ (IntKind.i64 = IntKind.i64 ∧ tru (wr a == wr b) = (app f a b).1) ∧ (IntKind.i64 = IntKind.i64 ∧ (0 : Int) = (app f a b).2) ∧ True) ∧ ((f == (7 : Int)) = false → ((f == (8 : Int)) = true → Known Try.prog [] (20 : Nat) [AV.bool (wr a != wr b)] (AV.int IntKind.i64 (tru (wr a != wr b))) ∧ (IntKind.i64 = IntKind.i64 ∧ tru (wr a != wr b) = (app f a b).1) ∧ (IntKind.i64 = IntKind.i64 ∧ (0 : Int) = (app f a b).2) ∧ True) ∧ ((f == (8 : Int)) = false → ((f == (9 : Int)) = true → Known Try.prog [] (20 : Nat) [AV.bool (decide (wr a < wr b))] (AV.int IntKind.i64 (tru (decide (wr a < wr b)))) ∧ (IntKind.i64 = IntKind.i64 ∧ tru (decide (wr a < wr b)) = (app f a b).1) ∧ (IntKind.i64 = IntKind.i64 ∧ (0 : Int) = (app f a b).2) ∧ True) ∧ ((f == (9 : Int)) = false → ((f == (10 : Int)) = true → Known Try.prog [] (20 : Nat) [AV.bool (decide (wr a ≤ wr b))] (AV.int IntKind.i64 (tru (decide (wr a ≤ wr b)))) ∧ (IntKind.i64 = IntKind.i64 ∧ tru (decide (wr a ≤ wr b)) = (app f a b).1) ∧ (IntKind.i64 = IntKind.i64 ∧ (0 : Int) = (app f a b).2) ∧ True) ∧ ((f == (10 : Int)) = false → (IntKind.i64 = IntKind.i64 ∧ (0 : Int) = (app f a b).1) ∧ (IntKind.i64 = IntKind.i64 ∧ (8 : Int) = (app f a b).2) ∧ True))))))))))) := by kernel_rfl
theorem k9 (f a b : Int) : Known Try.prog [] 9 [.int .i64 f, .int .i64 a, .int .i64 b] (.tup [.int .i64 (app f a b).1, .int .i64 (app f a b).2]) := by
  refine Known.of (V := vx 75 fun _ => none) (fn := Try.f9) rfl (by kernel_rfl) (cfg_ok _) rfl ?_
  show g9 f a b
  rw [e9]
  simp only [and_true, true_and, implies_true, Bool.or_eq_true, Bool.and_eq_true, Bool.or_eq_false_iff, Bool.and_eq_false_iff, Bool.not_eq_true', decide_eq_true_eq, decide_eq_false_iff_not, Bool.not_eq_false', imp_self, beq_iff_eq, beq_eq_false_iff_ne, bne_iff_ne, bne_eq_false_iff_eq, ne_eq, Decidable.not_not]
  have ha := wr_rng a
  have hb := wr_rng b
  have hm := mul_rng ha hb
  have q4 := k19' a b rAnd _ (.inl rfl) a_and (low a &&& low b) (by rw [low_wr, low_wr]; exact bitsR_and _ _ _)
  have q5 := k19' a b rOr _ (.inr (.inl rfl)) a_or (low a ||| low b) (by rw [low_wr, low_wr]; exact bitsR_or _ _ _)
  have q6 := k19' a b rXor _ (.inr (.inr rfl)) a_xor (low a ^^^ low b) (by rw [low_wr, low_wr]; exact bitsR_xor _ _ _)
  refine ⟨k11 a, k11 b, ?_⟩
  refine ⟨fun h => ?_, fun n1 => ⟨fun h => ?_, fun n2 => ⟨fun h => ?_, fun n3 => ⟨fun h => ?_, fun n4 => ⟨fun h => ?_, fun n5 => ⟨fun h => ?_, fun n6 => ⟨fun h => ?_, fun n7 => ⟨fun h => ?_, fun n8 => ⟨fun h => ?_, fun n9 => ⟨fun h => ?_, fun n10 => ?_⟩⟩⟩⟩⟩⟩⟩⟩⟩⟩
  · subst h; exact ⟨inR64 (by omega) (by omega), k11 _, rfl, rfl⟩
  · subst h; exact ⟨inR64 (by omega) (by omega), k11 _, rfl, rfl⟩
  · subst h; exact ⟨inR64 (by omega) (by omega), k11 _, rfl, rfl⟩
  · subst h; exact ⟨q4.1, q4.2, rfl⟩
  · subst h; exact ⟨q5.1, q5.2, rfl⟩
  · subst h; exact ⟨q6.1, q6.2, rfl⟩
  · subst h; exact ⟨k20 _, rfl, rfl⟩
  · subst h; exact ⟨k20 _, rfl, rfl⟩
  · subst h; exact ⟨k20 _, rfl, rfl⟩
  · subst h; exact ⟨k20 _, rfl, rfl⟩
  · simp [app, n1, n2, n3, n4, n5, n6, n7, n8, n9, n10]
theorem e13 (f a b : Int) : g13 f a b = (Known Try.prog [] (8 : Nat) [AV.int IntKind.i64 f, AV.int IntKind.i64 a, AV.int IntKind.i64 b] (AV.tup [AV.int IntKind.i64 ((fun (α β : Type) (self : α × β) => self.1) Int Int (app f a b)), AV.int IntKind.i64 ((fun (α β : Type) (self : α × β) => self.2) Int Int (app f a b))]) ∧ IntKind.i64 = IntKind.i64 ∧ (app f a b).1 = (fun (α β : Type) (self : α × β) => self.1) Int Int (app f a b)) := by kernel_rfl
theorem k13 (f a b : Int) : Known Try.prog [] 13 [.int .i64 f, .int .i64 a, .int .i64 b] (.int .i64 (app f a b).1) := by
  refine Known.of (V := vx 17 fun _ => none) (fn := Try.f13) rfl (by kernel_rfl) (cfg_ok _) rfl ?_
  show g13 f a b
  rw [e13]
  simp only [and_true, true_and, implies_true, Bool.or_eq_true, Bool.and_eq_true, Bool.or_eq_false_iff, Bool.and_eq_false_iff, Bool.not_eq_true', decide_eq_true_eq, decide_eq_false_iff_not, Bool.not_eq_false', imp_self, beq_iff_eq, beq_eq_false_iff_ne, bne_iff_ne, bne_eq_false_iff_eq, ne_eq, Decidable.not_not]
  exact k8 f a b
end Go.Proofs.S01
