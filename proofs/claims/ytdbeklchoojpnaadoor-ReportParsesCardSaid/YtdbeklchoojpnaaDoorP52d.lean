import Derived.Test.YtdbeklchoojpnaaDoorS52d
namespace Go.Proofs.S52
open Go Go.AV Go.Proofs.Dec
theorem tdiv10 (n : Nat) : (n : Int).tdiv 10 = ((n / 10 : Nat) : Int) := rfl
theorem tmod10 (n : Nat) : (n : Int).tmod 10 = ((n % 10 : Nat) : Int) := rfl
theorem next10 (m i : Nat) : m / 10 ^ i / 10 = m / 10 ^ (i + 1) := by rw [Nat.div_div_eq_div_mul, Nat.pow_succ]
theorem decN_get : ∀ (k m j : Nat), j < k → (decN m k)[j]? = some (UInt8.ofNat (48 + m / 10 ^ (k - 1 - j) % 10))
  | 0, _, _, h => absurd h (by omega)
  | k + 1, m, j, h => by
    have hl : ∀ m k, (decN m k).length = k := by
      intro m k
      induction k generalizing m with
      | zero => rfl
      | succ k ih => simp [decN, ih]
    rw [decN]
    by_cases e : j < k
    · rw [List.getElem?_append_left (by rw [hl]; exact e), decN_get k (m / 10) j e, Nat.div_div_eq_div_mul, Nat.mul_comm, ← Nat.pow_succ, show (k - 1 - j).succ = k + 1 - 1 - j by omega]
    · obtain rfl : j = k := by omega
      rw [List.getElem?_append_right (by rw [hl]; exact Nat.le_refl _), hl]
      simp
theorem decN_len (k : Nat) : ∀ m, (decN m k).length = k := by
  induction k with
  | zero => intro m; rfl
  | succ k ih => intro m; simp [decN, ih]
theorem dec_front : ∀ (k m : Nat), decN m (k + 1) = UInt8.ofNat (48 + m / 10 ^ k % 10) :: decN m k
  | 0, m => by simp [decN]
  | k + 1, m => by
    rw [decN, dec_front k (m / 10), Nat.div_div_eq_div_mul, Nat.mul_comm, ← Nat.pow_succ]
    rfl
theorem bytes_dec (m k : Nat) (hk : k ≤ 20) : bytesAt (fun j => .int .u8 (bufAt m k j)) (20 - k) k = decN m k := by
  apply List.ext_getElem?
  intro j
  by_cases hj : j < k
  · rw [decN_get k m j hj]
    simp only [bytesAt, List.getElem?_map, List.getElem?_range hj, Option.map_some, u8Of, bufAt]
    rw [if_pos (by omega), Int.toNat_natCast, show 19 - (20 - k + j) = k - 1 - j by omega]
  · rw [List.getElem?_eq_none (by simp [bytesAt]; omega), List.getElem?_eq_none (by rw [decN_len]; omega)]
theorem ndF_eq : ∀ (k m i : Nat), i ≤ k → m < 10 ^ (i + 1) → (i = 0 ∨ 10 ^ i ≤ m) → ndF k m = i + 1
  | 0, m, i, h, _, _ => by
    obtain rfl : i = 0 := by omega
    rfl
  | k + 1, m, i, h, h1, h2 => by
    unfold ndF
    split
    · rename_i hm
      rcases h2 with rfl | h2
      · rfl
      · match i, h2 with
        | 0, _ => rfl
        | i + 1, h2 =>
          have : 0 < 10 ^ i := Nat.pow_pos (by decide)
          rw [Nat.pow_succ] at h2
          omega
    · rename_i hm
      match i, h, h1, h2 with
      | 0, _, h1, _ => simp at h1; omega
      | i + 1, h, h1, h2 =>
        rw [ndF_eq k (m / 10) i (by omega) (by rw [Nat.pow_succ] at h1; omega) (by
          rcases h2 with h2 | h2
          · omega
          · right
            rw [Nat.pow_succ] at h2
            omega)]
theorem nd_eq {m i : Nat} (h : i < 20) (h1 : m < 10 ^ (i + 1)) (h2 : i = 0 ∨ 10 ^ i ≤ m) : nd m = i + 1 := ndF_eq 20 m i (by omega) h1 h2
theorem buf_next (m i : Nat) (hi : i < 20) (j : Nat) : (if j = 19 - i then strip1 (AV.int .u8 (IntKind.wrap .u8 (48 + ((m / 10 ^ i % 10 : Nat) : Int)))) else AV.int .u8 (bufAt m i j)) = AV.int .u8 (bufAt m (i + 1) j) := by
  by_cases e : j = 19 - i
  · rw [if_pos e]
    have hw : IntKind.wrap .u8 (48 + ((m / 10 ^ i % 10 : Nat) : Int)) = 48 + ((m / 10 ^ i % 10 : Nat) : Int) := by
      simp only [IntKind.wrap, IntKind.signed, IntKind.bits]
      simp
      omega
    unfold bufAt
    rw [if_pos (by omega), hw, show 19 - j = i by omega]
    simp only [strip1, AV.int.injEq, true_and]
    omega
  · rw [if_neg e]
    unfold bufAt
    by_cases h : 20 ≤ i + j ∧ j < 20
    · rw [if_pos h, if_pos (by omega)]
    · rw [if_neg h, if_neg (by omega)]
theorem inRu64 {n : Int} (h : 0 ≤ n ∧ n ≤ 18446744073709551615) : InR .u64 n := by
  simp only [InR, IntKind.wrap, IntKind.signed, IntKind.bits]
  simp
  omega
theorem inRu64n (n : Nat) (h : n ≤ 18446744073709551615) : InR .u64 (n : Int) := inRu64 (by omega)
theorem eD (m : Nat) : gD m = ((∃ (i : Nat), (i < (20 : Nat) ∧ (i = (0 : Nat) ∨ (10 : Nat) ^ i ≤ m)) ∧ ((IntKind.u64 = IntKind.u64 ∧ (↑m : Int) = (↑(m / (10 : Nat) ^ i) : Int)) ∧ AV.ptr (3 : Nat) [] = AV.ptr (3 : Nat) [] ∧ (IntKind.i64 = IntKind.i64 ∧ (20 : Int) = (20 : Int) - (↑i : Int)) ∧ (IntKind.i64 = IntKind.i64 ∧ (0 : Int) = (↑i : Int)) ∧ True) ∧ ((93 : Nat) = (93 : TypeId) ∧ Shape.arr (20 : Nat) Shape.leaf = Shape.arr (20 : Nat) Shape.leaf ∧ (20 : Nat) = (20 : Nat) ∧ ∀ (i_1 : Nat), AV.int IntKind.u8 (0 : Int) = AV.int IntKind.u8 (bufAt m i i_1)) ∧ True) ∧ ∀ (i : Nat), i < (20 : Nat) ∧ (i = (0 : Nat) ∨ (10 : Nat) ^ i ≤ m) → (decide ((↑i : Int) < (20 : Int)) = true → InR IntKind.i64 ((20 : Int) - (↑i : Int) - (1 : Int)) ∧ (10 : Int) ≠ (0 : Int) ∧ InR IntKind.u64 (Int.tmod (↑(m / (10 : Nat) ^ i) : Int) (10 : Int)) ∧ InR IntKind.u64 ((48 : Int) + Int.tmod (↑(m / (10 : Nat) ^ i) : Int) (10 : Int)) ∧ inIx ((20 : Int) - (↑i : Int) - (1 : Int)) (20 : Nat) ∧ (10 : Int) ≠ (0 : Int) ∧ InR IntKind.u64 (Int.tdiv (↑(m / (10 : Nat) ^ i) : Int) (10 : Int)) ∧ ((Int.tdiv (↑(m / (10 : Nat) ^ i) : Int) (10 : Int) == (0 : Int)) = true → ((0 : Int) ≤ (20 : Int) - (↑i : Int) - (1 : Int) ∧ (20 : Int) - (↑i : Int) - (1 : Int) ≤ (↑(20 : Nat) : Int)) ∧ (∀ (i_1 : Nat), i_1 < (20 : Nat) - Int.toNat ((20 : Int) - (↑i : Int) - (1 : Int)) → isU8 (if Int.toNat ((20 : Int) - (↑i : Int) - (1 : Int)) + i_1 = Int.toNat ((20 : Int) - (↑i : Int) - (1 : Int)) then strip1 (AV.int IntKind.u8 (IntKind.wrap IntKind.u8 ((48 : Int) + Int.tmod (↑(m / (10 : Nat) ^ i) : Int) (10 : Int)))) else AV.int IntKind.u8 (bufAt m i (Int.toNat ((20 : Int) - (↑i : Int) - (1 : Int)) + i_1))) = true) ∧ bytesAt (fun (j : Nat) => if j = Int.toNat ((20 : Int) - (↑i : Int) - (1 : Int)) then strip1 (AV.int IntKind.u8 (IntKind.wrap IntKind.u8 ((48 : Int) + Int.tmod (↑(m / (10 : Nat) ^ i) : Int) (10 : Int)))) else AV.int IntKind.u8 (bufAt m i j)) (Int.toNat ((20 : Int) - (↑i : Int) - (1 : Int))) ((20 : Nat) - Int.toNat ((20 : Int) - (↑i : Int) - (1 : Int))) = dec m) ∧ ((Int.tdiv (↑(m / (10 : Nat) ^ i) : Int) (10 : Int) == (0 : Int)) = false → InR IntKind.i64 ((↑i : Int) + (1 : Int)) ∧ ∃ (j : Nat), (j < (20 : Nat) ∧ (j = (0 : Nat) ∨ (10 : Nat) ^ j ≤ m)) ∧ (20 : Nat) - j < (20 : Nat) - i ∧ ((IntKind.u64 = IntKind.u64 ∧ Int.tdiv (↑(m / (10 : Nat) ^ i) : Int) (10 : Int) = (↑(m / (10 : Nat) ^ j) : Int)) ∧ AV.ptr (3 : Nat) [] = AV.ptr (3 : Nat) [] ∧ (IntKind.i64 = IntKind.i64 ∧ (20 : Int) - (↑i : Int) - (1 : Int) = (20 : Int) - (↑j : Int)) ∧ (IntKind.i64 = IntKind.i64 ∧ (↑i : Int) + (1 : Int) = (↑j : Int)) ∧ True) ∧ ((93 : TypeId) = (93 : TypeId) ∧ Shape.arr (20 : Nat) Shape.leaf = Shape.arr (20 : Nat) Shape.leaf ∧ (20 : Nat) = (20 : Nat) ∧ ∀ (i_1 : Nat), (if i_1 = Int.toNat ((20 : Int) - (↑i : Int) - (1 : Int)) then strip1 (AV.int IntKind.u8 (IntKind.wrap IntKind.u8 ((48 : Int) + Int.tmod (↑(m / (10 : Nat) ^ i) : Int) (10 : Int)))) else AV.int IntKind.u8 (bufAt m i i_1)) = AV.int IntKind.u8 (bufAt m j i_1)) ∧ True)) ∧ (decide ((↑i : Int) < (20 : Int)) = false → ((0 : Int) ≤ (20 : Int) - (↑i : Int) ∧ (20 : Int) - (↑i : Int) ≤ (↑(20 : Nat) : Int)) ∧ (∀ (i_1 : Nat), i_1 < (20 : Nat) - Int.toNat ((20 : Int) - (↑i : Int)) → isU8 (AV.int IntKind.u8 (bufAt m i (Int.toNat ((20 : Int) - (↑i : Int)) + i_1))) = true) ∧ bytesAt (fun (j : Nat) => AV.int IntKind.u8 (bufAt m i j)) (Int.toNat ((20 : Int) - (↑i : Int))) ((20 : Nat) - Int.toNat ((20 : Int) - (↑i : Int))) = dec m)) := by kernel_rfl
theorem kD (m : Nat) (hm : m ≤ 18446744073709551615) : Known Tryd.prog [] 40 [.int .u64 m] (.str (dec m)) := by
  refine Known.of (V := vf 23 (invD m)) (fn := Tryd.f40) rfl (by kernel_rfl) (cfgD_ok _) rfl ?_
  show gD m
  rw [eD]
  simp only [and_true, true_and, decide_eq_true_eq, decide_eq_false_iff_not, beq_iff_eq, beq_eq_false_iff_ne, ne_eq]
  simp only [tdiv10, tmod10, next10]
  refine ⟨⟨0, ⟨by omega, .inl rfl⟩, ⟨by simp, rfl, rfl⟩, fun j => by unfold bufAt; rw [if_neg (by omega)]⟩, fun i hi => ⟨fun hlt => ?_, fun hge => by omega⟩⟩
  have hle : m / 10 ^ i ≤ 18446744073709551615 := Nat.le_trans (Nat.div_le_self _ _) hm
  have hle1 : m / 10 ^ (i + 1) ≤ 18446744073709551615 := Nat.le_trans (Nat.div_le_self _ _) hm
  have hat : Int.toNat (20 - (i : Int) - 1) = 19 - i := by omega
  have hpos : 0 < 10 ^ (i + 1) := Nat.pow_pos (by decide)
  rw [hat]
  refine ⟨inR64 (by omega) (by omega), by decide, inRu64 (by omega), inRu64 (by omega), ⟨by omega, by omega⟩, by decide, inRu64n _ hle1, fun h0 => ⟨⟨by omega, by simp only [Int.cast_ofNat_Int]; omega⟩, fun j hj => ?_, ?_⟩, fun h0 => ?_⟩
  · rw [buf_next m i (by omega)]; rfl
  · have hm10 : m < 10 ^ (i + 1) := by
      have h0' : m / 10 ^ (i + 1) = 0 := by omega
      rcases (Nat.div_eq_zero_iff).1 h0' with h | h
      · omega
      · exact h
    have hf : (fun j => if j = 19 - i then strip1 (AV.int .u8 (IntKind.wrap .u8 (48 + ((m / 10 ^ i % 10 : Nat) : Int)))) else AV.int .u8 (bufAt m i j)) = fun j => AV.int .u8 (bufAt m (i + 1) j) := funext (buf_next m i (by omega))
    rw [hf]
    unfold dec
    rw [nd_eq (by omega) hm10 hi.2]
    have := bytes_dec m (i + 1) (by omega)
    rw [show 20 - (i + 1) = 19 - i by omega] at this
    rw [show 20 - (19 - i) = i + 1 by omega]
    exact this
  · have hge : 10 ^ (i + 1) ≤ m := by
      rcases Nat.lt_or_ge m (10 ^ (i + 1)) with h | h
      · exact absurd (by rw [Nat.div_eq_of_lt h]; rfl) h0
      · exact h
    have hi19 : i + 1 < 20 := by
      rcases Nat.lt_or_ge (i + 1) 20 with h | h
      · exact h
      · have : 10 ^ 20 ≤ 10 ^ (i + 1) := Nat.pow_le_pow_right (by decide) h
        omega
    exact ⟨inR64 (by omega) (by omega), i + 1, ⟨hi19, .inr hge⟩, by omega, ⟨rfl, by omega, by omega⟩, fun j => buf_next m i (by omega) j⟩
theorem ndF_le : ∀ k m, ndF k m ≤ k + 1
  | 0, _ => Nat.le_refl _
  | k + 1, m => by
    have := ndF_le k (m / 10)
    unfold ndF
    split <;> omega
theorem dec_len (m : Nat) : (dec m).length ≤ 21 := by
  unfold dec
  rw [decN_len]
  exact ndF_le 20 m
theorem wrapu {n : Int} (h : 0 ≤ n ∧ n ≤ 18446744073709551615) : IntKind.wrap .u64 n = n := inRu64 h
theorem fmt_neg {n : Int} (h : n < 0) : fmt n = 45 :: dec n.natAbs := if_pos h
theorem fmt_pos {n : Int} (h : ¬ n < 0) : fmt n = dec n.natAbs := if_neg h
theorem eF (n : Int) : gF n = ((decide (n < (0 : Int)) = true → InR IntKind.i64 (n + (1 : Int)) ∧ InR IntKind.i64 ((0 : Int) - (n + (1 : Int))) ∧ InR IntKind.u64 (IntKind.wrap IntKind.u64 ((0 : Int) - (n + (1 : Int))) + (1 : Int)) ∧ Known Tryd.prog [] (40 : Nat) [AV.int IntKind.u64 (IntKind.wrap IntKind.u64 ((0 : Int) - (n + (1 : Int))) + (1 : Int))] (AV.str (dec (Int.toNat (IntKind.wrap IntKind.u64 ((0 : Int) - (n + (1 : Int))) + (1 : Int))))) ∧ (↑(List.length [(45 : UInt8)] + List.length (dec (Int.toNat (IntKind.wrap IntKind.u64 ((0 : Int) - (n + (1 : Int))) + (1 : Int))))) : Int) ≤ (9223372036854775807 : Int) ∧ [(45 : UInt8)] ++ dec (Int.toNat (IntKind.wrap IntKind.u64 ((0 : Int) - (n + (1 : Int))) + (1 : Int))) = fmt n) ∧ (decide (n < (0 : Int)) = false → Known Tryd.prog [] (40 : Nat) [AV.int IntKind.u64 (IntKind.wrap IntKind.u64 n)] (AV.str (dec (Int.toNat (IntKind.wrap IntKind.u64 n)))) ∧ dec (Int.toNat (IntKind.wrap IntKind.u64 n)) = fmt n)) := by kernel_rfl
theorem kF (n : Int) (hn : -9223372036854775808 ≤ n ∧ n ≤ 9223372036854775807) : Known Tryd.prog [] 25 [.int .i64 n] (.str (fmt n)) := by
  refine Known.of (V := vf 15 fun _ => none) (fn := Tryd.f25) rfl (by kernel_rfl) (cfgD_ok _) rfl ?_
  show gF n
  rw [eF]
  simp only [decide_eq_true_eq, decide_eq_false_iff_not]
  have hd := dec_len n.natAbs
  refine ⟨fun h => ?_, fun h => ?_⟩
  · have e : IntKind.u64.wrap (0 - (n + 1)) + 1 = (n.natAbs : Int) := by rw [wrapu (by omega)]; omega
    rw [e, Int.toNat_natCast, fmt_neg h]
    exact ⟨inR64 (by omega) (by omega), inR64 (by omega) (by omega), inRu64n _ (by omega), kD _ (by omega), by simp only [List.length_cons, List.length_nil]; omega, rfl⟩
  · have e : IntKind.u64.wrap n = (n.natAbs : Int) := by rw [wrapu (by omega)]; omega
    rw [e, Int.toNat_natCast, fmt_pos h]
    exact ⟨kD _ (by omega), rfl⟩
def digs : List UInt8 := [48, 49, 50, 51, 52, 53, 54, 55, 56, 57]
theorem dig_fin : ∀ d : Fin 10, (digs.drop d.val).take 1 = [UInt8.ofNat (48 + d.val)] := by decide
theorem dig_cut (d : Nat) (h : d < 10) : List.take (Int.toNat ((d : Int) + 1 - (d : Int))) (List.drop (Int.toNat (d : Int)) digs) = [UInt8.ofNat (48 + d)] := by
  rw [show ((d : Int) + 1 - (d : Int)).toNat = 1 by omega, Int.toNat_natCast]
  exact dig_fin ⟨d, h⟩
theorem td_pos {n : Int} {i : Nat} (h : ¬ n < 0) : td n i = ((n.natAbs / 10 ^ i : Nat) : Int) := if_neg h
theorem td_neg {n : Int} {i : Nat} (h : n < 0) : td n i = 0 - ((n.natAbs / 10 ^ i : Nat) : Int) := if_pos h
theorem neg_tdiv10 (q : Nat) : (0 - (q : Int)).tdiv 10 = 0 - ((q / 10 : Nat) : Int) := by
  rw [Int.zero_sub, Int.neg_tdiv, tdiv10, Int.zero_sub]
theorem neg_tmod10 (q : Nat) : (0 - (q : Int)).tmod 10 = 0 - ((q % 10 : Nat) : Int) := by
  rw [Int.zero_sub, Int.neg_tmod, tmod10, Int.zero_sub]
theorem eFr (n : Int) : gFr n = (((n == (0 : Int)) = true → [(48 : UInt8)] = fmt n) ∧ ((n == (0 : Int)) = false → (∃ (i : Nat), (i < (20 : Nat) ∧ (i = (0 : Nat) ∨ (10 : Nat) ^ (i - (1 : Nat)) ≤ Int.natAbs n)) ∧ ((IntKind.i64 = IntKind.i64 ∧ n = n) ∧ [] = decN (Int.natAbs n) i ∧ (IntKind.i64 = IntKind.i64 ∧ n = td n i) ∧ True) ∧ True) ∧ ∀ (i : Nat), i < (20 : Nat) ∧ (i = (0 : Nat) ∨ (10 : Nat) ^ (i - (1 : Nat)) ≤ Int.natAbs n) → ((td n i != (0 : Int)) = true → (10 : Int) ≠ (0 : Int) ∧ InR IntKind.i64 (Int.tmod (td n i) (10 : Int)) ∧ (decide (Int.tmod (td n i) (10 : Int) < (0 : Int)) = true → InR IntKind.i64 ((0 : Int) - Int.tmod (td n i) (10 : Int)) ∧ InR IntKind.i64 ((0 : Int) - Int.tmod (td n i) (10 : Int) + (1 : Int)) ∧ ((0 : Int) ≤ (0 : Int) - Int.tmod (td n i) (10 : Int) ∧ (0 : Int) - Int.tmod (td n i) (10 : Int) ≤ (0 : Int) - Int.tmod (td n i) (10 : Int) + (1 : Int) ∧ (0 : Int) - Int.tmod (td n i) (10 : Int) + (1 : Int) ≤ (↑(List.length [(48 : UInt8), (49 : UInt8), (50 : UInt8), (51 : UInt8), (52 : UInt8), (53 : UInt8), (54 : UInt8), (55 : UInt8), (56 : UInt8), (57 : UInt8)]) : Int)) ∧ (↑(List.length (List.take (Int.toNat ((0 : Int) - Int.tmod (td n i) (10 : Int) + (1 : Int) - ((0 : Int) - Int.tmod (td n i) (10 : Int)))) (List.drop (Int.toNat ((0 : Int) - Int.tmod (td n i) (10 : Int))) [(48 : UInt8), (49 : UInt8), (50 : UInt8), (51 : UInt8), (52 : UInt8), (53 : UInt8), (54 : UInt8), (55 : UInt8), (56 : UInt8), (57 : UInt8)])) + List.length (decN (Int.natAbs n) i)) : Int) ≤ (9223372036854775807 : Int) ∧ (10 : Int) ≠ (0 : Int) ∧ InR IntKind.i64 (Int.tdiv (td n i) (10 : Int)) ∧ ∃ (j : Nat), (j < (20 : Nat) ∧ (j = (0 : Nat) ∨ (10 : Nat) ^ (j - (1 : Nat)) ≤ Int.natAbs n)) ∧ (20 : Nat) - j < (20 : Nat) - i ∧ ((IntKind.i64 = IntKind.i64 ∧ n = n) ∧ List.take (Int.toNat ((0 : Int) - Int.tmod (td n i) (10 : Int) + (1 : Int) - ((0 : Int) - Int.tmod (td n i) (10 : Int)))) (List.drop (Int.toNat ((0 : Int) - Int.tmod (td n i) (10 : Int))) [(48 : UInt8), (49 : UInt8), (50 : UInt8), (51 : UInt8), (52 : UInt8), (53 : UInt8), (54 : UInt8), (55 : UInt8), (56 : UInt8), (57 : UInt8)]) ++ decN (Int.natAbs n) i = decN (Int.natAbs n) j ∧ (IntKind.i64 = IntKind.i64 ∧ Int.tdiv (td n i) (10 : Int) = td n j) ∧ True) ∧ True) ∧ (decide (Int.tmod (td n i) (10 : Int) < (0 : Int)) = false → InR IntKind.i64 (Int.tmod (td n i) (10 : Int) + (1 : Int)) ∧ ((0 : Int) ≤ Int.tmod (td n i) (10 : Int) ∧ Int.tmod (td n i) (10 : Int) ≤ Int.tmod (td n i) (10 : Int) + (1 : Int) ∧ Int.tmod (td n i) (10 : Int) + (1 : Int) ≤ (↑(List.length [(48 : UInt8), (49 : UInt8), (50 : UInt8), (51 : UInt8), (52 : UInt8), (53 : UInt8), (54 : UInt8), (55 : UInt8), (56 : UInt8), (57 : UInt8)]) : Int)) ∧ (↑(List.length (List.take (Int.toNat (Int.tmod (td n i) (10 : Int) + (1 : Int) - Int.tmod (td n i) (10 : Int))) (List.drop (Int.toNat (Int.tmod (td n i) (10 : Int))) [(48 : UInt8), (49 : UInt8), (50 : UInt8), (51 : UInt8), (52 : UInt8), (53 : UInt8), (54 : UInt8), (55 : UInt8), (56 : UInt8), (57 : UInt8)])) + List.length (decN (Int.natAbs n) i)) : Int) ≤ (9223372036854775807 : Int) ∧ (10 : Int) ≠ (0 : Int) ∧ InR IntKind.i64 (Int.tdiv (td n i) (10 : Int)) ∧ ∃ (j : Nat), (j < (20 : Nat) ∧ (j = (0 : Nat) ∨ (10 : Nat) ^ (j - (1 : Nat)) ≤ Int.natAbs n)) ∧ (20 : Nat) - j < (20 : Nat) - i ∧ ((IntKind.i64 = IntKind.i64 ∧ n = n) ∧ List.take (Int.toNat (Int.tmod (td n i) (10 : Int) + (1 : Int) - Int.tmod (td n i) (10 : Int))) (List.drop (Int.toNat (Int.tmod (td n i) (10 : Int))) [(48 : UInt8), (49 : UInt8), (50 : UInt8), (51 : UInt8), (52 : UInt8), (53 : UInt8), (54 : UInt8), (55 : UInt8), (56 : UInt8), (57 : UInt8)]) ++ decN (Int.natAbs n) i = decN (Int.natAbs n) j ∧ (IntKind.i64 = IntKind.i64 ∧ Int.tdiv (td n i) (10 : Int) = td n j) ∧ True) ∧ True)) ∧ ((td n i != (0 : Int)) = false → (decide (n < (0 : Int)) = true → (↑(List.length [(45 : UInt8)] + List.length (decN (Int.natAbs n) i)) : Int) ≤ (9223372036854775807 : Int) ∧ [(45 : UInt8)] ++ decN (Int.natAbs n) i = fmt n) ∧ (decide (n < (0 : Int)) = false → decN (Int.natAbs n) i = fmt n)))) := by kernel_rfl
theorem kFr (n : Int) (hn : -9223372036854775808 ≤ n ∧ n ≤ 9223372036854775807) : Known Tryd.prog [] 27 [.int .i64 n] (.str (fmt n)) := by
  refine Known.of (V := vf 30 (invFr n)) (fn := Tryd.f27) rfl (by kernel_rfl) (cfgD_ok _) rfl ?_
  show gFr n
  rw [eFr]
  simp only [and_true, true_and, decide_eq_true_eq, decide_eq_false_iff_not, beq_iff_eq, beq_eq_false_iff_ne, bne_iff_ne, bne_eq_false_iff_eq, ne_eq]
  have hM : n.natAbs ≤ 9223372036854775808 := by omega
  refine ⟨fun h => by subst h; rfl, fun h0 => ⟨⟨0, ⟨by omega, .inl rfl⟩, rfl, ?_⟩, fun i hi => ⟨fun hne => ?_, fun he => ?_⟩⟩⟩
  · by_cases h : n < 0
    · rw [td_neg h]; simp; omega
    · rw [td_pos h]; simp; omega
  · have hq : n.natAbs / 10 ^ i ≠ 0 := by
      by_cases h : n < 0
      · rw [td_neg h] at hne; omega
      · rw [td_pos h] at hne; omega
    have hge : 10 ^ i ≤ n.natAbs := by
      rcases Nat.lt_or_ge n.natAbs (10 ^ i) with h | h
      · exact absurd (Nat.div_eq_of_lt h) hq
      · exact h
    have hi19 : i < 19 := by
      rcases Nat.lt_or_ge i 19 with h | h
      · exact h
      · have : 10 ^ 19 ≤ 10 ^ i := Nat.pow_le_pow_right (by decide) h
        omega
    have hle : n.natAbs / 10 ^ i ≤ 9223372036854775808 := Nat.le_trans (Nat.div_le_self _ _) hM
    have hle1 : n.natAbs / 10 ^ (i + 1) ≤ 9223372036854775807 := by
      rw [← next10]
      omega
    have hd : n.natAbs / 10 ^ i % 10 < 10 := Nat.mod_lt _ (by decide)
    have hcut := dig_cut _ hd
    have hfr := dec_front i n.natAbs
    have hl1 := decN_len i n.natAbs
    by_cases h : n < 0
    · rw [td_neg h, neg_tmod10, neg_tdiv10, next10]
      refine ⟨by decide, inR64 (by omega) (by omega), fun h2 => ?_, fun h2 => ?_⟩
      · have e : 0 - (0 - ((n.natAbs / 10 ^ i % 10 : Nat) : Int)) = ((n.natAbs / 10 ^ i % 10 : Nat) : Int) := by omega
        rw [e]
        change List.take _ (List.drop _ [48, 49, 50, 51, 52, 53, 54, 55, 56, 57]) = _ at hcut
        rw [hcut]
        refine ⟨inR64 (by omega) (by omega), inR64 (by omega) (by omega), ⟨by omega, by omega, by simp only [List.length_cons, List.length_nil]; omega⟩, by rw [hl1]; simp only [List.length_cons, List.length_nil]; omega, by decide, ?_, i + 1, ⟨by omega, .inr hge⟩, by omega, hfr.symm, (td_neg h).symm⟩
        generalize n.natAbs / 10 ^ (i + 1) = z at *
        exact inR64 (by omega) (by omega)
      · have e : 0 - ((n.natAbs / 10 ^ i % 10 : Nat) : Int) = ((n.natAbs / 10 ^ i % 10 : Nat) : Int) := by omega
        rw [e]
        change List.take _ (List.drop _ [48, 49, 50, 51, 52, 53, 54, 55, 56, 57]) = _ at hcut
        rw [hcut]
        refine ⟨inR64 (by omega) (by omega), ⟨by omega, by omega, by simp only [List.length_cons, List.length_nil]; omega⟩, by rw [hl1]; simp only [List.length_cons, List.length_nil]; omega, by decide, ?_, i + 1, ⟨by omega, .inr hge⟩, by omega, hfr.symm, (td_neg h).symm⟩
        generalize n.natAbs / 10 ^ (i + 1) = z at *
        exact inR64 (by omega) (by omega)
    · rw [td_pos h, tmod10, tdiv10, next10]
      refine ⟨by decide, inR64 (by omega) (by omega), fun h2 => by omega, fun h2 => ?_⟩
      change List.take _ (List.drop _ [48, 49, 50, 51, 52, 53, 54, 55, 56, 57]) = _ at hcut
      rw [hcut]
      refine ⟨inR64 (by omega) (by omega), ⟨by omega, by omega, by simp only [List.length_cons, List.length_nil]; omega⟩, by rw [hl1]; simp only [List.length_cons, List.length_nil]; omega, by decide, ?_, i + 1, ⟨by omega, .inr hge⟩, by omega, hfr.symm, (td_pos h).symm⟩
      generalize n.natAbs / 10 ^ (i + 1) = z at *
      exact inR64 (by omega) (by omega)
  · have hq : n.natAbs / 10 ^ i = 0 := by
      by_cases h : n < 0
      · rw [td_neg h] at he; omega
      · rw [td_pos h] at he; omega
    have hpos : 0 < 10 ^ i := Nat.pow_pos (by decide)
    have hlt : n.natAbs < 10 ^ i := by
      rcases (Nat.div_eq_zero_iff).1 hq with h | h
      · omega
      · exact h
    have hi1 : i ≠ 0 := by
      rintro rfl
      simp at hlt
      omega
    have hdec : decN n.natAbs i = dec n.natAbs := by
      unfold dec
      rw [nd_eq (i := i - 1) (by omega) (by rw [show i - 1 + 1 = i by omega]; exact hlt) (by
        rcases hi.2 with h | h
        · omega
        · exact .inr h), show i - 1 + 1 = i by omega]
    have hl1 := decN_len i n.natAbs
    rw [hl1, hdec]
    exact ⟨fun h => ⟨by simp only [List.length_cons, List.length_nil]; omega, by rw [fmt_neg h]; rfl⟩, fun h => (fmt_pos h).symm⟩
theorem ndF_spec : ∀ k m, m < 10 ^ (k + 1) → ∃ i, i ≤ k ∧ ndF k m = i + 1 ∧ m < 10 ^ (i + 1) ∧ (i = 0 ∨ 10 ^ i ≤ m)
  | 0, m, h => ⟨0, Nat.le_refl _, rfl, h, .inl rfl⟩
  | k + 1, m, h => by
    unfold ndF
    by_cases hm : m < 10
    · rw [if_pos hm]
      exact ⟨0, by omega, rfl, by simpa using hm, .inl rfl⟩
    · rw [if_neg hm]
      obtain ⟨i, h1, h2, h3, h4⟩ := ndF_spec k (m / 10) (by rw [Nat.pow_succ] at h; omega)
      refine ⟨i + 1, by omega, by rw [h2], by rw [Nat.pow_succ]; omega, .inr ?_⟩
      rcases h4 with rfl | h4
      · simp; omega
      · rw [Nat.pow_succ]; omega
theorem numN_app (a b : List UInt8) : ∀ k, k ≤ a.length → numN (a ++ b) k = numN a k
  | 0, _ => rfl
  | k + 1, h => by
    rw [numN, numN, numN_app a b k (by omega)]
    have : (a ++ b).getD k 0 = a.getD k 0 := by
      rw [List.getD_eq_getElem?_getD, List.getElem?_append_left (by omega)]
      rfl
    rw [this]
theorem byte48 (d : Nat) (h : d < 10) : (UInt8.ofNat (48 + d)).toNat = 48 + d := by
  rw [UInt8.toNat_ofNat']
  omega
theorem numN_dec : ∀ (k m : Nat), numN (decN m k) k = ((m % 10 ^ k : Nat) : Int)
  | 0, m => by simp [numN, Nat.mod_one]
  | k + 1, m => by
    have hl := decN_len k (m / 10)
    rw [decN, numN, numN_app _ _ k (by omega), numN_dec k (m / 10)]
    have e : (decN (m / 10) k ++ [UInt8.ofNat (48 + m % 10)]).getD k 0 = UInt8.ofNat (48 + m % 10) := by
      rw [List.getD_eq_getElem?_getD, List.getElem?_append_right (by omega), hl]
      simp
    rw [e, byte48 _ (Nat.mod_lt _ (by decide)), Nat.pow_succ, Nat.mul_comm, Nat.mod_mul]
    push_cast
    omega
theorem decN_dig (k m j : Nat) (h : j < k) : (decN m k).getD j 0 = UInt8.ofNat (48 + m / 10 ^ (k - 1 - j) % 10) := by
  rw [List.getD_eq_getElem?_getD, decN_get k m j h]
  rfl
theorem dec_num (d : List UInt8) : ∀ k, k ≤ d.length → (∀ j, j < k → isDig (d.getD j 0) = true) → decN (numN d k).toNat k = d.take k
  | 0, _, _ => rfl
  | k + 1, hk, hd => by
    have ih := dec_num d k (by omega) fun j hj => hd j (by omega)
    have hr := numN_rng d k fun j hj => hd j (by omega)
    have h2 := (dig_iff _).1 (hd k (by omega))
    have hkl : k < d.length := by omega
    have e0 : d.getD k 0 = d[k] := by simp [hkl]
    rw [decN, numN]
    have e1 : (numN d k * 10 + (((d.getD k 0).toNat : Int) - 48)).toNat / 10 = (numN d k).toNat := by omega
    have e2 : (numN d k * 10 + (((d.getD k 0).toNat : Int) - 48)).toNat % 10 = (d.getD k 0).toNat - 48 := by omega
    rw [e1, e2, ih, List.take_succ_eq_append_getElem hkl, ← e0]
    congr 2
    apply UInt8.toNat_inj.1
    rw [UInt8.toNat_ofNat']
    have := (d.getD k 0).toNat_lt
    omega
theorem parse_zero {l : List UInt8} (h : (parse l).2 ≠ 0) : (parse l).1 = 0 := by
  unfold parse at h ⊢
  split
  · rfl
  · rename_i h1
    split
    · rfl
    · rename_i h2
      split
      · rfl
      · rename_i h3
        rw [if_neg h1, if_neg h2, if_neg h3] at h
        exact absurd rfl h
theorem parse_ok {l : List UInt8} (h : (parse l).2 = 0) : notat l = true ∧ ¬ 10 < (strip l).length ∧ (parse l).1 = signed l ∧ ¬ signed l < -2147483648 ∧ ¬ 2147483647 < signed l := by
  unfold parse at h ⊢
  split at h
  · simp at h
  · rename_i h1
    split at h
    · simp at h
    · rename_i h2
      split at h
      · simp at h
      · rename_i h3
        rw [if_neg h1, if_neg h2, if_neg h3]
        exact ⟨by simpa using h1, h2, rfl, by omega⟩
theorem fmt_parse {l : List UInt8} (h : (parse l).2 = 0) : fmt (parse l).1 = l := by
  obtain ⟨h1, h2, h3, h4⟩ := parse_ok h
  rw [h3]
  have hd := notat_dig h1
  have h0 := notat_len h1
  have hr := numN_rng (strip l) (strip l).length hd
  have hdn := dec_num (strip l) (strip l).length (Nat.le_refl _) hd
  rw [List.take_length] at hdn
  have hdec : dec (numN (strip l) (strip l).length).toNat = strip l := by
    unfold dec
    obtain ⟨k, hk⟩ : ∃ k, (strip l).length = k + 1 := ⟨(strip l).length - 1, by omega⟩
    rw [hk] at hdn hr ⊢
    have hpow : ((10 ^ (k + 1) : Nat) : Int) = (10 : Int) ^ (k + 1) := by norm_cast
    have hpow' : ((10 ^ k : Nat) : Int) = (10 : Int) ^ k := by norm_cast
    rw [nd_eq (i := k) (by omega) (by omega) ?_]
    · exact hdn
    · rcases (notat_iff l).1 h1 with ⟨a, b⟩ | ⟨_, _, c⟩
      · rw [strip_n (by omega)] at hk
        left; omega
      · right
        have hbig := numN_big (m := strip l) (by have := (dig_iff _).1 (hd 0 (by omega)); omega) k (fun j hj => hd j (by omega))
        omega
  by_cases h45 : (l.getD 0 0).toNat = 45
  · have hs := strip_y h45
    rw [signed_y h45]
    have hpos : 0 < numN (strip l) (strip l).length := by
      rcases (notat_iff l).1 h1 with ⟨a, b⟩ | ⟨_, _, c⟩
      · omega
      · obtain ⟨k, hk⟩ : ∃ k, (strip l).length = k + 1 := ⟨(strip l).length - 1, by omega⟩
        rw [hk]
        have hbig := numN_big (m := strip l) (by have := (dig_iff _).1 (hd 0 (by omega)); omega) k (fun j hj => hd j (by omega))
        have : 0 < (10 : Int) ^ k := Int.pow_pos (by decide)
        omega
    rw [fmt_neg (by omega)]
    have e : (0 - numN (strip l) (strip l).length).natAbs = (numN (strip l) (strip l).length).toNat := by omega
    rw [e, hdec, hs]
    match l, h45 with
    | c :: l', h45 =>
      have : c = 45 := UInt8.toNat_inj.1 (by simpa using h45)
      rw [this]; rfl
  · have hs := strip_n h45
    rw [signed_n h45, fmt_pos (by omega)]
    have e : (numN (strip l) (strip l).length).natAbs = (numN (strip l) (strip l).length).toNat := by omega
    rw [e, hdec, hs]
theorem parse_fmt {w : Int} (hw : -2147483648 ≤ w ∧ w ≤ 2147483647) : parse (fmt w) = (w, 0) := by
  obtain ⟨i, h1, h2, h3, h4⟩ := ndF_spec 20 w.natAbs (by omega)
  have hi : i ≤ 9 := by
    rcases Nat.lt_or_ge 9 i with h | h
    · have : 10 ^ 10 ≤ 10 ^ i := Nat.pow_le_pow_right (by decide) h
      rcases h4 with h4 | h4 <;> omega
    · exact h
  have hdec : dec w.natAbs = decN w.natAbs (i + 1) := by unfold dec nd; rw [h2]
  have hlen : (dec w.natAbs).length = i + 1 := by rw [hdec, decN_len]
  have hnum : numN (dec w.natAbs) (i + 1) = (w.natAbs : Int) := by rw [hdec, numN_dec, Nat.mod_eq_of_lt h3]
  have hdig : ∀ j, j < i + 1 → ((dec w.natAbs).getD j 0).toNat = 48 + w.natAbs / 10 ^ (i + 1 - 1 - j) % 10 := fun j hj => by
    rw [hdec, decN_dig _ _ _ hj, byte48 _ (Nat.mod_lt _ (by decide))]
  have hisd : ∀ j, j < (dec w.natAbs).length → isDig ((dec w.natAbs).getD j 0) = true := fun j hj => by
    rw [dig_iff, hdig j (by omega)]
    have : w.natAbs / 10 ^ (i + 1 - 1 - j) % 10 < 10 := Nat.mod_lt _ (by decide)
    omega
  have hfirst : w.natAbs ≠ 0 → ((dec w.natAbs).getD 0 0).toNat ≠ 48 := fun hne => by
    rw [hdig 0 (by omega)]
    simp only [Nat.add_sub_cancel, Nat.sub_zero]
    have hp : 0 < 10 ^ i := Nat.pow_pos (by decide)
    have h5 : w.natAbs / 10 ^ i < 10 := by
      rw [Nat.div_lt_iff_lt_mul hp, Nat.mul_comm, ← Nat.pow_succ]; exact h3
    have h6 : 1 ≤ w.natAbs / 10 ^ i := by
      rw [Nat.le_div_iff_mul_le hp]
      rcases h4 with rfl | h4 <;> simp <;> omega
    omega
  by_cases hneg : w < 0
  · rw [fmt_neg hneg]
    have h45 : ((45 :: dec w.natAbs : List UInt8).getD 0 0).toNat = 45 := rfl
    have hs : strip (45 :: dec w.natAbs) = dec w.natAbs := strip_y h45
    have hsg := signed_y h45
    rw [hs, hlen, hnum] at hsg
    have hn : notat (45 :: dec w.natAbs) = true := (notat_iff _).2 (.inr (by rw [hs]; exact ⟨hisd, by omega, hfirst (by omega)⟩))
    rw [parse_in hn (by rw [hs]; omega) (by omega), hsg]
    congr 1
    omega
  · rw [fmt_pos hneg]
    have h45 : ¬ ((dec w.natAbs).getD 0 0).toNat = 45 := by rw [hdig 0 (by omega)]; omega
    have hs : strip (dec w.natAbs) = dec w.natAbs := strip_n h45
    have hsg := signed_n h45
    rw [hs, hlen, hnum] at hsg
    have hn : notat (dec w.natAbs) = true := by
      refine (notat_iff _).2 ?_
      by_cases h0 : w.natAbs = 0
      · left
        rw [h0]
        exact ⟨rfl, rfl⟩
      · right
        rw [hs]
        exact ⟨hisd, by omega, hfirst h0⟩
    rw [parse_in hn (by rw [hs]; omega) (by omega), hsg]
    congr 1
    omega
end Go.Proofs.S52
