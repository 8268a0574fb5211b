import Derived.Test.YtmlgkljbhidlhaaG09c
import Derived.Test.YtmlgkljbhidlhaaP09b
namespace Go.Proofs.S09
open Go Go.AV Go.Proofs.Dec
theorem k41 (l : List UInt8) (n : Int) (hl : l.length ≤ 9223372036854775807) : Known Try.prog [] 41 [.str l, .int .u8 n] (.int .i64 (cntI l n.toNat.toUInt8)) :=
  .inr (ext_count (fn := Try.f41) l n rfl (by kernel_rfl) (by kernel_rfl) (by kernel_rfl) (by kernel_rfl) hl)
theorem e27 (l : List UInt8) : g27 l = ((↑(List.length [(10 : UInt8)]) : Int) ≤ (9223372036854775807 : Int) ∧ (((↑(List.length [(10 : UInt8)]) : Int) == (0 : Int)) = true → Known Try.prog [] (40 : Nat) [AV.str l] (AV.int IntKind.i64 (-1 : Int)) ∧ InR IntKind.i64 ((-1 : Int) + (1 : Int)) ∧ IntKind.i64 = IntKind.i64 ∧ (-1 : Int) + (1 : Int) = cntI l (10 : UInt8)) ∧ (((↑(List.length [(10 : UInt8)]) : Int) == (0 : Int)) = false → (↑(List.length [(10 : UInt8)]) : Int) ≤ (9223372036854775807 : Int) ∧ (((↑(List.length [(10 : UInt8)]) : Int) == (1 : Int)) = true → inIx (0 : Int) (List.length [(10 : UInt8)]) ∧ Known Try.prog [] (41 : Nat) [AV.str l, AV.int IntKind.u8 (↑(UInt8.toNat (List.getD [(10 : UInt8)] (Int.toNat (0 : Int)) (0 : UInt8))) : Int)] (AV.int IntKind.i64 (cntI l (Nat.toUInt8 (Int.toNat (↑(UInt8.toNat (List.getD [(10 : UInt8)] (Int.toNat (0 : Int)) (0 : UInt8))) : Int))))) ∧ IntKind.i64 = IntKind.i64 ∧ cntI l (Nat.toUInt8 (Int.toNat (↑(UInt8.toNat (List.getD [(10 : UInt8)] (Int.toNat (0 : Int)) (0 : UInt8))) : Int))) = cntI l (10 : UInt8)) ∧ (((↑(List.length [(10 : UInt8)]) : Int) == (1 : Int)) = false → (∃ (i : Unit), False ∧ (l = l ∧ [(10 : UInt8)] = [(10 : UInt8)] ∧ (IntKind.i64 = IntKind.i64 ∧ (0 : Int) = (0 : Int)) ∧ True) ∧ True) ∧ ∀ (i : Unit), False → Known Try.prog [] (42 : Nat) [AV.str l, AV.str [(10 : UInt8)]] (AV.int IntKind.i64 (-1 : Int)) ∧ (((-1 : Int) == (-1 : Int)) = true → IntKind.i64 = IntKind.i64 ∧ (0 : Int) = cntI l (10 : UInt8)) ∧ (((-1 : Int) == (-1 : Int)) = false → InR IntKind.i64 ((0 : Int) + (1 : Int)) ∧ (↑(List.length [(10 : UInt8)]) : Int) ≤ (9223372036854775807 : Int) ∧ InR IntKind.i64 ((-1 : Int) + (↑(List.length [(10 : UInt8)]) : Int)) ∧ ((0 : Int) ≤ (-1 : Int) + (↑(List.length [(10 : UInt8)]) : Int) ∧ (-1 : Int) + (↑(List.length [(10 : UInt8)]) : Int) ≤ (↑(List.length l) : Int) ∧ (↑(List.length l) : Int) ≤ (↑(List.length l) : Int)) ∧ ∃ (j : Unit), False ∧ (0 : Nat) < (0 : Nat) ∧ (List.take (Int.toNat ((↑(List.length l) : Int) - ((-1 : Int) + (↑(List.length [(10 : UInt8)]) : Int)))) (List.drop (Int.toNat ((-1 : Int) + (↑(List.length [(10 : UInt8)]) : Int))) l) = l ∧ [(10 : UInt8)] = [(10 : UInt8)] ∧ (IntKind.i64 = IntKind.i64 ∧ (0 : Int) + (1 : Int) = (0 : Int)) ∧ True) ∧ True)))) := by kernel_rfl
theorem k27 (l : List UInt8) (hl : l.length ≤ 9223372036854775807) : Known Try.prog [] 27 [.str l, .str [10]] (.int .i64 (cntI l 10)) := by
  refine Known.of (V := vp 34 (inv27 l)) (fn := Try.f27) rfl (by kernel_rfl) (cfg_ok _) rfl ?_
  show g27 l
  rw [e27]
  simp only [and_true, true_and, implies_true, Bool.or_eq_true, Bool.and_eq_true, Bool.or_eq_false_iff, Bool.and_eq_false_iff, Bool.not_eq_true', decide_eq_true_eq, decide_eq_false_iff_not, Bool.not_eq_false', imp_self, beq_iff_eq, beq_eq_false_iff_ne, bne_iff_ne, bne_eq_false_iff_eq, ne_eq, Decidable.not_not]
  refine ⟨by decide, fun h => absurd h (by decide), fun _ => ⟨by decide, fun _ => ⟨⟨by decide, by decide⟩, k41 l 10 hl, rfl⟩, fun h => absurd (by decide) h⟩⟩
theorem e43 (l : List UInt8) (c : Int) : g43 l c = ((↑(List.length l) : Int) ≤ (9223372036854775807 : Int) ∧ InR IntKind.i64 ((↑(List.length l) : Int) - (1 : Int)) ∧ (∃ (i : Nat), (i ≤ List.length l ∧ lastN l c (List.length l) = lastN l c i) ∧ (l = l ∧ (IntKind.u8 = IntKind.u8 ∧ c = c) ∧ (IntKind.i64 = IntKind.i64 ∧ (↑(List.length l) : Int) - (1 : Int) = (↑i : Int) - (1 : Int)) ∧ True) ∧ True) ∧ ∀ (i : Nat), i ≤ List.length l ∧ lastN l c (List.length l) = lastN l c i → (decide ((0 : Int) ≤ (↑i : Int) - (1 : Int)) = true → inIx ((↑i : Int) - (1 : Int)) (List.length l) ∧ (((↑(UInt8.toNat (List.getD l (Int.toNat ((↑i : Int) - (1 : Int))) (0 : UInt8))) : Int) == c) = true → IntKind.i64 = IntKind.i64 ∧ (↑i : Int) - (1 : Int) = lastN l c (List.length l)) ∧ (((↑(UInt8.toNat (List.getD l (Int.toNat ((↑i : Int) - (1 : Int))) (0 : UInt8))) : Int) == c) = false → InR IntKind.i64 ((↑i : Int) - (1 : Int) - (1 : Int)) ∧ ∃ (j : Nat), (j ≤ List.length l ∧ lastN l c (List.length l) = lastN l c j) ∧ j < i ∧ (l = l ∧ (IntKind.u8 = IntKind.u8 ∧ c = c) ∧ (IntKind.i64 = IntKind.i64 ∧ (↑i : Int) - (1 : Int) - (1 : Int) = (↑j : Int) - (1 : Int)) ∧ True) ∧ True)) ∧ (decide ((0 : Int) ≤ (↑i : Int) - (1 : Int)) = false → IntKind.i64 = IntKind.i64 ∧ (-1 : Int) = lastN l c (List.length l))) := by kernel_rfl
theorem k43 (l : List UInt8) (c : Int) (hl : l.length ≤ 9223372036854775807) : Known Try.prog [] 43 [.str l, .int .u8 c] (.int .i64 (lastN l c l.length)) := by
  refine Known.of (V := vp 19 (inv43 l c)) (fn := Try.f43) rfl (by kernel_rfl) (cfg_ok _) rfl ?_
  show g43 l c
  rw [e43]
  simp only [and_true, true_and, implies_true, Bool.or_eq_true, Bool.and_eq_true, Bool.or_eq_false_iff, Bool.and_eq_false_iff, Bool.not_eq_true', decide_eq_true_eq, decide_eq_false_iff_not, Bool.not_eq_false', imp_self, beq_iff_eq, beq_eq_false_iff_ne, bne_iff_ne, bne_eq_false_iff_eq, ne_eq, Decidable.not_not]
  simp only [ch_def]
  refine ⟨by omega, inR64 (by omega) (by omega), ⟨l.length, ⟨Nat.le_refl _, rfl⟩, rfl⟩, fun i hi => ⟨fun h => ?_, fun h => ?_⟩⟩
  · obtain ⟨k, rfl⟩ : ∃ k, i = k + 1 := ⟨i - 1, by omega⟩
    have e : (((k + 1 : Nat) : Int) - 1).toNat = k := by omega
    rw [e, hi.2, lastN]
    refine ⟨⟨by omega, by omega⟩, fun h2 => ?_, fun h2 => ⟨inR64 (by omega) (by omega), k, ⟨by omega, ?_⟩, by omega, by omega⟩⟩
    · rw [if_pos h2]; omega
    · rw [if_neg h2]
  · obtain rfl : i = 0 := by omega
    rw [hi.2]
    rfl
theorem e28 (l : List UInt8) (c : Int) : g28 l c = (Known Try.prog [] (43 : Nat) [AV.str l, AV.int IntKind.u8 c] (AV.int IntKind.i64 (lastN l c (List.length l))) ∧ IntKind.i64 = IntKind.i64 ∧ lastN l c (List.length l) = lastN l c (List.length l)) := by kernel_rfl
theorem k28 (l : List UInt8) (c : Int) (hl : l.length ≤ 9223372036854775807) : Known Try.prog [] 28 [.str l, .int .u8 c] (.int .i64 (lastN l c l.length)) := by
  refine Known.of (V := vp 8 fun _ => none) (fn := Try.f28) rfl (by kernel_rfl) (cfg_ok _) rfl ?_
  show g28 l c
  rw [e28]
  exact ⟨k43 l c hl, rfl, rfl⟩
theorem pre_take (l : List UInt8) (a : Int) : List.take (a - 0).toNat (List.drop (Int.toNat 0) l) = l.take a.toNat := by rw [Int.sub_zero]; rfl
theorem last_take (l : List UInt8) (c : Int) (a : Nat) : ∀ k, k ≤ a → lastN (l.take a) c k = lastN l c k
  | 0, _ => rfl
  | k + 1, h => by
    have e : ch (l.take a) k = ch l k := by
      have : k < a := by omega
      simp [ch, List.getD_eq_getElem?_getD, List.getElem?_take, this]
    rw [lastN, lastN, e, last_take l c a k (by omega)]
theorem last_rng (l : List UInt8) (c : Int) : ∀ k, -1 ≤ lastN l c k ∧ lastN l c k < k
  | 0 => by simp [lastN]
  | k + 1 => by
    have := last_rng l c k
    rw [lastN]
    split <;> omega
theorem cnt_step (l : List UInt8) (i : Nat) (hi : i < l.length) : cntI (l.take (i + 1)) 10 = if ch l i = 10 then cntI (l.take i) 10 + 1 else cntI (l.take i) 10 := by
  unfold cntI
  rw [List.take_succ_eq_append_getElem hi, List.foldl_append]
  have e : l.getD i 0 = l[i] := by simp [hi]
  unfold ch
  rw [e]
  simp only [List.foldl_cons, List.foldl_nil]
  by_cases h : l[i] = 10
  · rw [h]; rfl
  · have h2 : ¬ ((l[i].toNat : Nat) : Int) = 10 := fun hh => h (UInt8.toNat_inj.1 (by show l[i].toNat = 10; omega))
    rw [if_neg h2, if_neg (by simp [h])]
theorem cnt_take (l : List UInt8) (i : Nat) : 0 ≤ cntI (l.take i) 10 ∧ cntI (l.take i) 10 ≤ l.length := by
  have := cnt_rng 10 (l.take i) 0
  have h2 : (l.take i).length ≤ l.length := by rw [List.length_take]; omega
  unfold cntI
  omega
theorem pos_bad {l : List UInt8} {a : Int} (h : a < 0 ∨ (l.length : Int) < a) : pos l a = (0, 0, false) := if_pos h
theorem pos_ok {l : List UInt8} {a : Int} (h : ¬ (a < 0 ∨ (l.length : Int) < a)) : pos l a = (1 + cntI (l.take a.toNat) 10, a - lastN l 10 a.toNat, true) := if_neg h
theorem e15 (l : List UInt8) (a : Int) : g15 l a = (((!decide (a < (0 : Int))) = true → (!decide (a < (0 : Int))) = true) ∧ ((!decide (a < (0 : Int))) = true → (↑(List.length l) : Int) ≤ (9223372036854775807 : Int)) ∧ ((!decide (a < (0 : Int))) = true → (!decide (a < (0 : Int))) = true) ∧ ((!decide (a < (0 : Int))) = true → (!decide (a < (0 : Int))) = true) ∧ ((!decide (a < (0 : Int))) = true → (!decide (a < (0 : Int))) = true) ∧ ((decide (a < (0 : Int)) || decide ((↑(List.length l) : Int) < a)) = true → (IntKind.i64 = IntKind.i64 ∧ (0 : Int) = Prod.fst (pos l a)) ∧ (IntKind.i64 = IntKind.i64 ∧ (0 : Int) = Prod.fst (Prod.snd (pos l a))) ∧ false = Prod.snd (Prod.snd (pos l a)) ∧ True) ∧ ((decide (a < (0 : Int)) || decide ((↑(List.length l) : Int) < a)) = false → ((0 : Int) ≤ (0 : Int) ∧ (0 : Int) ≤ a ∧ a ≤ (↑(List.length l) : Int)) ∧ Known Try.prog [] (27 : Nat) [AV.str (List.take (Int.toNat (a - (0 : Int))) (List.drop (Int.toNat (0 : Int)) l)), AV.str [(10 : UInt8)]] (AV.int IntKind.i64 (cntI (List.take (Int.toNat (a - (0 : Int))) (List.drop (Int.toNat (0 : Int)) l)) (List.getD [(10 : UInt8)] (0 : Nat) (0 : UInt8)))) ∧ InR IntKind.i64 ((1 : Int) + cntI (List.take (Int.toNat (a - (0 : Int))) (List.drop (Int.toNat (0 : Int)) l)) (List.getD [(10 : UInt8)] (0 : Nat) (0 : UInt8))) ∧ Known Try.prog [] (28 : Nat) [AV.str (List.take (Int.toNat (a - (0 : Int))) (List.drop (Int.toNat (0 : Int)) l)), AV.int IntKind.u8 (10 : Int)] (AV.int IntKind.i64 (lastN (List.take (Int.toNat (a - (0 : Int))) (List.drop (Int.toNat (0 : Int)) l)) (10 : Int) (List.length (List.take (Int.toNat (a - (0 : Int))) (List.drop (Int.toNat (0 : Int)) l))))) ∧ InR IntKind.i64 (a - lastN (List.take (Int.toNat (a - (0 : Int))) (List.drop (Int.toNat (0 : Int)) l)) (10 : Int) (List.length (List.take (Int.toNat (a - (0 : Int))) (List.drop (Int.toNat (0 : Int)) l)))) ∧ (IntKind.i64 = IntKind.i64 ∧ (1 : Int) + cntI (List.take (Int.toNat (a - (0 : Int))) (List.drop (Int.toNat (0 : Int)) l)) (List.getD [(10 : UInt8)] (0 : Nat) (0 : UInt8)) = Prod.fst (pos l a)) ∧ (IntKind.i64 = IntKind.i64 ∧ a - lastN (List.take (Int.toNat (a - (0 : Int))) (List.drop (Int.toNat (0 : Int)) l)) (10 : Int) (List.length (List.take (Int.toNat (a - (0 : Int))) (List.drop (Int.toNat (0 : Int)) l))) = Prod.fst (Prod.snd (pos l a))) ∧ true = Prod.snd (Prod.snd (pos l a)) ∧ True)) := by kernel_rfl
theorem k15 (l : List UInt8) (a : Int) (hl : l.length ≤ 400) : Known Try.prog [] 15 [.str l, .int .i64 a] (.tup [.int .i64 (pos l a).1, .int .i64 (pos l a).2.1, .bool (pos l a).2.2]) := by
  refine Known.of (V := vp 26 fun _ => none) (fn := Try.f15) rfl (by kernel_rfl) (cfg_ok _) rfl ?_
  show g15 l a
  rw [e15]
  simp only [and_true, true_and, implies_true, Bool.or_eq_true, Bool.and_eq_true, Bool.or_eq_false_iff, Bool.and_eq_false_iff, Bool.not_eq_true', decide_eq_true_eq, decide_eq_false_iff_not, Bool.not_eq_false', imp_self, beq_iff_eq, beq_eq_false_iff_ne, bne_iff_ne, bne_eq_false_iff_eq, ne_eq, Decidable.not_not]
  refine ⟨fun _ => by omega, fun h => by rw [pos_bad h]; exact ⟨rfl, rfl, rfl⟩, fun h => ?_⟩
  have hlen : (l.take a.toNat).length = a.toNat := by rw [List.length_take]; omega
  have hc := cnt_take l a.toNat
  have hr := last_rng l 10 a.toNat
  have h10 : (([10] : List UInt8).getD 0 0) = 10 := rfl
  rw [pos_ok (by omega), pre_take, hlen, last_take _ _ _ _ (Nat.le_refl _), h10]
  have k28' := k28 (l.take a.toNat) 10 (by omega)
  rw [hlen, last_take _ _ _ _ (Nat.le_refl _)] at k28'
  exact ⟨⟨by omega, by omega, by omega⟩, k27 _ (by omega), inR64 (by omega) (by omega), k28', inR64 (by omega) (by omega), rfl, rfl, rfl⟩
theorem e16 (l : List UInt8) (a : Int) : g16 l a = (((!decide (a < (0 : Int))) = true → (!decide (a < (0 : Int))) = true) ∧ ((!decide (a < (0 : Int))) = true → (↑(List.length l) : Int) ≤ (9223372036854775807 : Int)) ∧ ((!decide (a < (0 : Int))) = true → (!decide (a < (0 : Int))) = true) ∧ ((!decide (a < (0 : Int))) = true → (!decide (a < (0 : Int))) = true) ∧ ((!decide (a < (0 : Int))) = true → (!decide (a < (0 : Int))) = true) ∧ ((decide (a < (0 : Int)) || decide ((↑(List.length l) : Int) < a)) = true → (IntKind.i64 = IntKind.i64 ∧ (0 : Int) = Prod.fst (pos l a)) ∧ (IntKind.i64 = IntKind.i64 ∧ (0 : Int) = Prod.fst (Prod.snd (pos l a))) ∧ false = Prod.snd (Prod.snd (pos l a)) ∧ True) ∧ ((decide (a < (0 : Int)) || decide ((↑(List.length l) : Int) < a)) = false → (∃ (i : Nat), (↑i : Int) ≤ a ∧ (l = l ∧ (IntKind.i64 = IntKind.i64 ∧ a = a) ∧ (IntKind.i64 = IntKind.i64 ∧ (1 : Int) = (1 : Int) + cntI (List.take i l) (10 : UInt8)) ∧ (IntKind.i64 = IntKind.i64 ∧ (1 : Int) = (↑i : Int) - lastN l (10 : Int) i) ∧ (IntKind.i64 = IntKind.i64 ∧ (0 : Int) = (↑i : Int)) ∧ True) ∧ True) ∧ ∀ (i : Nat), (↑i : Int) ≤ a → (decide ((↑i : Int) < a) = true → InR IntKind.i64 ((↑i : Int) - lastN l (10 : Int) i + (1 : Int)) ∧ inIx (↑i : Int) (List.length l) ∧ (((↑(UInt8.toNat (List.getD l (Int.toNat (↑i : Int)) (0 : UInt8))) : Int) == (10 : Int)) = true → InR IntKind.i64 ((1 : Int) + cntI (List.take i l) (10 : UInt8) + (1 : Int)) ∧ InR IntKind.i64 ((↑i : Int) + (1 : Int)) ∧ ∃ (j : Nat), (↑j : Int) ≤ a ∧ List.length l - j < List.length l - i ∧ (l = l ∧ (IntKind.i64 = IntKind.i64 ∧ a = a) ∧ (IntKind.i64 = IntKind.i64 ∧ (1 : Int) + cntI (List.take i l) (10 : UInt8) + (1 : Int) = (1 : Int) + cntI (List.take j l) (10 : UInt8)) ∧ (IntKind.i64 = IntKind.i64 ∧ (1 : Int) = (↑j : Int) - lastN l (10 : Int) j) ∧ (IntKind.i64 = IntKind.i64 ∧ (↑i : Int) + (1 : Int) = (↑j : Int)) ∧ True) ∧ True) ∧ (((↑(UInt8.toNat (List.getD l (Int.toNat (↑i : Int)) (0 : UInt8))) : Int) == (10 : Int)) = false → InR IntKind.i64 ((↑i : Int) + (1 : Int)) ∧ ∃ (j : Nat), (↑j : Int) ≤ a ∧ List.length l - j < List.length l - i ∧ (l = l ∧ (IntKind.i64 = IntKind.i64 ∧ a = a) ∧ (IntKind.i64 = IntKind.i64 ∧ (1 : Int) + cntI (List.take i l) (10 : UInt8) = (1 : Int) + cntI (List.take j l) (10 : UInt8)) ∧ (IntKind.i64 = IntKind.i64 ∧ (↑i : Int) - lastN l (10 : Int) i + (1 : Int) = (↑j : Int) - lastN l (10 : Int) j) ∧ (IntKind.i64 = IntKind.i64 ∧ (↑i : Int) + (1 : Int) = (↑j : Int)) ∧ True) ∧ True)) ∧ (decide ((↑i : Int) < a) = false → (IntKind.i64 = IntKind.i64 ∧ (1 : Int) + cntI (List.take i l) (10 : UInt8) = Prod.fst (pos l a)) ∧ (IntKind.i64 = IntKind.i64 ∧ (↑i : Int) - lastN l (10 : Int) i = Prod.fst (Prod.snd (pos l a))) ∧ true = Prod.snd (Prod.snd (pos l a)) ∧ True))) := by kernel_rfl
theorem k16 (l : List UInt8) (a : Int) (hl : l.length ≤ 400) : Known Try.prog [] 16 [.str l, .int .i64 a] (.tup [.int .i64 (pos l a).1, .int .i64 (pos l a).2.1, .bool (pos l a).2.2]) := by
  refine Known.of (V := vp 33 (inv16 l a)) (fn := Try.f16) rfl (by kernel_rfl) (cfg_ok _) rfl ?_
  show g16 l a
  rw [e16]
  simp only [and_true, true_and, implies_true, Bool.or_eq_true, Bool.and_eq_true, Bool.or_eq_false_iff, Bool.and_eq_false_iff, Bool.not_eq_true', decide_eq_true_eq, decide_eq_false_iff_not, Bool.not_eq_false', imp_self, beq_iff_eq, beq_eq_false_iff_ne, bne_iff_ne, bne_eq_false_iff_eq, ne_eq, Decidable.not_not]
  simp only [Int.toNat_natCast, ch_def]
  refine ⟨fun _ => by omega, fun h => by rw [pos_bad h]; exact ⟨rfl, rfl, rfl⟩, fun h => ⟨⟨0, by omega, rfl, rfl, rfl⟩, fun i hi => ⟨fun hlt => ?_, fun hge => ?_⟩⟩⟩
  · have hc := cnt_take l i
    have hr := last_rng l 10 i
    have hs := cnt_step l i (by omega)
    refine ⟨inR64 (by omega) (by omega), ⟨by omega, by omega⟩, fun h2 => ⟨inR64 (by omega) (by omega), inR64 (by omega) (by omega), i + 1, by omega, by omega, ?_, ?_, by omega⟩, fun h2 => ⟨inR64 (by omega) (by omega), i + 1, by omega, by omega, ?_, ?_, by omega⟩⟩
    · rw [hs, if_pos h2]; omega
    · rw [lastN, if_pos h2]; omega
    · rw [hs, if_neg h2]
    · rw [lastN, if_neg h2]; omega
  · have e : a.toNat = i := by omega
    rw [pos_ok (by omega), e]
    exact ⟨rfl, by simp only; omega, rfl⟩
theorem e7 (l : List UInt8) (a : Int) : g7 l a = ((↑(List.length l) : Int) ≤ (9223372036854775807 : Int) ∧ (decide ((400 : Int) < (↑(List.length l) : Int)) = true → Known Try.prog [] (9 : Nat) [] (AV.bool true) ∧ true = true) ∧ (decide ((400 : Int) < (↑(List.length l) : Int)) = false → Known Try.prog [] (15 : Nat) [AV.str l, AV.int IntKind.i64 a] (AV.tup [AV.int IntKind.i64 (Prod.fst (pos l a)), AV.int IntKind.i64 (Prod.fst (Prod.snd (pos l a))), AV.bool (Prod.snd (Prod.snd (pos l a)))]) ∧ Known Try.prog [] (16 : Nat) [AV.str l, AV.int IntKind.i64 a] (AV.tup [AV.int IntKind.i64 (Prod.fst (pos l a)), AV.int IntKind.i64 (Prod.fst (Prod.snd (pos l a))), AV.bool (Prod.snd (Prod.snd (pos l a)))]) ∧ ((Prod.fst (pos l a) == Prod.fst (pos l a)) = true → (Prod.fst (pos l a) == Prod.fst (pos l a)) = true) ∧ ((Prod.fst (pos l a) == Prod.fst (pos l a)) = true → (Prod.fst (pos l a) == Prod.fst (pos l a)) = true) ∧ ((Prod.fst (pos l a) == Prod.fst (pos l a)) = true → (Prod.fst (pos l a) == Prod.fst (pos l a)) = true) ∧ ((Prod.fst (pos l a) == Prod.fst (pos l a) && Prod.fst (Prod.snd (pos l a)) == Prod.fst (Prod.snd (pos l a))) = true → (Prod.fst (pos l a) == Prod.fst (pos l a) && Prod.fst (Prod.snd (pos l a)) == Prod.fst (Prod.snd (pos l a))) = true) ∧ ((Prod.fst (pos l a) == Prod.fst (pos l a) && Prod.fst (Prod.snd (pos l a)) == Prod.fst (Prod.snd (pos l a))) = true → (Prod.fst (pos l a) == Prod.fst (pos l a) && Prod.fst (Prod.snd (pos l a)) == Prod.fst (Prod.snd (pos l a))) = true) ∧ ((Prod.fst (pos l a) == Prod.fst (pos l a) && Prod.fst (Prod.snd (pos l a)) == Prod.fst (Prod.snd (pos l a))) = true → (Prod.fst (pos l a) == Prod.fst (pos l a) && Prod.fst (Prod.snd (pos l a)) == Prod.fst (Prod.snd (pos l a))) = true) ∧ ((Prod.fst (pos l a) == Prod.fst (pos l a) && Prod.fst (Prod.snd (pos l a)) == Prod.fst (Prod.snd (pos l a)) && Prod.snd (Prod.snd (pos l a)) == Prod.snd (Prod.snd (pos l a))) = true → Known Try.prog [] (9 : Nat) [] (AV.bool true)) ∧ ((Prod.fst (pos l a) == Prod.fst (pos l a) && Prod.fst (Prod.snd (pos l a)) == Prod.fst (Prod.snd (pos l a)) && Prod.snd (Prod.snd (pos l a)) == Prod.snd (Prod.snd (pos l a))) = true → (Prod.fst (pos l a) == Prod.fst (pos l a) && Prod.fst (Prod.snd (pos l a)) == Prod.fst (Prod.snd (pos l a)) && Prod.snd (Prod.snd (pos l a)) == Prod.snd (Prod.snd (pos l a))) = true) ∧ (Prod.fst (pos l a) == Prod.fst (pos l a) && Prod.fst (Prod.snd (pos l a)) == Prod.fst (Prod.snd (pos l a)) && Prod.snd (Prod.snd (pos l a)) == Prod.snd (Prod.snd (pos l a)) && true) = true)) := by kernel_rfl
theorem k7 (l : List UInt8) (a : Int) (hl : l.length ≤ 9223372036854775807) : Known Try.prog [] 7 [.str l, .int .i64 a] (.bool true) := by
  refine Known.of (V := vp 45 fun _ => none) (fn := Try.f7) rfl (by kernel_rfl) (cfg_ok _) rfl ?_
  show g7 l a
  rw [e7]
  simp only [and_true, true_and, implies_true, Bool.or_eq_true, Bool.and_eq_true, Bool.or_eq_false_iff, Bool.and_eq_false_iff, Bool.not_eq_true', decide_eq_true_eq, decide_eq_false_iff_not, Bool.not_eq_false', imp_self, beq_iff_eq, beq_eq_false_iff_ne, bne_iff_ne, bne_eq_false_iff_eq, ne_eq, Decidable.not_not]
  exact ⟨by omega, fun _ => k9, fun h => ⟨k15 l a (by omega), k16 l a (by omega), fun _ => k9⟩⟩
end Go.Proofs.S09
