import Derived.Test.YtdbeklchoojpnaaDoorP52
namespace Go.Proofs.S52
open Go Go.AV Go.Proofs.Dec
theorem cut_len_eq {l : List UInt8} {a b : Nat} (h2 : b ≤ l.length) : (cut l a b).length = b - a := by
  unfold cut
  rw [List.length_take, List.length_drop]
  omega
theorem tok_pos {l : List UInt8} {a : Nat} (ha : a < l.length) (h : (tok l a).2 = 0) : 1 ≤ (tok l a).1.text.length ∧ a + (tok l a).1.text.length ≤ l.length ∧ (tok l a).1.pos = a := by
  have hl1 := endOf_le (p := inW) (l := l) (i := a) (by omega)
  have hl2 := endOf_le (p := inW) (l := l) (i := a + 1) (by omega)
  have hg := endOf_ge inW l (a + 1)
  cases h1 : isLet (ch l a) with
  | true =>
    have := endOf_step ha (let_inW h1)
    rw [tok_let h1]
    show 1 ≤ (cut l a (endOf inW l a)).length ∧ a + (cut l a (endOf inW l a)).length ≤ l.length ∧ (a : Int) = a
    rw [cut_len_eq hl1]
    omega
  | false =>
    by_cases h2 : ch l a = 45 ∨ dig (ch l a) = true
    · by_cases h3 : (parse (cut l a (endOf inW l (a + 1)))).2 = 0
      · rw [tok_num h1 h2 h3]
        show 1 ≤ (cut l a (endOf inW l (a + 1))).length ∧ a + (cut l a (endOf inW l (a + 1))).length ≤ l.length ∧ (a : Int) = a
        rw [cut_len_eq hl2]
        omega
      · rw [tok_bad h1 h2 h3] at h
        exact absurd h h3
    · have h2' : ¬ ch l a = 45 ∧ dig (ch l a) = false := by
        cases hd : dig (ch l a) <;> simp_all
      cases h3 : isSym (ch l a) with
      | true =>
        rw [tok_sym h1 h2' h3]
        show 1 ≤ (cut l a (a + 1)).length ∧ a + (cut l a (a + 1)).length ≤ l.length ∧ (a : Int) = a
        rw [cut_len_eq (show a + 1 ≤ l.length by omega)]
        omega
      | false =>
        by_cases h4 : ch l a = 10
        · rw [tok_nl h1 h2' h3 h4]
          exact ⟨Nat.le_refl _, by simp only [List.length_cons, List.length_nil]; omega, rfl⟩
        · rw [tok_none h1 h2' h3 h4] at h
          simp at h
theorem sc_sp {l : List UInt8} {s : Sc} (h : scOK l s) (hp : s.pos < l.length) (hc : ch l s.pos = 32 ∨ ch l s.pos = 9) : scOK l ⟨s.pos + 1, s.out, s.fuel - 1, 0⟩ := by
  obtain ⟨h1, h2, h3, h4⟩ := h
  obtain ⟨k, hk⟩ : ∃ k, s.fuel = k + 1 := ⟨s.fuel - 1, by omega⟩
  refine ⟨by simp only; omega, by simp only; omega, ?_, by simp only; omega⟩
  rw [hk, scanN, if_pos hp, if_pos hc] at h3
  simp only [hk, Nat.add_sub_cancel]
  exact h3
theorem cm_lt {l : List UInt8} {i : Nat} (hp : i < l.length) (hc : ch l i = 35) : i < endOf notNl l i := by
  have := endOf_step (p := notNl) hp (by rw [hc]; decide)
  have := endOf_ge notNl l (i + 1)
  omega
theorem sc_cm {l : List UInt8} {s : Sc} (h : scOK l s) (hp : s.pos < l.length) (hn : ¬ ch l s.pos = 32 ∧ ¬ ch l s.pos = 9) (hc : ch l s.pos = 35) : scOK l ⟨endOf notNl l s.pos, s.out, s.fuel - 1, 0⟩ := by
  obtain ⟨h1, h2, h3, h4⟩ := h
  obtain ⟨k, hk⟩ : ∃ k, s.fuel = k + 1 := ⟨s.fuel - 1, by omega⟩
  have h5 := cm_lt hp hc
  refine ⟨endOf_le h1, by simp only; omega, ?_, by simp only; omega⟩
  rw [hk, scanN, if_pos hp, if_neg (by omega), if_pos hc] at h3
  simp only [hk, Nat.add_sub_cancel]
  exact h3
theorem sc_tok {l : List UInt8} {s : Sc} (h : scOK l s) (hp : s.pos < l.length) (hn : ¬ ch l s.pos = 32 ∧ ¬ ch l s.pos = 9) (hc : ¬ ch l s.pos = 35) (ht : (tok l s.pos).2 = 0) : scOK l ⟨s.pos + (tok l s.pos).1.text.length, s.out ++ [(tok l s.pos).1], s.fuel - 1, 0⟩ := by
  obtain ⟨h1, h2, h3, h4⟩ := h
  obtain ⟨k, hk⟩ : ∃ k, s.fuel = k + 1 := ⟨s.fuel - 1, by omega⟩
  have h5 := tok_pos hp ht
  refine ⟨h5.2.1, by simp only; omega, ?_, by simp only [List.length_append, List.length_cons, List.length_nil]; omega⟩
  rw [hk, scanN, if_pos hp, if_neg (by omega), if_neg hc, if_pos ht] at h3
  simp only [hk, Nat.add_sub_cancel]
  exact h3
theorem sc_err {l : List UInt8} {s : Sc} (h : scOK l s) (hp : s.pos < l.length) (hn : ¬ ch l s.pos = 32 ∧ ¬ ch l s.pos = 9) (hc : ¬ ch l s.pos = 35) (ht : ¬ (tok l s.pos).2 = 0) : scanN l l.length 0 [] = ([], (tok l s.pos).2, (s.pos : Int)) := by
  obtain ⟨h1, h2, h3, h4⟩ := h
  obtain ⟨k, hk⟩ : ∃ k, s.fuel = k + 1 := ⟨s.fuel - 1, by omega⟩
  rw [← h3, hk, scanN, if_pos hp, if_neg (by omega), if_neg hc, if_neg ht]
theorem sc_end {l : List UInt8} {s : Sc} (h : scOK l s) (hp : ¬ s.pos < l.length) : scanN l l.length 0 [] = (s.out, 0, 0) := by
  obtain ⟨h1, h2, h3, h4⟩ := h
  rw [← h3]
  cases s.fuel with
  | zero => rfl
  | succ k => rw [scanN, if_neg hp]
theorem sc_0 (l : List UInt8) : scOK l ⟨0, [], l.length, 0⟩ := ⟨by simp, by simp, rfl, by simp⟩
theorem app_tok (p : List Tok) (e : Tok) (y : AV) (hy : y = encT e) (i : Nat) (hi : i < p.length + 1) : (if i < p.length then encT (p.getD i ⟨0, [], 0, 0⟩) else ((List.replicate 1 (AV.agg [AV.int .i64 0, AV.str [], AV.int .i64 0, AV.int .i64 0])).set 0 y).getD (i - p.length) AV.any) = encT ((p ++ [e]).getD i ⟨0, [], 0, 0⟩) := by
  subst hy
  by_cases h : i < p.length
  · rw [if_pos h]
    simp [List.getElem?_append, h]
  · obtain rfl : i = p.length := by omega
    rw [if_neg h]
    simp
theorem scan_long {l : List UInt8} (h : 16384 < l.length) : scan l = ([], 4, 0) := if_pos h
theorem scan_short {l : List UInt8} (h : ¬ 16384 < l.length) : scan l = scanN l l.length 0 [] := if_neg h
theorem e8 (l : List UInt8) : g8 l = ((↑(List.length l) : Int) ≤ (9223372036854775807 : Int) ∧ (decide ((16384 : Int) < (↑(List.length l) : Int)) = true → List.length (Prod.fst (scan l)) = (0 : Nat) ∧ (Shape.agg [Shape.leaf, Shape.leaf] = Shape.agg [Shape.leaf, Shape.leaf] ∧ (IntKind.i64 = IntKind.i64 ∧ (4 : Int) = Prod.fst (Prod.snd (scan l))) ∧ (IntKind.i64 = IntKind.i64 ∧ (0 : Int) = Prod.snd (Prod.snd (scan l))) ∧ True) ∧ True) ∧ (decide ((16384 : Int) < (↑(List.length l) : Int)) = false → (∃ (i : Sc), scOK l i ∧ (l = l ∧ AV.ptr (3 : Nat) [] = AV.ptr (3 : Nat) [] ∧ (List.length (Sc.out i) = (0 : Nat) ∧ true = true ∧ true = true) ∧ AV.ptr (5 : Nat) [] = AV.ptr (5 : Nat) [] ∧ AV.clo (41 : Nat) [] = AV.clo (41 : FuncId) [] ∧ (IntKind.i64 = IntKind.i64 ∧ (0 : Int) = (↑(Sc.pos i) : Int)) ∧ True) ∧ ((31 : Nat) = (31 : TypeId) ∧ Shape.agg [Shape.leaf, Shape.leaf] = Shape.agg [Shape.leaf, Shape.leaf] ∧ (IntKind.i64 = IntKind.i64 ∧ (0 : Int) = (0 : Int)) ∧ (IntKind.i64 = IntKind.i64 ∧ (0 : Int) = (0 : Int)) ∧ True) ∧ ((31 : Nat) = (31 : TypeId) ∧ Shape.agg [Shape.leaf, Shape.leaf] = Shape.agg [Shape.leaf, Shape.leaf] ∧ (IntKind.i64 = IntKind.i64 ∧ (0 : Int) = (0 : Int)) ∧ (IntKind.i64 = IntKind.i64 ∧ (0 : Int) = (0 : Int)) ∧ True) ∧ (List.length (Sc.out i) = (0 : Nat) ∧ true = true) ∧ True) ∧ ∀ (i : Sc), scOK l i → (↑(List.length l) : Int) ≤ (9223372036854775807 : Int) ∧ (decide ((↑(Sc.pos i) : Int) < (↑(List.length l) : Int)) = true → inIx (↑(Sc.pos i) : Int) (List.length l) ∧ (((↑(UInt8.toNat (List.getD l (Int.toNat (↑(Sc.pos i) : Int)) (0 : UInt8))) : Int) == (32 : Int)) = true → (((↑(UInt8.toNat (List.getD l (Int.toNat (↑(Sc.pos i) : Int)) (0 : UInt8))) : Int) == (32 : Int)) = true → InR IntKind.i64 ((↑(Sc.pos i) : Int) + (1 : Int)) ∧ ∃ (j : Sc), scOK l j ∧ List.length l - Sc.pos j < List.length l - Sc.pos i ∧ (l = l ∧ AV.ptr (3 : Nat) [] = AV.ptr (3 : Nat) [] ∧ ((35 : Nat) = (35 : Nat) ∧ List.length (Sc.out i) = List.length (Sc.out j)) ∧ AV.ptr (5 : Nat) [] = AV.ptr (5 : Nat) [] ∧ AV.clo (41 : FuncId) [] = AV.clo (41 : FuncId) [] ∧ (IntKind.i64 = IntKind.i64 ∧ (↑(Sc.pos i) : Int) + (1 : Int) = (↑(Sc.pos j) : Int)) ∧ True) ∧ ((31 : TypeId) = (31 : TypeId) ∧ Shape.agg [Shape.leaf, Shape.leaf] = Shape.agg [Shape.leaf, Shape.leaf] ∧ (IntKind.i64 = IntKind.i64 ∧ (0 : Int) = (0 : Int)) ∧ (IntKind.i64 = IntKind.i64 ∧ (0 : Int) = (0 : Int)) ∧ True) ∧ ((31 : TypeId) = (31 : TypeId) ∧ Shape.agg [Shape.leaf, Shape.leaf] = Shape.agg [Shape.leaf, Shape.leaf] ∧ (IntKind.i64 = IntKind.i64 ∧ (0 : Int) = (0 : Int)) ∧ (IntKind.i64 = IntKind.i64 ∧ (0 : Int) = (0 : Int)) ∧ True) ∧ ((68 : TypeId) = (68 : TypeId) ∧ Shape.agg [Shape.leaf, Shape.leaf, Shape.leaf, Shape.leaf] = Shape.agg [Shape.leaf, Shape.leaf, Shape.leaf, Shape.leaf] ∧ List.length (Sc.out i) = List.length (Sc.out j) ∧ ∀ (i_1 : Nat), i_1 < List.length (Sc.out i) → encT (List.getD (Sc.out i) i_1 (Tok.mk (0 : Int) [] (0 : Int) (0 : Int))) = encT (List.getD (Sc.out j) i_1 (Tok.mk (0 : Int) [] (0 : Int) (0 : Int)))) ∧ True) ∧ (((↑(UInt8.toNat (List.getD l (Int.toNat (↑(Sc.pos i) : Int)) (0 : UInt8))) : Int) == (32 : Int)) = false → (((↑(UInt8.toNat (List.getD l (Int.toNat (↑(Sc.pos i) : Int)) (0 : UInt8))) : Int) == (35 : Int)) = true → Known Tryd.prog [] (42 : Nat) [AV.str l, AV.int IntKind.i64 (↑(Sc.pos i) : Int), AV.clo (41 : FuncId) []] (AV.int IntKind.i64 (↑(endOf notNl l (Int.toNat (↑(Sc.pos i) : Int))) : Int)) ∧ ∃ (j : Sc), scOK l j ∧ List.length l - Sc.pos j < List.length l - Sc.pos i ∧ (l = l ∧ AV.ptr (3 : Nat) [] = AV.ptr (3 : Nat) [] ∧ ((35 : Nat) = (35 : Nat) ∧ List.length (Sc.out i) = List.length (Sc.out j)) ∧ AV.ptr (5 : Nat) [] = AV.ptr (5 : Nat) [] ∧ AV.clo (41 : FuncId) [] = AV.clo (41 : FuncId) [] ∧ (IntKind.i64 = IntKind.i64 ∧ (↑(endOf notNl l (Int.toNat (↑(Sc.pos i) : Int))) : Int) = (↑(Sc.pos j) : Int)) ∧ True) ∧ ((31 : TypeId) = (31 : TypeId) ∧ Shape.agg [Shape.leaf, Shape.leaf] = Shape.agg [Shape.leaf, Shape.leaf] ∧ (IntKind.i64 = IntKind.i64 ∧ (0 : Int) = (0 : Int)) ∧ (IntKind.i64 = IntKind.i64 ∧ (0 : Int) = (0 : Int)) ∧ True) ∧ ((31 : TypeId) = (31 : TypeId) ∧ Shape.agg [Shape.leaf, Shape.leaf] = Shape.agg [Shape.leaf, Shape.leaf] ∧ (IntKind.i64 = IntKind.i64 ∧ (0 : Int) = (0 : Int)) ∧ (IntKind.i64 = IntKind.i64 ∧ (0 : Int) = (0 : Int)) ∧ True) ∧ ((68 : TypeId) = (68 : TypeId) ∧ Shape.agg [Shape.leaf, Shape.leaf, Shape.leaf, Shape.leaf] = Shape.agg [Shape.leaf, Shape.leaf, Shape.leaf, Shape.leaf] ∧ List.length (Sc.out i) = List.length (Sc.out j) ∧ ∀ (i_1 : Nat), i_1 < List.length (Sc.out i) → encT (List.getD (Sc.out i) i_1 (Tok.mk (0 : Int) [] (0 : Int) (0 : Int))) = encT (List.getD (Sc.out j) i_1 (Tok.mk (0 : Int) [] (0 : Int) (0 : Int)))) ∧ True) ∧ (((↑(UInt8.toNat (List.getD l (Int.toNat (↑(Sc.pos i) : Int)) (0 : UInt8))) : Int) == (35 : Int)) = false → Known Tryd.prog [] (43 : Nat) [AV.str l, AV.int IntKind.i64 (↑(Sc.pos i) : Int)] (AV.tup [AV.mc (Shape.agg [Shape.leaf, Shape.leaf, Shape.leaf, Shape.leaf]) (AV.agg [AV.int IntKind.i64 (Tok.kind (Prod.fst (tok l (Int.toNat (↑(Sc.pos i) : Int))))), AV.str (Tok.text (Prod.fst (tok l (Int.toNat (↑(Sc.pos i) : Int))))), AV.int IntKind.i64 (Tok.num (Prod.fst (tok l (Int.toNat (↑(Sc.pos i) : Int))))), AV.int IntKind.i64 (Tok.pos (Prod.fst (tok l (Int.toNat (↑(Sc.pos i) : Int)))))]), AV.int IntKind.i64 (Prod.snd (tok l (Int.toNat (↑(Sc.pos i) : Int))))]) ∧ ((Prod.snd (tok l (Int.toNat (↑(Sc.pos i) : Int))) != (0 : Int)) = true → List.length (Prod.fst (scan l)) = (0 : Nat) ∧ (Shape.agg [Shape.leaf, Shape.leaf] = Shape.agg [Shape.leaf, Shape.leaf] ∧ (IntKind.i64 = IntKind.i64 ∧ Prod.snd (tok l (Int.toNat (↑(Sc.pos i) : Int))) = Prod.fst (Prod.snd (scan l))) ∧ (IntKind.i64 = IntKind.i64 ∧ (↑(Sc.pos i) : Int) = Prod.snd (Prod.snd (scan l))) ∧ True) ∧ True) ∧ ((Prod.snd (tok l (Int.toNat (↑(Sc.pos i) : Int))) != (0 : Int)) = false → (1 : Nat) * Shape.size tokSh ≤ (16777216 : Nat) ∧ (List.length (Sc.out i) = List.length (Sc.out i) ∧ (↑(List.length (Sc.out i) + (1 : Nat)) : Int) * (↑(40 : Nat) : Int) ≤ (140737488355328 : Int) ∧ List.length (Sc.out i) + (1 : Nat) ≤ (9223372036854775807 : Nat)) ∧ (1 : Nat) ≤ (1 : Nat) ∧ (↑(List.length (Tok.text (Prod.fst (tok l (Int.toNat (↑(Sc.pos i) : Int)))))) : Int) ≤ (9223372036854775807 : Int) ∧ InR IntKind.i64 ((↑(Sc.pos i) : Int) + (↑(List.length (Tok.text (Prod.fst (tok l (Int.toNat (↑(Sc.pos i) : Int)))))) : Int)) ∧ ∃ (j : Sc), scOK l j ∧ List.length l - Sc.pos j < List.length l - Sc.pos i ∧ (l = l ∧ AV.ptr (3 : Nat) [] = AV.ptr (3 : Nat) [] ∧ ((35 : Nat) = (35 : Nat) ∧ List.length (Sc.out i) + (1 : Nat) = List.length (Sc.out j)) ∧ AV.ptr (5 : Nat) [] = AV.ptr (5 : Nat) [] ∧ AV.clo (41 : FuncId) [] = AV.clo (41 : FuncId) [] ∧ (IntKind.i64 = IntKind.i64 ∧ (↑(Sc.pos i) : Int) + (↑(List.length (Tok.text (Prod.fst (tok l (Int.toNat (↑(Sc.pos i) : Int)))))) : Int) = (↑(Sc.pos j) : Int)) ∧ True) ∧ ((31 : TypeId) = (31 : TypeId) ∧ Shape.agg [Shape.leaf, Shape.leaf] = Shape.agg [Shape.leaf, Shape.leaf] ∧ (IntKind.i64 = IntKind.i64 ∧ (0 : Int) = (0 : Int)) ∧ (IntKind.i64 = IntKind.i64 ∧ (0 : Int) = (0 : Int)) ∧ True) ∧ ((31 : TypeId) = (31 : TypeId) ∧ Shape.agg [Shape.leaf, Shape.leaf] = Shape.agg [Shape.leaf, Shape.leaf] ∧ (IntKind.i64 = IntKind.i64 ∧ (0 : Int) = (0 : Int)) ∧ (IntKind.i64 = IntKind.i64 ∧ (0 : Int) = (0 : Int)) ∧ True) ∧ ((68 : TypeId) = (68 : TypeId) ∧ Shape.agg [Shape.leaf, Shape.leaf, Shape.leaf, Shape.leaf] = Shape.agg [Shape.leaf, Shape.leaf, Shape.leaf, Shape.leaf] ∧ List.length (Sc.out i) + (1 : Nat) = List.length (Sc.out j) ∧ ∀ (i_1 : Nat), i_1 < List.length (Sc.out i) + (1 : Nat) → (if i_1 < List.length (Sc.out i) then encT (List.getD (Sc.out i) i_1 (Tok.mk (0 : Int) [] (0 : Int) (0 : Int))) else List.getD (List.set (List.replicate (1 : Nat) (AV.agg [AV.int IntKind.i64 (0 : Int), AV.str [], AV.int IntKind.i64 (0 : Int), AV.int IntKind.i64 (0 : Int)])) (0 : Nat) (AV.agg [AV.int IntKind.i64 (Tok.kind (Prod.fst (tok l (Int.toNat (↑(Sc.pos i) : Int))))), AV.str (Tok.text (Prod.fst (tok l (Int.toNat (↑(Sc.pos i) : Int))))), AV.int IntKind.i64 (Tok.num (Prod.fst (tok l (Int.toNat (↑(Sc.pos i) : Int))))), AV.int IntKind.i64 (Tok.pos (Prod.fst (tok l (Int.toNat (↑(Sc.pos i) : Int)))))])) (i_1 - List.length (Sc.out i)) AV.any) = encT (List.getD (Sc.out j) i_1 (Tok.mk (0 : Int) [] (0 : Int) (0 : Int)))) ∧ True)))) ∧ (((↑(UInt8.toNat (List.getD l (Int.toNat (↑(Sc.pos i) : Int)) (0 : UInt8))) : Int) == (32 : Int)) = false → (((↑(UInt8.toNat (List.getD l (Int.toNat (↑(Sc.pos i) : Int)) (0 : UInt8))) : Int) == (9 : Int)) = true → InR IntKind.i64 ((↑(Sc.pos i) : Int) + (1 : Int)) ∧ ∃ (j : Sc), scOK l j ∧ List.length l - Sc.pos j < List.length l - Sc.pos i ∧ (l = l ∧ AV.ptr (3 : Nat) [] = AV.ptr (3 : Nat) [] ∧ ((35 : Nat) = (35 : Nat) ∧ List.length (Sc.out i) = List.length (Sc.out j)) ∧ AV.ptr (5 : Nat) [] = AV.ptr (5 : Nat) [] ∧ AV.clo (41 : FuncId) [] = AV.clo (41 : FuncId) [] ∧ (IntKind.i64 = IntKind.i64 ∧ (↑(Sc.pos i) : Int) + (1 : Int) = (↑(Sc.pos j) : Int)) ∧ True) ∧ ((31 : TypeId) = (31 : TypeId) ∧ Shape.agg [Shape.leaf, Shape.leaf] = Shape.agg [Shape.leaf, Shape.leaf] ∧ (IntKind.i64 = IntKind.i64 ∧ (0 : Int) = (0 : Int)) ∧ (IntKind.i64 = IntKind.i64 ∧ (0 : Int) = (0 : Int)) ∧ True) ∧ ((31 : TypeId) = (31 : TypeId) ∧ Shape.agg [Shape.leaf, Shape.leaf] = Shape.agg [Shape.leaf, Shape.leaf] ∧ (IntKind.i64 = IntKind.i64 ∧ (0 : Int) = (0 : Int)) ∧ (IntKind.i64 = IntKind.i64 ∧ (0 : Int) = (0 : Int)) ∧ True) ∧ ((68 : TypeId) = (68 : TypeId) ∧ Shape.agg [Shape.leaf, Shape.leaf, Shape.leaf, Shape.leaf] = Shape.agg [Shape.leaf, Shape.leaf, Shape.leaf, Shape.leaf] ∧ List.length (Sc.out i) = List.length (Sc.out j) ∧ ∀ (i_1 : Nat), i_1 < List.length (Sc.out i) → encT (List.getD (Sc.out i) i_1 (Tok.mk (0 : Int) [] (0 : Int) (0 : Int))) = encT (List.getD (Sc.out j) i_1 (Tok.mk (0 : Int) [] (0 : Int) (0 : Int)))) ∧ True) ∧ (((↑(UInt8.toNat (List.getD l (Int.toNat (↑(Sc.pos i) : Int)) (0 : UInt8))) : Int) == (9 : Int)) = false → (((↑(UInt8.toNat (List.getD l (Int.toNat (↑(Sc.pos i) : Int)) (0 : UInt8))) : Int) == (35 : Int)) = true → Known Tryd.prog [] (42 : Nat) [AV.str l, AV.int IntKind.i64 (↑(Sc.pos i) : Int), AV.clo (41 : FuncId) []] (AV.int IntKind.i64 (↑(endOf notNl l (Int.toNat (↑(Sc.pos i) : Int))) : Int)) ∧ ∃ (j : Sc), scOK l j ∧ List.length l - Sc.pos j < List.length l - Sc.pos i ∧ (l = l ∧ AV.ptr (3 : Nat) [] = AV.ptr (3 : Nat) [] ∧ ((35 : Nat) = (35 : Nat) ∧ List.length (Sc.out i) = List.length (Sc.out j)) ∧ AV.ptr (5 : Nat) [] = AV.ptr (5 : Nat) [] ∧ AV.clo (41 : FuncId) [] = AV.clo (41 : FuncId) [] ∧ (IntKind.i64 = IntKind.i64 ∧ (↑(endOf notNl l (Int.toNat (↑(Sc.pos i) : Int))) : Int) = (↑(Sc.pos j) : Int)) ∧ True) ∧ ((31 : TypeId) = (31 : TypeId) ∧ Shape.agg [Shape.leaf, Shape.leaf] = Shape.agg [Shape.leaf, Shape.leaf] ∧ (IntKind.i64 = IntKind.i64 ∧ (0 : Int) = (0 : Int)) ∧ (IntKind.i64 = IntKind.i64 ∧ (0 : Int) = (0 : Int)) ∧ True) ∧ ((31 : TypeId) = (31 : TypeId) ∧ Shape.agg [Shape.leaf, Shape.leaf] = Shape.agg [Shape.leaf, Shape.leaf] ∧ (IntKind.i64 = IntKind.i64 ∧ (0 : Int) = (0 : Int)) ∧ (IntKind.i64 = IntKind.i64 ∧ (0 : Int) = (0 : Int)) ∧ True) ∧ ((68 : TypeId) = (68 : TypeId) ∧ Shape.agg [Shape.leaf, Shape.leaf, Shape.leaf, Shape.leaf] = Shape.agg [Shape.leaf, Shape.leaf, Shape.leaf, Shape.leaf] ∧ List.length (Sc.out i) = List.length (Sc.out j) ∧ ∀ (i_1 : Nat), i_1 < List.length (Sc.out i) → encT (List.getD (Sc.out i) i_1 (Tok.mk (0 : Int) [] (0 : Int) (0 : Int))) = encT (List.getD (Sc.out j) i_1 (Tok.mk (0 : Int) [] (0 : Int) (0 : Int)))) ∧ True) ∧ (((↑(UInt8.toNat (List.getD l (Int.toNat (↑(Sc.pos i) : Int)) (0 : UInt8))) : Int) == (35 : Int)) = false → Known Tryd.prog [] (43 : Nat) [AV.str l, AV.int IntKind.i64 (↑(Sc.pos i) : Int)] (AV.tup [AV.mc (Shape.agg [Shape.leaf, Shape.leaf, Shape.leaf, Shape.leaf]) (AV.agg [AV.int IntKind.i64 (Tok.kind (Prod.fst (tok l (Int.toNat (↑(Sc.pos i) : Int))))), AV.str (Tok.text (Prod.fst (tok l (Int.toNat (↑(Sc.pos i) : Int))))), AV.int IntKind.i64 (Tok.num (Prod.fst (tok l (Int.toNat (↑(Sc.pos i) : Int))))), AV.int IntKind.i64 (Tok.pos (Prod.fst (tok l (Int.toNat (↑(Sc.pos i) : Int)))))]), AV.int IntKind.i64 (Prod.snd (tok l (Int.toNat (↑(Sc.pos i) : Int))))]) ∧ ((Prod.snd (tok l (Int.toNat (↑(Sc.pos i) : Int))) != (0 : Int)) = true → List.length (Prod.fst (scan l)) = (0 : Nat) ∧ (Shape.agg [Shape.leaf, Shape.leaf] = Shape.agg [Shape.leaf, Shape.leaf] ∧ (IntKind.i64 = IntKind.i64 ∧ Prod.snd (tok l (Int.toNat (↑(Sc.pos i) : Int))) = Prod.fst (Prod.snd (scan l))) ∧ (IntKind.i64 = IntKind.i64 ∧ (↑(Sc.pos i) : Int) = Prod.snd (Prod.snd (scan l))) ∧ True) ∧ True) ∧ ((Prod.snd (tok l (Int.toNat (↑(Sc.pos i) : Int))) != (0 : Int)) = false → (1 : Nat) * Shape.size tokSh ≤ (16777216 : Nat) ∧ (List.length (Sc.out i) = List.length (Sc.out i) ∧ (↑(List.length (Sc.out i) + (1 : Nat)) : Int) * (↑(40 : Nat) : Int) ≤ (140737488355328 : Int) ∧ List.length (Sc.out i) + (1 : Nat) ≤ (9223372036854775807 : Nat)) ∧ (1 : Nat) ≤ (1 : Nat) ∧ (↑(List.length (Tok.text (Prod.fst (tok l (Int.toNat (↑(Sc.pos i) : Int)))))) : Int) ≤ (9223372036854775807 : Int) ∧ InR IntKind.i64 ((↑(Sc.pos i) : Int) + (↑(List.length (Tok.text (Prod.fst (tok l (Int.toNat (↑(Sc.pos i) : Int)))))) : Int)) ∧ ∃ (j : Sc), scOK l j ∧ List.length l - Sc.pos j < List.length l - Sc.pos i ∧ (l = l ∧ AV.ptr (3 : Nat) [] = AV.ptr (3 : Nat) [] ∧ ((35 : Nat) = (35 : Nat) ∧ List.length (Sc.out i) + (1 : Nat) = List.length (Sc.out j)) ∧ AV.ptr (5 : Nat) [] = AV.ptr (5 : Nat) [] ∧ AV.clo (41 : FuncId) [] = AV.clo (41 : FuncId) [] ∧ (IntKind.i64 = IntKind.i64 ∧ (↑(Sc.pos i) : Int) + (↑(List.length (Tok.text (Prod.fst (tok l (Int.toNat (↑(Sc.pos i) : Int)))))) : Int) = (↑(Sc.pos j) : Int)) ∧ True) ∧ ((31 : TypeId) = (31 : TypeId) ∧ Shape.agg [Shape.leaf, Shape.leaf] = Shape.agg [Shape.leaf, Shape.leaf] ∧ (IntKind.i64 = IntKind.i64 ∧ (0 : Int) = (0 : Int)) ∧ (IntKind.i64 = IntKind.i64 ∧ (0 : Int) = (0 : Int)) ∧ True) ∧ ((31 : TypeId) = (31 : TypeId) ∧ Shape.agg [Shape.leaf, Shape.leaf] = Shape.agg [Shape.leaf, Shape.leaf] ∧ (IntKind.i64 = IntKind.i64 ∧ (0 : Int) = (0 : Int)) ∧ (IntKind.i64 = IntKind.i64 ∧ (0 : Int) = (0 : Int)) ∧ True) ∧ ((68 : TypeId) = (68 : TypeId) ∧ Shape.agg [Shape.leaf, Shape.leaf, Shape.leaf, Shape.leaf] = Shape.agg [Shape.leaf, Shape.leaf, Shape.leaf, Shape.leaf] ∧ List.length (Sc.out i) + (1 : Nat) = List.length (Sc.out j) ∧ ∀ (i_1 : Nat), i_1 < List.length (Sc.out i) + (1 : Nat) → (if i_1 < List.length (Sc.out i) then encT (List.getD (Sc.out i) i_1 (Tok.mk (0 : Int) [] (0 : Int) (0 : Int))) else List.getD (List.set (List.replicate (1 : Nat) (AV.agg [AV.int IntKind.i64 (0 : Int), AV.str [], AV.int IntKind.i64 (0 : Int), AV.int IntKind.i64 (0 : Int)])) (0 : Nat) (AV.agg [AV.int IntKind.i64 (Tok.kind (Prod.fst (tok l (Int.toNat (↑(Sc.pos i) : Int))))), AV.str (Tok.text (Prod.fst (tok l (Int.toNat (↑(Sc.pos i) : Int))))), AV.int IntKind.i64 (Tok.num (Prod.fst (tok l (Int.toNat (↑(Sc.pos i) : Int))))), AV.int IntKind.i64 (Tok.pos (Prod.fst (tok l (Int.toNat (↑(Sc.pos i) : Int)))))])) (i_1 - List.length (Sc.out i)) AV.any) = encT (List.getD (Sc.out j) i_1 (Tok.mk (0 : Int) [] (0 : Int) (0 : Int)))) ∧ True))))) ∧ (decide ((↑(Sc.pos i) : Int) < (↑(List.length l) : Int)) = false → List.length (Sc.out i) ≤ List.length (Sc.out i) ∧ (Shape.agg [Shape.leaf, Shape.leaf, Shape.leaf, Shape.leaf] = Shape.agg [Shape.leaf, Shape.leaf, Shape.leaf, Shape.leaf] ∧ List.length (Sc.out i) = List.length (Prod.fst (scan l)) ∧ ∀ (i_1 : Nat), i_1 < List.length (Sc.out i) → encT (List.getD (Sc.out i) i_1 (Tok.mk (0 : Int) [] (0 : Int) (0 : Int))) = encT (List.getD (Prod.fst (scan l)) i_1 (Tok.mk (0 : Int) [] (0 : Int) (0 : Int)))) ∧ (Shape.agg [Shape.leaf, Shape.leaf] = Shape.agg [Shape.leaf, Shape.leaf] ∧ (IntKind.i64 = IntKind.i64 ∧ (0 : Int) = Prod.fst (Prod.snd (scan l))) ∧ (IntKind.i64 = IntKind.i64 ∧ (0 : Int) = Prod.snd (Prod.snd (scan l))) ∧ True) ∧ True))) := by kernel_rfl
theorem k8 (l : List UInt8) (hl : l.length ≤ 9223372036854775807) : Known Tryd.prog [] 28 [.str l] (.tup [rowT (scan l).1, .mc fltSh (encF (scan l).2.1 (scan l).2.2)]) := by
  refine Known.of (V := vx 54 (inv8 l)) (fn := Tryd.f28) rfl (by kernel_rfl) (cfg_ok _) rfl ?_
  show g8 l
  rw [e8]
  simp only [and_true, true_and, decide_eq_true_eq, decide_eq_false_iff_not, beq_iff_eq, beq_eq_false_iff_ne, bne_iff_ne, bne_eq_false_iff_eq, ne_eq]
  simp only [Int.toNat_natCast, ch_def]
  refine ⟨by omega, fun h => by rw [scan_long (by omega)]; exact ⟨rfl, rfl, rfl⟩, fun h => ⟨⟨_, sc_0 l, ⟨rfl, rfl⟩, rfl⟩, fun s hs => ?_⟩⟩
  rw [scan_short (by omega)]
  have hp := hs.1
  have ho := hs.2.2.2
  have tokP : s.pos < l.length → ¬ ch l s.pos = 32 ∧ ¬ ch l s.pos = 9 → ¬ ch l s.pos = 35 → (tok l s.pos).2 = 0 → _ := fun h1 h2 h3 h4 => (⟨by decide, ⟨by simp only [Int.cast_ofNat_Int]; omega, by omega⟩, by omega, by have := tok_pos h1 h4; omega, inR64 (by omega) (by have := tok_pos h1 h4; omega), _, sc_tok hs h1 h2 h3 h4, by have := tok_pos h1 h4; simp only; omega, ⟨by simp, by simp⟩, by simp, fun j hj => app_tok _ _ _ rfl j hj⟩ : 1 * tokSh.size ≤ 16777216 ∧ (((s.out.length + 1 : Nat) : Int) * ((40 : Nat) : Int) ≤ 140737488355328 ∧ s.out.length + 1 ≤ 9223372036854775807) ∧ 1 ≤ 1 ∧ ((tok l s.pos).1.text.length : Int) ≤ 9223372036854775807 ∧ InR .i64 ((s.pos : Int) + ((tok l s.pos).1.text.length : Int)) ∧ ∃ j, scOK l j ∧ l.length - j.pos < l.length - s.pos ∧ (s.out.length + 1 = j.out.length ∧ (s.pos : Int) + ((tok l s.pos).1.text.length : Int) = j.pos) ∧ s.out.length + 1 = j.out.length ∧ ∀ i, i < s.out.length + 1 → (if i < s.out.length then encT (s.out.getD i ⟨0, [], 0, 0⟩) else ((List.replicate 1 (AV.agg [AV.int .i64 0, AV.str [], AV.int .i64 0, AV.int .i64 0])).set 0 (encT (tok l s.pos).1)).getD (i - s.out.length) AV.any) = encT (j.out.getD i ⟨0, [], 0, 0⟩))
  refine ⟨by omega, fun hlt => ⟨⟨by omega, by omega⟩, fun c1 => ⟨fun _ => ⟨inR64 (by omega) (by omega), _, sc_sp hs (by omega) (.inl c1), by simp only; omega, ⟨rfl, by simp⟩, rfl, fun _ _ => rfl⟩, fun n1 => absurd c1 n1⟩, fun n1 => ⟨fun c9 => ⟨inR64 (by omega) (by omega), _, sc_sp hs (by omega) (.inr c9), by simp only; omega, ⟨rfl, by simp⟩, rfl, fun _ _ => rfl⟩, fun n9 => ⟨fun c35 => ⟨k18c l s.pos hl, _, sc_cm hs (by omega) ⟨n1, n9⟩ c35, by have := cm_lt (l := l) (by omega) c35; simp only; omega, ⟨rfl, rfl⟩, rfl, fun _ _ => rfl⟩, fun n35 => ⟨k19 l s.pos hl (by omega), fun he => ?_, fun he => tokP (by omega) ⟨n1, n9⟩ n35 he⟩⟩⟩⟩, fun hge => ?_⟩
  · rw [sc_err hs (by omega) ⟨n1, n9⟩ n35 he]; exact ⟨rfl, rfl, rfl⟩
  · rw [sc_end hs (by omega)]; exact ⟨Nat.le_refl _, ⟨rfl, fun _ _ => rfl⟩, rfl, rfl⟩
theorem drop_cut (l : List UInt8) (i : Nat) : List.take ((l.length : Int) - (i : Int)).toNat (List.drop i l) = l.drop i := by
  rw [Int.toNat_sub, List.take_of_length_le (by simp)]
theorem ch_drop (l : List UInt8) (i j : Nat) : ch (l.drop i) j = ch l (i + j) := by
  simp [ch, List.getD_eq_getElem?_getD, List.getElem?_drop]
theorem endOf_drop (p : Int → Bool) (l : List UInt8) (i j : Nat) : i + endOf p (l.drop i) j = endOf p l (i + j) := by
  unfold endOf
  rw [List.drop_drop]
  omega
theorem cut_drop (l : List UInt8) (i a b : Nat) : cut (l.drop i) a b = cut l (i + a) (i + b) := by
  unfold cut
  rw [List.drop_drop]
  congr 1
  omega
theorem tok_drop (l : List UInt8) (i : Nat) : (tok (l.drop i) 0).2 = (tok l i).2 ∧ ((tok l i).2 = 0 → (tok (l.drop i) 0).1.kind = (tok l i).1.kind ∧ (tok (l.drop i) 0).1.text = (tok l i).1.text ∧ (tok (l.drop i) 0).1.num = (tok l i).1.num) := by
  have e1 : ch (l.drop i) 0 = ch l i := ch_drop l i 0
  have e2 : cut (l.drop i) 0 (endOf inW (l.drop i) 0) = cut l i (endOf inW l i) := by rw [cut_drop, endOf_drop]; rfl
  have e3 : cut (l.drop i) 0 (endOf inW (l.drop i) (0 + 1)) = cut l i (endOf inW l (i + 1)) := by rw [cut_drop, endOf_drop]; rfl
  have e4 : cut (l.drop i) 0 (0 + 1) = cut l i (i + 1) := by rw [cut_drop]; rfl
  unfold tok
  rw [e1, e2, e3, e4]
  split
  · exact ⟨rfl, fun _ => ⟨rfl, rfl, rfl⟩⟩
  · split
    · split
      · exact ⟨rfl, fun _ => ⟨rfl, rfl, rfl⟩⟩
      · exact ⟨rfl, fun _ => ⟨rfl, rfl, rfl⟩⟩
    · split
      · exact ⟨rfl, fun _ => ⟨rfl, rfl, rfl⟩⟩
      · split
        · exact ⟨rfl, fun _ => ⟨rfl, rfl, rfl⟩⟩
        · exact ⟨rfl, fun _ => ⟨rfl, rfl, rfl⟩⟩
theorem e10 (l : List UInt8) : g10 l = ((↑(List.length l) : Int) ≤ (9223372036854775807 : Int) ∧ (decide ((16384 : Int) < (↑(List.length l) : Int)) = true → List.length (Prod.fst (scan l)) = (0 : Nat) ∧ (Shape.agg [Shape.leaf, Shape.leaf] = Shape.agg [Shape.leaf, Shape.leaf] ∧ (IntKind.i64 = IntKind.i64 ∧ (4 : Int) = Prod.fst (Prod.snd (scan l))) ∧ (IntKind.i64 = IntKind.i64 ∧ (0 : Int) = Prod.snd (Prod.snd (scan l))) ∧ True) ∧ True) ∧ (decide ((16384 : Int) < (↑(List.length l) : Int)) = false → (∃ (i : Sc), scOK l i ∧ (l = l ∧ AV.ptr (3 : Nat) [] = AV.ptr (3 : Nat) [] ∧ (List.length (Sc.out i) = (0 : Nat) ∧ true = true ∧ true = true) ∧ (IntKind.i64 = IntKind.i64 ∧ (0 : Int) = (↑(Sc.pos i) : Int)) ∧ True) ∧ ((31 : Nat) = (31 : TypeId) ∧ Shape.agg [Shape.leaf, Shape.leaf] = Shape.agg [Shape.leaf, Shape.leaf] ∧ (IntKind.i64 = IntKind.i64 ∧ (0 : Int) = (0 : Int)) ∧ (IntKind.i64 = IntKind.i64 ∧ (0 : Int) = (0 : Int)) ∧ True) ∧ (List.length (Sc.out i) = (0 : Nat) ∧ true = true) ∧ True) ∧ ∀ (i : Sc), scOK l i → (↑(List.length l) : Int) ≤ (9223372036854775807 : Int) ∧ (decide ((↑(Sc.pos i) : Int) < (↑(List.length l) : Int)) = true → inIx (↑(Sc.pos i) : Int) (List.length l) ∧ ((!(↑(UInt8.toNat (List.getD l (Int.toNat (↑(Sc.pos i) : Int)) (0 : UInt8))) : Int) == (32 : Int)) = true → (!(↑(UInt8.toNat (List.getD l (Int.toNat (↑(Sc.pos i) : Int)) (0 : UInt8))) : Int) == (32 : Int)) = true) ∧ ((!(↑(UInt8.toNat (List.getD l (Int.toNat (↑(Sc.pos i) : Int)) (0 : UInt8))) : Int) == (32 : Int)) = true → (!(↑(UInt8.toNat (List.getD l (Int.toNat (↑(Sc.pos i) : Int)) (0 : UInt8))) : Int) == (32 : Int)) = true) ∧ ((!(↑(UInt8.toNat (List.getD l (Int.toNat (↑(Sc.pos i) : Int)) (0 : UInt8))) : Int) == (32 : Int)) = true → inIx (↑(Sc.pos i) : Int) (List.length l)) ∧ ((!(↑(UInt8.toNat (List.getD l (Int.toNat (↑(Sc.pos i) : Int)) (0 : UInt8))) : Int) == (32 : Int)) = true → (!(↑(UInt8.toNat (List.getD l (Int.toNat (↑(Sc.pos i) : Int)) (0 : UInt8))) : Int) == (32 : Int)) = true) ∧ ((!(↑(UInt8.toNat (List.getD l (Int.toNat (↑(Sc.pos i) : Int)) (0 : UInt8))) : Int) == (32 : Int)) = true → (!(↑(UInt8.toNat (List.getD l (Int.toNat (↑(Sc.pos i) : Int)) (0 : UInt8))) : Int) == (32 : Int)) = true) ∧ (((↑(UInt8.toNat (List.getD l (Int.toNat (↑(Sc.pos i) : Int)) (0 : UInt8))) : Int) == (32 : Int) || (↑(UInt8.toNat (List.getD l (Int.toNat (↑(Sc.pos i) : Int)) (0 : UInt8))) : Int) == (9 : Int)) = true → InR IntKind.i64 ((↑(Sc.pos i) : Int) + (1 : Int)) ∧ ∃ (j : Sc), scOK l j ∧ List.length l - Sc.pos j < List.length l - Sc.pos i ∧ (l = l ∧ AV.ptr (3 : Nat) [] = AV.ptr (3 : Nat) [] ∧ ((61 : Nat) = (61 : Nat) ∧ List.length (Sc.out i) = List.length (Sc.out j)) ∧ (IntKind.i64 = IntKind.i64 ∧ (↑(Sc.pos i) : Int) + (1 : Int) = (↑(Sc.pos j) : Int)) ∧ True) ∧ ((31 : TypeId) = (31 : TypeId) ∧ Shape.agg [Shape.leaf, Shape.leaf] = Shape.agg [Shape.leaf, Shape.leaf] ∧ (IntKind.i64 = IntKind.i64 ∧ (0 : Int) = (0 : Int)) ∧ (IntKind.i64 = IntKind.i64 ∧ (0 : Int) = (0 : Int)) ∧ True) ∧ ((68 : TypeId) = (68 : TypeId) ∧ Shape.agg [Shape.leaf, Shape.leaf, Shape.leaf, Shape.leaf] = Shape.agg [Shape.leaf, Shape.leaf, Shape.leaf, Shape.leaf] ∧ List.length (Sc.out i) = List.length (Sc.out j) ∧ ∀ (i_1 : Nat), i_1 < List.length (Sc.out i) → encT (List.getD (Sc.out i) i_1 (Tok.mk (0 : Int) [] (0 : Int) (0 : Int))) = encT (List.getD (Sc.out j) i_1 (Tok.mk (0 : Int) [] (0 : Int) (0 : Int)))) ∧ True) ∧ (((↑(UInt8.toNat (List.getD l (Int.toNat (↑(Sc.pos i) : Int)) (0 : UInt8))) : Int) == (32 : Int) || (↑(UInt8.toNat (List.getD l (Int.toNat (↑(Sc.pos i) : Int)) (0 : UInt8))) : Int) == (9 : Int)) = false → inIx (↑(Sc.pos i) : Int) (List.length l) ∧ (((↑(UInt8.toNat (List.getD l (Int.toNat (↑(Sc.pos i) : Int)) (0 : UInt8))) : Int) == (35 : Int)) = true → ∃ (p : Sc), (∃ (i_1 : Nat), endOf notNl l i_1 = endOf notNl l (Sc.pos p) ∧ (l = l ∧ AV.ptr (3 : Nat) [] = AV.ptr (3 : Nat) [] ∧ ((61 : Nat) = (61 : Nat) ∧ List.length (Sc.out i) = List.length (Sc.out p)) ∧ (IntKind.i64 = IntKind.i64 ∧ (↑(Sc.pos i) : Int) = (↑i_1 : Int)) ∧ True) ∧ ((31 : TypeId) = (31 : TypeId) ∧ Shape.agg [Shape.leaf, Shape.leaf] = Shape.agg [Shape.leaf, Shape.leaf] ∧ (IntKind.i64 = IntKind.i64 ∧ (0 : Int) = (0 : Int)) ∧ (IntKind.i64 = IntKind.i64 ∧ (0 : Int) = (0 : Int)) ∧ True) ∧ ((68 : TypeId) = (68 : TypeId) ∧ Shape.agg [Shape.leaf, Shape.leaf, Shape.leaf, Shape.leaf] = Shape.agg [Shape.leaf, Shape.leaf, Shape.leaf, Shape.leaf] ∧ List.length (Sc.out i) = List.length (Sc.out p) ∧ ∀ (i_2 : Nat), i_2 < List.length (Sc.out i) → encT (List.getD (Sc.out i) i_2 (Tok.mk (0 : Int) [] (0 : Int) (0 : Int))) = encT (List.getD (Sc.out p) i_2 (Tok.mk (0 : Int) [] (0 : Int) (0 : Int)))) ∧ True) ∧ ∀ (i_1 : Nat), endOf notNl l i_1 = endOf notNl l (Sc.pos p) → (↑(List.length l) : Int) ≤ (9223372036854775807 : Int) ∧ (decide ((↑i_1 : Int) < (↑(List.length l) : Int)) = true → decide ((↑i_1 : Int) < (↑(List.length l) : Int)) = true) ∧ (decide ((↑i_1 : Int) < (↑(List.length l) : Int)) = true → decide ((↑i_1 : Int) < (↑(List.length l) : Int)) = true) ∧ (decide ((↑i_1 : Int) < (↑(List.length l) : Int)) = true → inIx (↑i_1 : Int) (List.length l)) ∧ (decide ((↑i_1 : Int) < (↑(List.length l) : Int)) = true → decide ((↑i_1 : Int) < (↑(List.length l) : Int)) = true) ∧ (decide ((↑i_1 : Int) < (↑(List.length l) : Int)) = true → decide ((↑i_1 : Int) < (↑(List.length l) : Int)) = true) ∧ ((decide ((↑i_1 : Int) < (↑(List.length l) : Int)) && (↑(UInt8.toNat (List.getD l (Int.toNat (↑i_1 : Int)) (0 : UInt8))) : Int) != (10 : Int)) = true → InR IntKind.i64 ((↑i_1 : Int) + (1 : Int)) ∧ ∃ (j : Nat), endOf notNl l j = endOf notNl l (Sc.pos p) ∧ List.length l - j < List.length l - i_1 ∧ (l = l ∧ AV.ptr (3 : Nat) [] = AV.ptr (3 : Nat) [] ∧ ((61 : Nat) = (61 : Nat) ∧ List.length (Sc.out p) = List.length (Sc.out p)) ∧ (IntKind.i64 = IntKind.i64 ∧ (↑i_1 : Int) + (1 : Int) = (↑j : Int)) ∧ True) ∧ ((31 : TypeId) = (31 : TypeId) ∧ Shape.agg [Shape.leaf, Shape.leaf] = Shape.agg [Shape.leaf, Shape.leaf] ∧ (IntKind.i64 = IntKind.i64 ∧ (0 : Int) = (0 : Int)) ∧ (IntKind.i64 = IntKind.i64 ∧ (0 : Int) = (0 : Int)) ∧ True) ∧ ((68 : TypeId) = (68 : TypeId) ∧ Shape.agg [Shape.leaf, Shape.leaf, Shape.leaf, Shape.leaf] = Shape.agg [Shape.leaf, Shape.leaf, Shape.leaf, Shape.leaf] ∧ List.length (Sc.out p) = List.length (Sc.out p) ∧ ∀ (i : Nat), i < List.length (Sc.out p) → encT (List.getD (Sc.out p) i (Tok.mk (0 : Int) [] (0 : Int) (0 : Int))) = encT (List.getD (Sc.out p) i (Tok.mk (0 : Int) [] (0 : Int) (0 : Int)))) ∧ True) ∧ ((decide ((↑i_1 : Int) < (↑(List.length l) : Int)) && (↑(UInt8.toNat (List.getD l (Int.toNat (↑i_1 : Int)) (0 : UInt8))) : Int) != (10 : Int)) = false → ∃ (j : Sc), scOK l j ∧ List.length l - Sc.pos j < List.length l - Sc.pos i ∧ (l = l ∧ AV.ptr (3 : Nat) [] = AV.ptr (3 : Nat) [] ∧ ((61 : Nat) = (61 : Nat) ∧ List.length (Sc.out p) = List.length (Sc.out j)) ∧ (IntKind.i64 = IntKind.i64 ∧ (↑i_1 : Int) = (↑(Sc.pos j) : Int)) ∧ True) ∧ ((31 : TypeId) = (31 : TypeId) ∧ Shape.agg [Shape.leaf, Shape.leaf] = Shape.agg [Shape.leaf, Shape.leaf] ∧ (IntKind.i64 = IntKind.i64 ∧ (0 : Int) = (0 : Int)) ∧ (IntKind.i64 = IntKind.i64 ∧ (0 : Int) = (0 : Int)) ∧ True) ∧ ((68 : TypeId) = (68 : TypeId) ∧ Shape.agg [Shape.leaf, Shape.leaf, Shape.leaf, Shape.leaf] = Shape.agg [Shape.leaf, Shape.leaf, Shape.leaf, Shape.leaf] ∧ List.length (Sc.out p) = List.length (Sc.out j) ∧ ∀ (i : Nat), i < List.length (Sc.out p) → encT (List.getD (Sc.out p) i (Tok.mk (0 : Int) [] (0 : Int) (0 : Int))) = encT (List.getD (Sc.out j) i (Tok.mk (0 : Int) [] (0 : Int) (0 : Int)))) ∧ True)) ∧ (((↑(UInt8.toNat (List.getD l (Int.toNat (↑(Sc.pos i) : Int)) (0 : UInt8))) : Int) == (35 : Int)) = false → ((0 : Int) ≤ (↑(Sc.pos i) : Int) ∧ (↑(Sc.pos i) : Int) ≤ (↑(List.length l) : Int) ∧ (↑(List.length l) : Int) ≤ (↑(List.length l) : Int)) ∧ Known Tryd.prog [] (39 : Nat) [AV.str (List.take (Int.toNat ((↑(List.length l) : Int) - (↑(Sc.pos i) : Int))) (List.drop (Int.toNat (↑(Sc.pos i) : Int)) l))] (AV.tup [AV.mc (Shape.agg [Shape.leaf, Shape.leaf, Shape.leaf, Shape.leaf]) (AV.agg [AV.int IntKind.i64 (Tok.kind (Prod.fst (tok (List.take (Int.toNat ((↑(List.length l) : Int) - (↑(Sc.pos i) : Int))) (List.drop (Int.toNat (↑(Sc.pos i) : Int)) l)) (0 : Nat)))), AV.str (Tok.text (Prod.fst (tok (List.take (Int.toNat ((↑(List.length l) : Int) - (↑(Sc.pos i) : Int))) (List.drop (Int.toNat (↑(Sc.pos i) : Int)) l)) (0 : Nat)))), AV.int IntKind.i64 (Tok.num (Prod.fst (tok (List.take (Int.toNat ((↑(List.length l) : Int) - (↑(Sc.pos i) : Int))) (List.drop (Int.toNat (↑(Sc.pos i) : Int)) l)) (0 : Nat)))), AV.int IntKind.i64 (Tok.pos (Prod.fst (tok (List.take (Int.toNat ((↑(List.length l) : Int) - (↑(Sc.pos i) : Int))) (List.drop (Int.toNat (↑(Sc.pos i) : Int)) l)) (0 : Nat))))]), AV.int IntKind.i64 (Prod.snd (tok (List.take (Int.toNat ((↑(List.length l) : Int) - (↑(Sc.pos i) : Int))) (List.drop (Int.toNat (↑(Sc.pos i) : Int)) l)) (0 : Nat)))]) ∧ ((Prod.snd (tok (List.take (Int.toNat ((↑(List.length l) : Int) - (↑(Sc.pos i) : Int))) (List.drop (Int.toNat (↑(Sc.pos i) : Int)) l)) (0 : Nat)) != (0 : Int)) = true → List.length (Prod.fst (scan l)) = (0 : Nat) ∧ (Shape.agg [Shape.leaf, Shape.leaf] = Shape.agg [Shape.leaf, Shape.leaf] ∧ (IntKind.i64 = IntKind.i64 ∧ Prod.snd (tok (List.take (Int.toNat ((↑(List.length l) : Int) - (↑(Sc.pos i) : Int))) (List.drop (Int.toNat (↑(Sc.pos i) : Int)) l)) (0 : Nat)) = Prod.fst (Prod.snd (scan l))) ∧ (IntKind.i64 = IntKind.i64 ∧ (↑(Sc.pos i) : Int) = Prod.snd (Prod.snd (scan l))) ∧ True) ∧ True) ∧ ((Prod.snd (tok (List.take (Int.toNat ((↑(List.length l) : Int) - (↑(Sc.pos i) : Int))) (List.drop (Int.toNat (↑(Sc.pos i) : Int)) l)) (0 : Nat)) != (0 : Int)) = false → (1 : Nat) * Shape.size tokSh ≤ (16777216 : Nat) ∧ (List.length (Sc.out i) = List.length (Sc.out i) ∧ (↑(List.length (Sc.out i) + (1 : Nat)) : Int) * (↑(40 : Nat) : Int) ≤ (140737488355328 : Int) ∧ List.length (Sc.out i) + (1 : Nat) ≤ (9223372036854775807 : Nat)) ∧ (1 : Nat) ≤ (1 : Nat) ∧ (↑(List.length (Tok.text (Prod.fst (tok (List.take (Int.toNat ((↑(List.length l) : Int) - (↑(Sc.pos i) : Int))) (List.drop (Int.toNat (↑(Sc.pos i) : Int)) l)) (0 : Nat))))) : Int) ≤ (9223372036854775807 : Int) ∧ InR IntKind.i64 ((↑(Sc.pos i) : Int) + (↑(List.length (Tok.text (Prod.fst (tok (List.take (Int.toNat ((↑(List.length l) : Int) - (↑(Sc.pos i) : Int))) (List.drop (Int.toNat (↑(Sc.pos i) : Int)) l)) (0 : Nat))))) : Int)) ∧ ∃ (j : Sc), scOK l j ∧ List.length l - Sc.pos j < List.length l - Sc.pos i ∧ (l = l ∧ AV.ptr (3 : Nat) [] = AV.ptr (3 : Nat) [] ∧ ((61 : Nat) = (61 : Nat) ∧ List.length (Sc.out i) + (1 : Nat) = List.length (Sc.out j)) ∧ (IntKind.i64 = IntKind.i64 ∧ (↑(Sc.pos i) : Int) + (↑(List.length (Tok.text (Prod.fst (tok (List.take (Int.toNat ((↑(List.length l) : Int) - (↑(Sc.pos i) : Int))) (List.drop (Int.toNat (↑(Sc.pos i) : Int)) l)) (0 : Nat))))) : Int) = (↑(Sc.pos j) : Int)) ∧ True) ∧ ((31 : TypeId) = (31 : TypeId) ∧ Shape.agg [Shape.leaf, Shape.leaf] = Shape.agg [Shape.leaf, Shape.leaf] ∧ (IntKind.i64 = IntKind.i64 ∧ (0 : Int) = (0 : Int)) ∧ (IntKind.i64 = IntKind.i64 ∧ (0 : Int) = (0 : Int)) ∧ True) ∧ ((68 : TypeId) = (68 : TypeId) ∧ Shape.agg [Shape.leaf, Shape.leaf, Shape.leaf, Shape.leaf] = Shape.agg [Shape.leaf, Shape.leaf, Shape.leaf, Shape.leaf] ∧ List.length (Sc.out i) + (1 : Nat) = List.length (Sc.out j) ∧ ∀ (i_1 : Nat), i_1 < List.length (Sc.out i) + (1 : Nat) → (if i_1 < List.length (Sc.out i) then encT (List.getD (Sc.out i) i_1 (Tok.mk (0 : Int) [] (0 : Int) (0 : Int))) else List.getD (List.set (List.replicate (1 : Nat) (AV.agg [AV.int IntKind.i64 (0 : Int), AV.str [], AV.int IntKind.i64 (0 : Int), AV.int IntKind.i64 (0 : Int)])) (0 : Nat) (AV.agg [AV.int IntKind.i64 (Tok.kind (Prod.fst (tok (List.take (Int.toNat ((↑(List.length l) : Int) - (↑(Sc.pos i) : Int))) (List.drop (Int.toNat (↑(Sc.pos i) : Int)) l)) (0 : Nat)))), AV.str (Tok.text (Prod.fst (tok (List.take (Int.toNat ((↑(List.length l) : Int) - (↑(Sc.pos i) : Int))) (List.drop (Int.toNat (↑(Sc.pos i) : Int)) l)) (0 : Nat)))), AV.int IntKind.i64 (Tok.num (Prod.fst (tok (List.take (Int.toNat ((↑(List.length l) : Int) - (↑(Sc.pos i) : Int))) (List.drop (Int.toNat (↑(Sc.pos i) : Int)) l)) (0 : Nat)))), AV.int IntKind.i64 (↑(Sc.pos i) : Int)])) (i_1 - List.length (Sc.out i)) AV.any) = encT (List.getD (Sc.out j) i_1 (Tok.mk (0 : Int) [] (0 : Int) (0 : Int)))) ∧ True)))) ∧ (decide ((↑(Sc.pos i) : Int) < (↑(List.length l) : Int)) = false → List.length (Sc.out i) ≤ List.length (Sc.out i) ∧ (Shape.agg [Shape.leaf, Shape.leaf, Shape.leaf, Shape.leaf] = Shape.agg [Shape.leaf, Shape.leaf, Shape.leaf, Shape.leaf] ∧ List.length (Sc.out i) = List.length (Prod.fst (scan l)) ∧ ∀ (i_1 : Nat), i_1 < List.length (Sc.out i) → encT (List.getD (Sc.out i) i_1 (Tok.mk (0 : Int) [] (0 : Int) (0 : Int))) = encT (List.getD (Prod.fst (scan l)) i_1 (Tok.mk (0 : Int) [] (0 : Int) (0 : Int)))) ∧ (Shape.agg [Shape.leaf, Shape.leaf] = Shape.agg [Shape.leaf, Shape.leaf] ∧ (IntKind.i64 = IntKind.i64 ∧ (0 : Int) = Prod.fst (Prod.snd (scan l))) ∧ (IntKind.i64 = IntKind.i64 ∧ (0 : Int) = Prod.snd (Prod.snd (scan l))) ∧ True) ∧ True))) := by kernel_rfl
theorem k10 (l : List UInt8) (hl : l.length ≤ 9223372036854775807) : Known Tryd.prog [] 22 [.str l] (.tup [rowT (scan l).1, .mc fltSh (encF (scan l).2.1 (scan l).2.2)]) := by
  refine Known.of (V := { vx 69 (inv10 l) with invP := inv10P l }) (fn := Tryd.f22) rfl (by kernel_rfl) (cfg_ok _) rfl ?_
  show g10 l
  rw [e10]
  simp only [and_true, true_and, implies_true, Bool.or_eq_true, Bool.and_eq_true, Bool.or_eq_false_iff, Bool.and_eq_false_iff, Bool.not_eq_true', decide_eq_true_eq, decide_eq_false_iff_not, imp_self, beq_iff_eq, beq_eq_false_iff_ne, bne_iff_ne, bne_eq_false_iff_eq, ne_eq]
  simp only [Int.toNat_natCast, ch_def]
  simp only [drop_cut]
  refine ⟨by omega, fun h => by rw [scan_long (by omega)]; exact ⟨rfl, rfl, rfl⟩, fun h => ⟨⟨_, sc_0 l, ⟨rfl, rfl⟩, rfl⟩, fun s hs => ?_⟩⟩
  rw [scan_short (by omega)]
  have hp := hs.1
  have ho := hs.2.2.2
  obtain ⟨t1, t2⟩ := tok_drop l s.pos
  refine ⟨by omega, fun hlt => ⟨⟨by omega, by omega⟩, fun _ => ⟨by omega, by omega⟩, fun c1 => ⟨inR64 (by omega) (by omega), _, sc_sp hs (by omega) c1, by simp only; omega, ⟨rfl, by simp⟩, rfl, fun _ _ => rfl⟩, fun n1 => ⟨⟨by omega, by omega⟩, fun c35 => ⟨s, ⟨s.pos, rfl, ⟨rfl, rfl⟩, rfl, fun _ _ => rfl⟩, fun i hi => ⟨by omega, fun _ => ⟨by omega, by omega⟩, fun h2 => ⟨inR64 (by omega) (by omega), i + 1, ?_, by omega, by omega⟩, fun h2 => ?_⟩⟩, fun n35 => ?_⟩⟩, fun hge => ?_⟩
  · exact (endOf_step (p := notNl) (by omega) (by simp [notNl, h2.2])).symm.trans hi
  · have hst : endOf notNl l s.pos = i := by
      rw [← hi]
      exact endOf_stop (h2.imp (by omega) (fun h => by rw [h]; decide))
    have h5 := cm_lt (l := l) (by omega) c35
    have h6 := sc_cm hs (by omega) n1 c35
    rw [hst] at h5 h6
    exact ⟨_, h6, by simp only; omega, ⟨rfl, rfl⟩, rfl, fun _ _ => rfl⟩
  · rw [t1]
    refine ⟨⟨by omega, by omega, by omega⟩, by have := k20 (l.drop s.pos) (by rw [List.length_drop]; omega) (by rw [List.length_drop]; omega); rw [t1] at this; exact this, fun he => ?_, fun he => ?_⟩
    · rw [sc_err hs (by omega) n1 n35 he]; exact ⟨rfl, rfl, rfl⟩
    · obtain ⟨u1, u2, u3⟩ := t2 he
      have h7 := tok_pos (l := l) (a := s.pos) (by omega) he
      rw [u1, u2, u3]
      refine ⟨by decide, ⟨by simp only [Int.cast_ofNat_Int]; omega, by omega⟩, by omega, by omega, inR64 (by omega) (by omega), _, sc_tok hs (by omega) n1 n35 he, by simp only; omega, ⟨by simp, by simp⟩, by simp, fun j hj => app_tok _ _ _ ?_ j hj⟩
      rw [← h7.2.2]
      rfl
  · rw [sc_end hs (by omega)]; exact ⟨Nat.le_refl _, ⟨rfl, fun _ _ => rfl⟩, rfl, rfl⟩
theorem parse_err (l : List UInt8) : (parse l).2 ≠ 4 := by
  unfold parse
  split
  · first | decide | exact (by decide : (0 : Int) ≠ 4)
  · split
    · first | decide | exact (by decide : (0 : Int) ≠ 4)
    · split
      · first | decide | exact (by decide : (0 : Int) ≠ 4)
      · first | decide | exact (by decide : (0 : Int) ≠ 4)
theorem tok_err (l : List UInt8) (a : Nat) : (tok l a).2 ≠ 4 := by
  unfold tok
  split
  · first | decide | exact (by decide : (0 : Int) ≠ 4)
  · split
    · split
      · first | decide | exact (by decide : (0 : Int) ≠ 4)
      · exact parse_err _
    · split
      · first | decide | exact (by decide : (0 : Int) ≠ 4)
      · split
        · first | decide | exact (by decide : (0 : Int) ≠ 4)
        · first | decide | exact (by decide : (0 : Int) ≠ 4)
theorem scanN_err (l : List UInt8) : ∀ k i out, (scanN l k i out).2.1 ≠ 4
  | 0, _, _ => by simp [scanN]
  | k + 1, i, out => by
    unfold scanN
    split
    · split
      · exact scanN_err l k _ _
      · split
        · exact scanN_err l k _ _
        · split
          · exact scanN_err l k _ _
          · exact tok_err l i
    · first | decide | exact (by decide : (0 : Int) ≠ 4)
theorem scanN_len (l : List UInt8) : ∀ k i out, out.length ≤ i → (scanN l k i out).1.length ≤ max i l.length
  | 0, i, out, h => by simp only [scanN]; omega
  | k + 1, i, out, h => by
    unfold scanN
    split
    · rename_i hi
      split
      · have := scanN_len l k (i + 1) out (by omega); omega
      · split
        · have h1 := endOf_ge notNl l i
          have h2 := endOf_le (p := notNl) (l := l) (i := i) (by omega)
          have := scanN_len l k (endOf notNl l i) out (by omega); omega
        · split
          · rename_i ht
            have h1 := tok_pos hi ht
            have := scanN_len l k (i + (tok l i).1.text.length) (out ++ [(tok l i).1]) (by rw [List.length_append]; simp only [List.length_cons, List.length_nil]; omega)
            omega
          · simp
    · simp only; omega
theorem scan_len (l : List UInt8) : (scan l).1.length ≤ 16384 := by
  unfold scan
  split
  · simp
  · have := scanN_len l l.length 0 [] (by simp)
    omega
end Go.Proofs.S52
