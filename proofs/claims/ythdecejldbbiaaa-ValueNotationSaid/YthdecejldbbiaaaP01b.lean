import Derived.Test.YthdecejldbbiaaaP01
namespace Go.Proofs.S01
open Go Go.AV
theorem tk (l : List UInt8) : List.take (Int.toNat ((l.length : Int) - 1)) (List.drop (Int.toNat 1) l) = l.drop 1 := by
  rw [List.take_of_length_le]
  · rfl
  · simp
theorem len_drop (l : List UInt8) : (l.drop 1).length = l.length - 1 := List.length_drop
theorem nil_len (l : List UInt8) : l = [] ↔ l.length = 0 := by cases l <;> simp
theorem one_48 (l : List UInt8) : l = [48] ↔ l.length = 1 ∧ (l.getD 0 0).toNat = 48 := by
  constructor
  · rintro rfl; exact ⟨rfl, rfl⟩
  · intro ⟨h1, h2⟩
    match l, h1 with
    | [c], _ =>
      have : c = 48 := UInt8.toNat_inj.1 h2
      rw [this]
theorem notat_iff (l : List UInt8) : notat l = true ↔ (l.length = 1 ∧ (l.getD 0 0).toNat = 48) ∨ ((∀ i, i < (strip l).length → isDig ((strip l).getD i 0) = true) ∧ (strip l).length ≠ 0 ∧ ((strip l).getD 0 0).toNat ≠ 48) := by
  have h : (strip l).all isDig = true ↔ ∀ i, i < (strip l).length → isDig ((strip l).getD i 0) = true := by
    rw [List.all_eq_true]
    constructor
    · intro h i hi
      have : (strip l).getD i 0 = (strip l)[i] := by simp [hi]
      rw [this]; exact h _ (List.getElem_mem hi)
    · intro h x hx
      obtain ⟨i, hi, rfl⟩ := List.mem_iff_getElem.1 hx
      have := h i hi
      simpa [hi] using this
  unfold notat
  simp only [Bool.or_eq_true, Bool.and_eq_true, beq_iff_eq, Bool.not_eq_true', beq_eq_false_iff_ne, ne_eq, one_48, nil_len, h]
  constructor
  · rintro (h | ⟨⟨h1, h2⟩, h3⟩)
    · exact .inl h
    · exact .inr ⟨h1, h2, h3⟩
  · rintro (h | ⟨h1, h2, h3⟩)
    · exact .inl h
    · exact .inr ⟨⟨h1, h2⟩, h3⟩
theorem strip_y {l : List UInt8} (h : (l.getD 0 0).toNat = 45) : strip l = l.drop 1 := if_pos h
theorem strip_n {l : List UInt8} (h : ¬ (l.getD 0 0).toNat = 45) : strip l = l := if_neg h
theorem dig_iff (c : UInt8) : isDig c = true ↔ 48 ≤ c.toNat ∧ c.toNat ≤ 57 := by simp [isDig]
theorem t_eq {p : Bool} (h : p = true) : true = p := h.symm
theorem round (l : List UInt8) (hn : (strip l).length ≤ 9223372036854775807) (hend : (∀ i, i < (strip l).length → isDig ((strip l).getD i 0) = true) → notat l = true) (hbad : notat l = true → ∀ i, i < (strip l).length → isDig ((strip l).getD i 0) = true)
    (i : Nat) (hi : i ≤ (strip l).length ∧ ∀ j, j < i → isDig ((strip l).getD j 0) = true) :
    ((i : Int) < (strip l).length → inIx i (strip l).length ∧ (¬ (((strip l).getD i 0).toNat : Int) < 48 → inIx i (strip l).length) ∧
      ((((strip l).getD i 0).toNat : Int) < 48 ∨ 57 < (((strip l).getD i 0).toNat : Int) → false = notat l) ∧
      (¬ (((strip l).getD i 0).toNat : Int) < 48 ∧ ¬ 57 < (((strip l).getD i 0).toNat : Int) → InR .i64 ((i : Int) + 1) ∧ ∃ j, (j ≤ (strip l).length ∧ ∀ k, k < j → isDig ((strip l).getD k 0) = true) ∧ (strip l).length - j < (strip l).length - i ∧ (i : Int) + 1 = j)) ∧
    (¬ (i : Int) < (strip l).length → true = notat l) := by
  refine ⟨fun hlt => ⟨⟨by omega, by omega⟩, fun _ => ⟨by omega, by omega⟩, fun h => f_eq fun hb => ?_, fun h => ⟨inR64 (by omega) (by omega), i + 1, ⟨by omega, fun j hj => ?_⟩, by omega, by omega⟩⟩, fun hge => (hend fun j hj => hi.2 j (by omega)).symm⟩
  · have := (dig_iff _).1 (hbad hb i (by omega))
    omega
  · by_cases e : j = i
    · subst e; exact (dig_iff _).2 (by omega)
    · exact hi.2 j (by omega)
theorem notat_dig {l : List UInt8} (h : notat l = true) : ∀ i, i < (strip l).length → isDig ((strip l).getD i 0) = true := by
  rcases (notat_iff l).1 h with ⟨a, b⟩ | ⟨a, _, _⟩
  · rw [strip_n (by omega)]
    intro i hi
    obtain rfl : i = 0 := by omega
    exact (dig_iff _).2 (by omega)
  · exact a
theorem notat_len {l : List UInt8} (h : notat l = true) : (strip l).length ≠ 0 := by
  rcases (notat_iff l).1 h with ⟨a, b⟩ | ⟨_, a, _⟩
  · rw [strip_n (by omega)]; omega
  · exact a
theorem strip_len (l : List UInt8) : (strip l).length ≤ l.length := by
  unfold strip; split
  · rw [len_drop]; omega
  · omega
theorem e21 (l : List UInt8) : g21 l = (((!l == []) = true → (!l == []) = true) ∧ ((!l == []) = true → inIx (0 : Int) (List.length l)) ∧ ((!l == []) = true → (!l == []) = true) ∧ ((!l == []) = true → (!l == []) = true) ∧ ((!l == [] && (↑(UInt8.toNat (List.getD l (Int.toNat (0 : Int)) (0 : UInt8))) : Int) == (45 : Int)) = true → ((0 : Int) ≤ (1 : Int) ∧ (1 : Int) ≤ (↑(List.length l) : Int) ∧ (↑(List.length l) : Int) ≤ (↑(List.length l) : Int)) ∧ ((List.take (Int.toNat ((↑(List.length l) : Int) - (1 : Int))) (List.drop (Int.toNat (1 : Int)) l) == [(48 : UInt8)]) = true → false = notat l) ∧ ((List.take (Int.toNat ((↑(List.length l) : Int) - (1 : Int))) (List.drop (Int.toNat (1 : Int)) l) == [(48 : UInt8)]) = false → ((!List.take (Int.toNat ((↑(List.length l) : Int) - (1 : Int))) (List.drop (Int.toNat (1 : Int)) l) == []) = true → (!List.take (Int.toNat ((↑(List.length l) : Int) - (1 : Int))) (List.drop (Int.toNat (1 : Int)) l) == []) = true) ∧ ((!List.take (Int.toNat ((↑(List.length l) : Int) - (1 : Int))) (List.drop (Int.toNat (1 : Int)) l) == []) = true → (↑(List.length (List.take (Int.toNat ((↑(List.length l) : Int) - (1 : Int))) (List.drop (Int.toNat (1 : Int)) l))) : Int) ≤ (9223372036854775807 : Int)) ∧ ((!List.take (Int.toNat ((↑(List.length l) : Int) - (1 : Int))) (List.drop (Int.toNat (1 : Int)) l) == []) = true → (!List.take (Int.toNat ((↑(List.length l) : Int) - (1 : Int))) (List.drop (Int.toNat (1 : Int)) l) == []) = true) ∧ ((!List.take (Int.toNat ((↑(List.length l) : Int) - (1 : Int))) (List.drop (Int.toNat (1 : Int)) l) == []) = true → (!List.take (Int.toNat ((↑(List.length l) : Int) - (1 : Int))) (List.drop (Int.toNat (1 : Int)) l) == []) = true) ∧ ((!List.take (Int.toNat ((↑(List.length l) : Int) - (1 : Int))) (List.drop (Int.toNat (1 : Int)) l) == [] && decide ((1 : Int) < (↑(List.length (List.take (Int.toNat ((↑(List.length l) : Int) - (1 : Int))) (List.drop (Int.toNat (1 : Int)) l))) : Int))) = true → (!List.take (Int.toNat ((↑(List.length l) : Int) - (1 : Int))) (List.drop (Int.toNat (1 : Int)) l) == [] && decide ((1 : Int) < (↑(List.length (List.take (Int.toNat ((↑(List.length l) : Int) - (1 : Int))) (List.drop (Int.toNat (1 : Int)) l))) : Int))) = true) ∧ ((!List.take (Int.toNat ((↑(List.length l) : Int) - (1 : Int))) (List.drop (Int.toNat (1 : Int)) l) == [] && decide ((1 : Int) < (↑(List.length (List.take (Int.toNat ((↑(List.length l) : Int) - (1 : Int))) (List.drop (Int.toNat (1 : Int)) l))) : Int))) = true → inIx (0 : Int) (List.length (List.take (Int.toNat ((↑(List.length l) : Int) - (1 : Int))) (List.drop (Int.toNat (1 : Int)) l)))) ∧ ((!List.take (Int.toNat ((↑(List.length l) : Int) - (1 : Int))) (List.drop (Int.toNat (1 : Int)) l) == [] && decide ((1 : Int) < (↑(List.length (List.take (Int.toNat ((↑(List.length l) : Int) - (1 : Int))) (List.drop (Int.toNat (1 : Int)) l))) : Int))) = true → (!List.take (Int.toNat ((↑(List.length l) : Int) - (1 : Int))) (List.drop (Int.toNat (1 : Int)) l) == [] && decide ((1 : Int) < (↑(List.length (List.take (Int.toNat ((↑(List.length l) : Int) - (1 : Int))) (List.drop (Int.toNat (1 : Int)) l))) : Int))) = true) ∧ ((!List.take (Int.toNat ((↑(List.length l) : Int) - (1 : Int))) (List.drop (Int.toNat (1 : Int)) l) == []) = true → (!List.take (Int.toNat ((↑(List.length l) : Int) - (1 : Int))) (List.drop (Int.toNat (1 : Int)) l) == []) = true) ∧ ((!List.take (Int.toNat ((↑(List.length l) : Int) - (1 : Int))) (List.drop (Int.toNat (1 : Int)) l) == []) = true → decide ((1 : Int) < (↑(List.length (List.take (Int.toNat ((↑(List.length l) : Int) - (1 : Int))) (List.drop (Int.toNat (1 : Int)) l))) : Int)) = true → (!List.take (Int.toNat ((↑(List.length l) : Int) - (1 : Int))) (List.drop (Int.toNat (1 : Int)) l) == [] && decide ((1 : Int) < (↑(List.length (List.take (Int.toNat ((↑(List.length l) : Int) - (1 : Int))) (List.drop (Int.toNat (1 : Int)) l))) : Int))) = true) ∧ ((!List.take (Int.toNat ((↑(List.length l) : Int) - (1 : Int))) (List.drop (Int.toNat (1 : Int)) l) == []) = true → (!List.take (Int.toNat ((↑(List.length l) : Int) - (1 : Int))) (List.drop (Int.toNat (1 : Int)) l) == []) = true) ∧ ((List.take (Int.toNat ((↑(List.length l) : Int) - (1 : Int))) (List.drop (Int.toNat (1 : Int)) l) == [] || decide ((1 : Int) < (↑(List.length (List.take (Int.toNat ((↑(List.length l) : Int) - (1 : Int))) (List.drop (Int.toNat (1 : Int)) l))) : Int)) && (↑(UInt8.toNat (List.getD (List.take (Int.toNat ((↑(List.length l) : Int) - (1 : Int))) (List.drop (Int.toNat (1 : Int)) l)) (Int.toNat (0 : Int)) (0 : UInt8))) : Int) == (48 : Int)) = true → false = notat l) ∧ ((List.take (Int.toNat ((↑(List.length l) : Int) - (1 : Int))) (List.drop (Int.toNat (1 : Int)) l) == [] || decide ((1 : Int) < (↑(List.length (List.take (Int.toNat ((↑(List.length l) : Int) - (1 : Int))) (List.drop (Int.toNat (1 : Int)) l))) : Int)) && (↑(UInt8.toNat (List.getD (List.take (Int.toNat ((↑(List.length l) : Int) - (1 : Int))) (List.drop (Int.toNat (1 : Int)) l)) (Int.toNat (0 : Int)) (0 : UInt8))) : Int) == (48 : Int)) = false → (↑(List.length (List.take (Int.toNat ((↑(List.length l) : Int) - (1 : Int))) (List.drop (Int.toNat (1 : Int)) l))) : Int) ≤ (9223372036854775807 : Int) ∧ (∃ (i : Nat), (i ≤ List.length (strip l) ∧ ∀ (j : Nat), j < i → isDig (List.getD (strip l) j (0 : UInt8)) = true) ∧ (List.take (Int.toNat ((↑(List.length l) : Int) - (1 : Int))) (List.drop (Int.toNat (1 : Int)) l) = strip l ∧ (IntKind.i64 = IntKind.i64 ∧ (↑(List.length (List.take (Int.toNat ((↑(List.length l) : Int) - (1 : Int))) (List.drop (Int.toNat (1 : Int)) l))) : Int) = (↑(List.length (strip l)) : Int)) ∧ (IntKind.i64 = IntKind.i64 ∧ (0 : Int) = (↑i : Int)) ∧ True) ∧ True) ∧ ∀ (i : Nat), (i ≤ List.length (strip l) ∧ ∀ (j : Nat), j < i → isDig (List.getD (strip l) j (0 : UInt8)) = true) → (decide ((↑i : Int) < (↑(List.length (strip l)) : Int)) = true → inIx (↑i : Int) (List.length (strip l)) ∧ ((!decide ((↑(UInt8.toNat (List.getD (strip l) (Int.toNat (↑i : Int)) (0 : UInt8))) : Int) < (48 : Int))) = true → (!decide ((↑(UInt8.toNat (List.getD (strip l) (Int.toNat (↑i : Int)) (0 : UInt8))) : Int) < (48 : Int))) = true) ∧ ((!decide ((↑(UInt8.toNat (List.getD (strip l) (Int.toNat (↑i : Int)) (0 : UInt8))) : Int) < (48 : Int))) = true → (!decide ((↑(UInt8.toNat (List.getD (strip l) (Int.toNat (↑i : Int)) (0 : UInt8))) : Int) < (48 : Int))) = true) ∧ ((!decide ((↑(UInt8.toNat (List.getD (strip l) (Int.toNat (↑i : Int)) (0 : UInt8))) : Int) < (48 : Int))) = true → inIx (↑i : Int) (List.length (strip l))) ∧ ((!decide ((↑(UInt8.toNat (List.getD (strip l) (Int.toNat (↑i : Int)) (0 : UInt8))) : Int) < (48 : Int))) = true → (!decide ((↑(UInt8.toNat (List.getD (strip l) (Int.toNat (↑i : Int)) (0 : UInt8))) : Int) < (48 : Int))) = true) ∧ ((!decide ((↑(UInt8.toNat (List.getD (strip l) (Int.toNat (↑i : Int)) (0 : UInt8))) : Int) < (48 : Int))) = true → (!decide ((↑(UInt8.toNat (List.getD (strip l) (Int.toNat (↑i : Int)) (0 : UInt8))) : Int) < (48 : Int))) = true) ∧ ((decide ((↑(UInt8.toNat (List.getD (strip l) (Int.toNat (↑i : Int)) (0 : UInt8))) : Int) < (48 : Int)) || decide ((57 : Int) < (↑(UInt8.toNat (List.getD (strip l) (Int.toNat (↑i : Int)) (0 : UInt8))) : Int))) = true → false = notat l) ∧ ((decide ((↑(UInt8.toNat (List.getD (strip l) (Int.toNat (↑i : Int)) (0 : UInt8))) : Int) < (48 : Int)) || decide ((57 : Int) < (↑(UInt8.toNat (List.getD (strip l) (Int.toNat (↑i : Int)) (0 : UInt8))) : Int))) = false → InR IntKind.i64 ((↑i : Int) + (1 : Int)) ∧ ∃ (j : Nat), (j ≤ List.length (strip l) ∧ ∀ (j_1 : Nat), j_1 < j → isDig (List.getD (strip l) j_1 (0 : UInt8)) = true) ∧ List.length (strip l) - j < List.length (strip l) - i ∧ (strip l = strip l ∧ (IntKind.i64 = IntKind.i64 ∧ (↑(List.length (strip l)) : Int) = (↑(List.length (strip l)) : Int)) ∧ (IntKind.i64 = IntKind.i64 ∧ (↑i : Int) + (1 : Int) = (↑j : Int)) ∧ True) ∧ True)) ∧ (decide ((↑i : Int) < (↑(List.length (strip l)) : Int)) = false → true = notat l)))) ∧ ((!l == [] && (↑(UInt8.toNat (List.getD l (Int.toNat (0 : Int)) (0 : UInt8))) : Int) == (45 : Int)) = false → ((!l == []) = true → (!l == []) = true) ∧ ((!l == []) = true → (↑(List.length l) : Int) ≤ (9223372036854775807 : Int)) ∧ ((!l == []) = true → (!l == []) = true) ∧ ((!l == []) = true → (!l == []) = true) ∧ ((!l == [] && decide ((1 : Int) < (↑(List.length l) : Int))) = true → (!l == [] && decide ((1 : Int) < (↑(List.length l) : Int))) = true) ∧ ((!l == [] && decide ((1 : Int) < (↑(List.length l) : Int))) = true → inIx (0 : Int) (List.length l)) ∧ ((!l == [] && decide ((1 : Int) < (↑(List.length l) : Int))) = true → (!l == [] && decide ((1 : Int) < (↑(List.length l) : Int))) = true) ∧ ((!l == []) = true → (!l == []) = true) ∧ ((!l == []) = true → decide ((1 : Int) < (↑(List.length l) : Int)) = true → (!l == [] && decide ((1 : Int) < (↑(List.length l) : Int))) = true) ∧ ((!l == []) = true → (!l == []) = true) ∧ ((l == [] || decide ((1 : Int) < (↑(List.length l) : Int)) && (↑(UInt8.toNat (List.getD l (Int.toNat (0 : Int)) (0 : UInt8))) : Int) == (48 : Int)) = true → false = notat l) ∧ ((l == [] || decide ((1 : Int) < (↑(List.length l) : Int)) && (↑(UInt8.toNat (List.getD l (Int.toNat (0 : Int)) (0 : UInt8))) : Int) == (48 : Int)) = false → (↑(List.length l) : Int) ≤ (9223372036854775807 : Int) ∧ (∃ (i : Nat), (i ≤ List.length (strip l) ∧ ∀ (j : Nat), j < i → isDig (List.getD (strip l) j (0 : UInt8)) = true) ∧ (l = strip l ∧ (IntKind.i64 = IntKind.i64 ∧ (↑(List.length l) : Int) = (↑(List.length (strip l)) : Int)) ∧ (IntKind.i64 = IntKind.i64 ∧ (0 : Int) = (↑i : Int)) ∧ True) ∧ True) ∧ ∀ (i : Nat), (i ≤ List.length (strip l) ∧ ∀ (j : Nat), j < i → isDig (List.getD (strip l) j (0 : UInt8)) = true) → (decide ((↑i : Int) < (↑(List.length (strip l)) : Int)) = true → inIx (↑i : Int) (List.length (strip l)) ∧ ((!decide ((↑(UInt8.toNat (List.getD (strip l) (Int.toNat (↑i : Int)) (0 : UInt8))) : Int) < (48 : Int))) = true → (!decide ((↑(UInt8.toNat (List.getD (strip l) (Int.toNat (↑i : Int)) (0 : UInt8))) : Int) < (48 : Int))) = true) ∧ ((!decide ((↑(UInt8.toNat (List.getD (strip l) (Int.toNat (↑i : Int)) (0 : UInt8))) : Int) < (48 : Int))) = true → (!decide ((↑(UInt8.toNat (List.getD (strip l) (Int.toNat (↑i : Int)) (0 : UInt8))) : Int) < (48 : Int))) = true) ∧ ((!decide ((↑(UInt8.toNat (List.getD (strip l) (Int.toNat (↑i : Int)) (0 : UInt8))) : Int) < (48 : Int))) = true → inIx (↑i : Int) (List.length (strip l))) ∧ ((!decide ((↑(UInt8.toNat (List.getD (strip l) (Int.toNat (↑i : Int)) (0 : UInt8))) : Int) < (48 : Int))) = true → (!decide ((↑(UInt8.toNat (List.getD (strip l) (Int.toNat (↑i : Int)) (0 : UInt8))) : Int) < (48 : Int))) = true) ∧ ((!decide ((↑(UInt8.toNat (List.getD (strip l) (Int.toNat (↑i : Int)) (0 : UInt8))) : Int) < (48 : Int))) = true → (!decide ((↑(UInt8.toNat (List.getD (strip l) (Int.toNat (↑i : Int)) (0 : UInt8))) : Int) < (48 : Int))) = true) ∧ ((decide ((↑(UInt8.toNat (List.getD (strip l) (Int.toNat (↑i : Int)) (0 : UInt8))) : Int) < (48 : Int)) || decide ((57 : Int) < (↑(UInt8.toNat (List.getD (strip l) (Int.toNat (↑i : Int)) (0 : UInt8))) : Int))) = true → false = notat l) ∧ ((decide ((↑(UInt8.toNat (List.getD (strip l) (Int.toNat (↑i : Int)) (0 : UInt8))) : Int) < (48 : Int)) || decide ((57 : Int) < (↑(UInt8.toNat (List.getD (strip l) (Int.toNat (↑i : Int)) (0 : UInt8))) : Int))) = false → InR IntKind.i64 ((↑i : Int) + (1 : Int)) ∧ ∃ (j : Nat), (j ≤ List.length (strip l) ∧ ∀ (j_1 : Nat), j_1 < j → isDig (List.getD (strip l) j_1 (0 : UInt8)) = true) ∧ List.length (strip l) - j < List.length (strip l) - i ∧ (strip l = strip l ∧ (IntKind.i64 = IntKind.i64 ∧ (↑(List.length (strip l)) : Int) = (↑(List.length (strip l)) : Int)) ∧ (IntKind.i64 = IntKind.i64 ∧ (↑i : Int) + (1 : Int) = (↑j : Int)) ∧ True) ∧ True)) ∧ (decide ((↑i : Int) < (↑(List.length (strip l)) : Int)) = false → true = notat l)))) := by kernel_rfl
theorem k21 (l : List UInt8) (hn : l.length ≤ 9223372036854775807) : Known Try.prog [] 21 [.str l] (.bool (notat l)) := by
  refine Known.of (V := vx 43 (inv21 l)) (fn := Try.f21) rfl (by kernel_rfl) (cfg_ok _) rfl ?_
  show g21 l
  rw [e21]
  simp only [and_true, true_and, implies_true, Bool.or_eq_true, Bool.and_eq_true, Bool.or_eq_false_iff, Bool.and_eq_false_iff, Bool.not_eq_true', decide_eq_true_eq, decide_eq_false_iff_not, Bool.not_eq_false', imp_self, beq_iff_eq, beq_eq_false_iff_ne, bne_iff_ne, bne_eq_false_iff_eq, ne_eq, Decidable.not_not]
  simp only [tk, nil_len, one_48, Int.toNat_natCast, Int.toNat_zero, len_drop]
  have hs0 := strip_len l
  refine ⟨fun _ => ⟨by omega, by omega⟩, fun h => ?_, fun h => ?_⟩
  · have hs := strip_y (l := l) (by omega)
    rw [← hs]
    have hl : (strip l).length = l.length - 1 := by rw [hs]; exact len_drop l
    rw [← hl]
    refine ⟨⟨by omega, by omega, by omega⟩, fun h1 => f_eq fun hb => ?_, fun h1 => ⟨fun _ => by omega, fun _ => ⟨by omega, by omega⟩, fun a b => ⟨a, b⟩, fun h2 => f_eq fun hb => ?_, fun h2 => ⟨by omega, ⟨0, ⟨by omega, fun j hj => by omega⟩, rfl, rfl, rfl⟩, round l (by omega) (fun hd => (notat_iff l).2 (.inr ⟨hd, by omega, by omega⟩)) notat_dig⟩⟩⟩
    · rcases (notat_iff l).1 hb with ⟨_, _⟩ | ⟨_, _, _⟩ <;> omega
    · rcases (notat_iff l).1 hb with ⟨_, _⟩ | ⟨_, _, _⟩ <;> omega
  · have hs : strip l = l := by
      by_cases h0 : l.length = 0
      · rw [(nil_len l).2 h0]; rfl
      · exact strip_n (by omega)
    refine ⟨fun _ => by omega, fun _ => ⟨by omega, by omega⟩, fun a b => ⟨a, b⟩, fun h2 => f_eq fun hb => ?_, fun h2 => ⟨by omega, ⟨0, ⟨by omega, fun j hj => by omega⟩, hs.symm, by rw [hs], rfl⟩, round l (by omega) (fun hd => ?_) notat_dig⟩⟩
    · have := (notat_iff l).1 hb
      rw [hs] at this
      rcases this with ⟨_, _⟩ | ⟨_, _, _⟩ <;> omega
    · refine (notat_iff l).2 ?_
      by_cases h48 : (l.getD 0 0).toNat = 48
      · exact .inl (by omega)
      · refine .inr ⟨hd, ?_⟩
        rw [hs]; omega
theorem e22 (l : List UInt8) : g22 l = (((l == [(48 : UInt8)]) = true → true = notat l) ∧ ((l == [(48 : UInt8)]) = false → (↑(List.length l) : Int) ≤ (9223372036854775807 : Int) ∧ (decide ((0 : Int) < (↑(List.length l) : Int)) = true → decide ((0 : Int) < (↑(List.length l) : Int)) = true) ∧ (decide ((0 : Int) < (↑(List.length l) : Int)) = true → inIx (0 : Int) (List.length l)) ∧ (decide ((0 : Int) < (↑(List.length l) : Int)) = true → decide ((0 : Int) < (↑(List.length l) : Int)) = true) ∧ (decide ((0 : Int) < (↑(List.length l) : Int)) = true → decide ((0 : Int) < (↑(List.length l) : Int)) = true) ∧ ((decide ((0 : Int) < (↑(List.length l) : Int)) && (↑(UInt8.toNat (List.getD l (Int.toNat (0 : Int)) (0 : UInt8))) : Int) == (45 : Int)) = true → ((0 : Int) ≤ (1 : Int) ∧ (1 : Int) ≤ (↑(List.length l) : Int) ∧ (↑(List.length l) : Int) ≤ (↑(List.length l) : Int)) ∧ ((!List.take (Int.toNat ((↑(List.length l) : Int) - (1 : Int))) (List.drop (Int.toNat (1 : Int)) l) == []) = true → (!List.take (Int.toNat ((↑(List.length l) : Int) - (1 : Int))) (List.drop (Int.toNat (1 : Int)) l) == []) = true) ∧ ((!List.take (Int.toNat ((↑(List.length l) : Int) - (1 : Int))) (List.drop (Int.toNat (1 : Int)) l) == []) = true → inIx (0 : Int) (List.length (List.take (Int.toNat ((↑(List.length l) : Int) - (1 : Int))) (List.drop (Int.toNat (1 : Int)) l)))) ∧ ((!List.take (Int.toNat ((↑(List.length l) : Int) - (1 : Int))) (List.drop (Int.toNat (1 : Int)) l) == []) = true → (!List.take (Int.toNat ((↑(List.length l) : Int) - (1 : Int))) (List.drop (Int.toNat (1 : Int)) l) == []) = true) ∧ ((!List.take (Int.toNat ((↑(List.length l) : Int) - (1 : Int))) (List.drop (Int.toNat (1 : Int)) l) == []) = true → (!List.take (Int.toNat ((↑(List.length l) : Int) - (1 : Int))) (List.drop (Int.toNat (1 : Int)) l) == []) = true) ∧ ((List.take (Int.toNat ((↑(List.length l) : Int) - (1 : Int))) (List.drop (Int.toNat (1 : Int)) l) == [] || (↑(UInt8.toNat (List.getD (List.take (Int.toNat ((↑(List.length l) : Int) - (1 : Int))) (List.drop (Int.toNat (1 : Int)) l)) (Int.toNat (0 : Int)) (0 : UInt8))) : Int) == (48 : Int)) = true → false = notat l) ∧ ((List.take (Int.toNat ((↑(List.length l) : Int) - (1 : Int))) (List.drop (Int.toNat (1 : Int)) l) == [] || (↑(UInt8.toNat (List.getD (List.take (Int.toNat ((↑(List.length l) : Int) - (1 : Int))) (List.drop (Int.toNat (1 : Int)) l)) (Int.toNat (0 : Int)) (0 : UInt8))) : Int) == (48 : Int)) = false → (∃ (i : Nat), (i ≤ List.length (strip l) ∧ ∀ (j : Nat), j < i → isDig (List.getD (strip l) j (0 : UInt8)) = true) ∧ (List.take (Int.toNat ((↑(List.length l) : Int) - (1 : Int))) (List.drop (Int.toNat (1 : Int)) l) = strip l ∧ (IntKind.i64 = IntKind.i64 ∧ (0 : Int) = (↑i : Int)) ∧ True) ∧ True) ∧ ∀ (i : Nat), (i ≤ List.length (strip l) ∧ ∀ (j : Nat), j < i → isDig (List.getD (strip l) j (0 : UInt8)) = true) → (↑(List.length (strip l)) : Int) ≤ (9223372036854775807 : Int) ∧ (decide ((↑i : Int) < (↑(List.length (strip l)) : Int)) = true → inIx (↑i : Int) (List.length (strip l)) ∧ ((!decide ((↑(UInt8.toNat (List.getD (strip l) (Int.toNat (↑i : Int)) (0 : UInt8))) : Int) < (48 : Int))) = true → (!decide ((↑(UInt8.toNat (List.getD (strip l) (Int.toNat (↑i : Int)) (0 : UInt8))) : Int) < (48 : Int))) = true) ∧ ((!decide ((↑(UInt8.toNat (List.getD (strip l) (Int.toNat (↑i : Int)) (0 : UInt8))) : Int) < (48 : Int))) = true → (!decide ((↑(UInt8.toNat (List.getD (strip l) (Int.toNat (↑i : Int)) (0 : UInt8))) : Int) < (48 : Int))) = true) ∧ ((!decide ((↑(UInt8.toNat (List.getD (strip l) (Int.toNat (↑i : Int)) (0 : UInt8))) : Int) < (48 : Int))) = true → inIx (↑i : Int) (List.length (strip l))) ∧ ((!decide ((↑(UInt8.toNat (List.getD (strip l) (Int.toNat (↑i : Int)) (0 : UInt8))) : Int) < (48 : Int))) = true → (!decide ((↑(UInt8.toNat (List.getD (strip l) (Int.toNat (↑i : Int)) (0 : UInt8))) : Int) < (48 : Int))) = true) ∧ ((!decide ((↑(UInt8.toNat (List.getD (strip l) (Int.toNat (↑i : Int)) (0 : UInt8))) : Int) < (48 : Int))) = true → (!decide ((↑(UInt8.toNat (List.getD (strip l) (Int.toNat (↑i : Int)) (0 : UInt8))) : Int) < (48 : Int))) = true) ∧ ((decide ((↑(UInt8.toNat (List.getD (strip l) (Int.toNat (↑i : Int)) (0 : UInt8))) : Int) < (48 : Int)) || decide ((57 : Int) < (↑(UInt8.toNat (List.getD (strip l) (Int.toNat (↑i : Int)) (0 : UInt8))) : Int))) = true → false = notat l) ∧ ((decide ((↑(UInt8.toNat (List.getD (strip l) (Int.toNat (↑i : Int)) (0 : UInt8))) : Int) < (48 : Int)) || decide ((57 : Int) < (↑(UInt8.toNat (List.getD (strip l) (Int.toNat (↑i : Int)) (0 : UInt8))) : Int))) = false → InR IntKind.i64 ((↑i : Int) + (1 : Int)) ∧ ∃ (j : Nat), (j ≤ List.length (strip l) ∧ ∀ (j_1 : Nat), j_1 < j → isDig (List.getD (strip l) j_1 (0 : UInt8)) = true) ∧ List.length (strip l) - j < List.length (strip l) - i ∧ (strip l = strip l ∧ (IntKind.i64 = IntKind.i64 ∧ (↑i : Int) + (1 : Int) = (↑j : Int)) ∧ True) ∧ True)) ∧ (decide ((↑i : Int) < (↑(List.length (strip l)) : Int)) = false → true = notat l))) ∧ ((decide ((0 : Int) < (↑(List.length l) : Int)) && (↑(UInt8.toNat (List.getD l (Int.toNat (0 : Int)) (0 : UInt8))) : Int) == (45 : Int)) = false → ((!l == []) = true → (!l == []) = true) ∧ ((!l == []) = true → inIx (0 : Int) (List.length l)) ∧ ((!l == []) = true → (!l == []) = true) ∧ ((!l == []) = true → (!l == []) = true) ∧ ((l == [] || (↑(UInt8.toNat (List.getD l (Int.toNat (0 : Int)) (0 : UInt8))) : Int) == (48 : Int)) = true → false = notat l) ∧ ((l == [] || (↑(UInt8.toNat (List.getD l (Int.toNat (0 : Int)) (0 : UInt8))) : Int) == (48 : Int)) = false → (∃ (i : Nat), (i ≤ List.length (strip l) ∧ ∀ (j : Nat), j < i → isDig (List.getD (strip l) j (0 : UInt8)) = true) ∧ (l = strip l ∧ (IntKind.i64 = IntKind.i64 ∧ (0 : Int) = (↑i : Int)) ∧ True) ∧ True) ∧ ∀ (i : Nat), (i ≤ List.length (strip l) ∧ ∀ (j : Nat), j < i → isDig (List.getD (strip l) j (0 : UInt8)) = true) → (↑(List.length (strip l)) : Int) ≤ (9223372036854775807 : Int) ∧ (decide ((↑i : Int) < (↑(List.length (strip l)) : Int)) = true → inIx (↑i : Int) (List.length (strip l)) ∧ ((!decide ((↑(UInt8.toNat (List.getD (strip l) (Int.toNat (↑i : Int)) (0 : UInt8))) : Int) < (48 : Int))) = true → (!decide ((↑(UInt8.toNat (List.getD (strip l) (Int.toNat (↑i : Int)) (0 : UInt8))) : Int) < (48 : Int))) = true) ∧ ((!decide ((↑(UInt8.toNat (List.getD (strip l) (Int.toNat (↑i : Int)) (0 : UInt8))) : Int) < (48 : Int))) = true → (!decide ((↑(UInt8.toNat (List.getD (strip l) (Int.toNat (↑i : Int)) (0 : UInt8))) : Int) < (48 : Int))) = true) ∧ ((!decide ((↑(UInt8.toNat (List.getD (strip l) (Int.toNat (↑i : Int)) (0 : UInt8))) : Int) < (48 : Int))) = true → inIx (↑i : Int) (List.length (strip l))) ∧ ((!decide ((↑(UInt8.toNat (List.getD (strip l) (Int.toNat (↑i : Int)) (0 : UInt8))) : Int) < (48 : Int))) = true → (!decide ((↑(UInt8.toNat (List.getD (strip l) (Int.toNat (↑i : Int)) (0 : UInt8))) : Int) < (48 : Int))) = true) ∧ ((!decide ((↑(UInt8.toNat (List.getD (strip l) (Int.toNat (↑i : Int)) (0 : UInt8))) : Int) < (48 : Int))) = true → (!decide ((↑(UInt8.toNat (List.getD (strip l) (Int.toNat (↑i : Int)) (0 : UInt8))) : Int) < (48 : Int))) = true) ∧ ((decide ((↑(UInt8.toNat (List.getD (strip l) (Int.toNat (↑i : Int)) (0 : UInt8))) : Int) < (48 : Int)) || decide ((57 : Int) < (↑(UInt8.toNat (List.getD (strip l) (Int.toNat (↑i : Int)) (0 : UInt8))) : Int))) = true → false = notat l) ∧ ((decide ((↑(UInt8.toNat (List.getD (strip l) (Int.toNat (↑i : Int)) (0 : UInt8))) : Int) < (48 : Int)) || decide ((57 : Int) < (↑(UInt8.toNat (List.getD (strip l) (Int.toNat (↑i : Int)) (0 : UInt8))) : Int))) = false → InR IntKind.i64 ((↑i : Int) + (1 : Int)) ∧ ∃ (j : Nat), (j ≤ List.length (strip l) ∧ ∀ (j_1 : Nat), j_1 < j → isDig (List.getD (strip l) j_1 (0 : UInt8)) = true) ∧ List.length (strip l) - j < List.length (strip l) - i ∧ (strip l = strip l ∧ (IntKind.i64 = IntKind.i64 ∧ (↑i : Int) + (1 : Int) = (↑j : Int)) ∧ True) ∧ True)) ∧ (decide ((↑i : Int) < (↑(List.length (strip l)) : Int)) = false → true = notat l))))) := by kernel_rfl
theorem k22 (l : List UInt8) (hn : l.length ≤ 9223372036854775807) : Known Try.prog [] 22 [.str l] (.bool (notat l)) := by
  refine Known.of (V := vx 39 (inv22 l)) (fn := Try.f22) rfl (by kernel_rfl) (cfg_ok _) rfl ?_
  show g22 l
  rw [e22]
  simp only [and_true, true_and, implies_true, Bool.or_eq_true, Bool.and_eq_true, Bool.or_eq_false_iff, Bool.and_eq_false_iff, Bool.not_eq_true', decide_eq_true_eq, decide_eq_false_iff_not, Bool.not_eq_false', imp_self, beq_iff_eq, beq_eq_false_iff_ne, bne_iff_ne, bne_eq_false_iff_eq, ne_eq, Decidable.not_not]
  simp only [tk, nil_len, one_48, Int.toNat_natCast, Int.toNat_zero, len_drop]
  have hs0 := strip_len l
  refine ⟨fun h => ((notat_iff l).2 (.inl h)).symm, fun h0 => ⟨by omega, fun _ => ⟨by omega, by omega⟩, fun h => ?_, fun h => ?_⟩⟩
  · have hs := strip_y (l := l) (by omega)
    rw [← hs]
    have hl : (strip l).length = l.length - 1 := by rw [hs]; exact len_drop l
    rw [← hl]
    refine ⟨⟨by omega, by omega, by omega⟩, fun _ => ⟨by omega, by omega⟩, fun h2 => f_eq fun hb => ?_, fun h2 => ⟨⟨0, ⟨by omega, fun j hj => by omega⟩, rfl, rfl⟩, fun i hi => ⟨by omega, round l (by omega) (fun hd => (notat_iff l).2 (.inr ⟨hd, by omega, by omega⟩)) notat_dig i hi⟩⟩⟩
    rcases (notat_iff l).1 hb with ⟨_, _⟩ | ⟨_, _, _⟩ <;> omega
  · have hs : strip l = l := by
      by_cases h0 : l.length = 0
      · rw [(nil_len l).2 h0]; rfl
      · exact strip_n (by omega)
    refine ⟨fun _ => ⟨by omega, by omega⟩, fun h2 => f_eq fun hb => ?_, fun h2 => ⟨⟨0, ⟨by omega, fun j hj => by omega⟩, hs.symm, rfl⟩, fun i hi => ⟨by omega, round l (by omega) (fun hd => ?_) notat_dig i hi⟩⟩⟩
    · have := (notat_iff l).1 hb
      rw [hs] at this
      rcases this with ⟨_, _⟩ | ⟨_, _, _⟩ <;> omega
    · refine (notat_iff l).2 (.inr ⟨hd, ?_⟩)
      rw [hs]; omega
theorem parse_bad {l : List UInt8} (h : notat l = false) : parse l = (0, 16) := by simp [parse, h]
theorem parse_long {l : List UInt8} (h : notat l = true) (h1 : 10 < (strip l).length) : parse l = (0, 2) := by simp [parse, h, h1]
theorem parse_out {l : List UInt8} (h : notat l = true) (h1 : ¬ 10 < (strip l).length) (h2 : signed l < -2147483648 ∨ 2147483647 < signed l) : parse l = (0, 2) := by
  unfold parse
  rw [if_neg (by simp [h]), if_neg h1, if_pos h2]
theorem parse_in {l : List UInt8} (h : notat l = true) (h1 : ¬ 10 < (strip l).length) (h2 : ¬ signed l < -2147483648 ∧ ¬ 2147483647 < signed l) : parse l = (signed l, 0) := by
  unfold parse
  rw [if_neg (by simp [h]), if_neg h1, if_neg (by omega)]
theorem pow10 {k : Nat} (h : k ≤ 12) : (10 : Int) ^ k ≤ 1000000000000 := by
  have h1 : (10 : Nat) ^ k ≤ 10 ^ 12 := Nat.pow_le_pow_right (by decide) h
  have h3 : ((10 ^ k : Nat) : Int) = (10 : Int) ^ k := by norm_cast
  omega
theorem numN_rng (m : List UInt8) : ∀ k, (∀ j, j < k → isDig (m.getD j 0) = true) → 0 ≤ numN m k ∧ numN m k < 10 ^ k
  | 0, _ => by simp [numN]
  | k + 1, h => by
    have ih := numN_rng m k fun j hj => h j (by omega)
    have hd := (dig_iff _).1 (h k (by omega))
    simp only [numN, Int.pow_succ]
    omega
theorem numR_rng (l : List UInt8) : ∀ k, (∀ j, j < k → ¬ (l.getD j 0).toNat = 45 → isDig (l.getD j 0) = true) → 0 ≤ numR l k ∧ numR l k < 10 ^ k
  | 0, _ => by simp [numR]
  | k + 1, h => by
    have ih := numR_rng l k fun j hj => h j (by omega)
    simp only [numR, Int.pow_succ]
    split
    · omega
    · rename_i e
      have hd := (dig_iff _).1 (h k (by omega) e)
      omega
theorem drop_get (l : List UInt8) (k : Nat) : (l.drop 1).getD k 0 = l.getD (k + 1) 0 := by
  simp [List.getD_eq_getElem?_getD, List.getElem?_drop, Nat.add_comm]
theorem numR_y {l : List UInt8} (h : (l.getD 0 0).toNat = 45) (hd : ∀ i, i < (strip l).length → isDig ((strip l).getD i 0) = true) : ∀ k, k ≤ (strip l).length → numR l (k + 1) = numN (strip l) k
  | 0, _ => by simp only [numR, numN]; rw [if_pos h]
  | k + 1, hk => by
    have ih := numR_y h hd k (by omega)
    have h2 := (dig_iff _).1 (hd k (by omega))
    have e : (strip l).getD k 0 = l.getD (k + 1) 0 := by rw [strip_y h]; exact drop_get l k
    rw [numR, numN, e]
    rw [e] at h2
    rw [if_neg (by omega), ih]
    omega
theorem numR_n {l : List UInt8} (hd : ∀ i, i < l.length → isDig (l.getD i 0) = true) : ∀ k, k ≤ l.length → numR l k = numN l k
  | 0, _ => rfl
  | k + 1, hk => by
    have ih := numR_n hd k (by omega)
    have h2 := (dig_iff _).1 (hd k (by omega))
    rw [numR, numN, if_neg (by omega), ih]
    omega
theorem numN_big {m : List UInt8} (h0 : 49 ≤ (m.getD 0 0).toNat) : ∀ k, (∀ j, j < k + 1 → isDig (m.getD j 0) = true) → 10 ^ k ≤ numN m (k + 1)
  | 0, _ => by simp only [numN]; omega
  | k + 1, h => by
    have ih := numN_big h0 k fun j hj => h j (by omega)
    have hd := (dig_iff _).1 (h (k + 1) (by omega))
    rw [numN, Int.pow_succ]
    omega
theorem signed_y {l : List UInt8} (h : (l.getD 0 0).toNat = 45) : signed l = 0 - numN (strip l) (strip l).length := if_pos h
theorem signed_n {l : List UInt8} (h : ¬ (l.getD 0 0).toNat = 45) : signed l = numN (strip l) (strip l).length := if_neg h
theorem inRu8 {n : Int} (h : 0 ≤ n ∧ n ≤ 255) : InR .u8 n := by
  simp only [InR, IntKind.wrap, IntKind.signed, IntKind.bits]
  simp
  omega
theorem e14 (l : List UInt8) : g14 l = (Known Try.prog [] (21 : Nat) [AV.str l] (AV.bool (notat l)) ∧ ((!notat l) = true → (IntKind.i64 = IntKind.i64 ∧ (0 : Int) = (parse l).1) ∧ (IntKind.i64 = IntKind.i64 ∧ (16 : Int) = (parse l).2) ∧ True) ∧ ((!notat l) = false → inIx (0 : Int) (List.length l) ∧ (((↑(UInt8.toNat (List.getD l (Int.toNat (0 : Int)) (0 : UInt8))) : Int) == (45 : Int)) = true → ((0 : Int) ≤ (1 : Int) ∧ (1 : Int) ≤ (↑(List.length l) : Int) ∧ (↑(List.length l) : Int) ≤ (↑(List.length l) : Int)) ∧ (↑(List.length (List.take (Int.toNat ((↑(List.length l) : Int) - (1 : Int))) (List.drop (Int.toNat (1 : Int)) l))) : Int) ≤ (9223372036854775807 : Int) ∧ (decide ((10 : Int) < (↑(List.length (List.take (Int.toNat ((↑(List.length l) : Int) - (1 : Int))) (List.drop (Int.toNat (1 : Int)) l))) : Int)) = true → (IntKind.i64 = IntKind.i64 ∧ (0 : Int) = (parse l).1) ∧ (IntKind.i64 = IntKind.i64 ∧ (2 : Int) = (parse l).2) ∧ True) ∧ (decide ((10 : Int) < (↑(List.length (List.take (Int.toNat ((↑(List.length l) : Int) - (1 : Int))) (List.drop (Int.toNat (1 : Int)) l))) : Int)) = false → (↑(List.length (List.take (Int.toNat ((↑(List.length l) : Int) - (1 : Int))) (List.drop (Int.toNat (1 : Int)) l))) : Int) ≤ (9223372036854775807 : Int) ∧ (∃ (i : Nat), i ≤ List.length (strip l) ∧ (List.take (Int.toNat ((↑(List.length l) : Int) - (1 : Int))) (List.drop (Int.toNat (1 : Int)) l) = strip l ∧ ((↑(UInt8.toNat (List.getD l (Int.toNat (0 : Int)) (0 : UInt8))) : Int) == (45 : Int)) = decide (UInt8.toNat (List.getD l (0 : Nat) (0 : UInt8)) = (45 : Nat)) ∧ (IntKind.i64 = IntKind.i64 ∧ (0 : Int) = numN (strip l) i) ∧ (IntKind.i64 = IntKind.i64 ∧ (↑(List.length (List.take (Int.toNat ((↑(List.length l) : Int) - (1 : Int))) (List.drop (Int.toNat (1 : Int)) l))) : Int) = (↑(List.length (strip l)) : Int)) ∧ (IntKind.i64 = IntKind.i64 ∧ (0 : Int) = (↑i : Int)) ∧ True) ∧ True) ∧ ∀ (i : Nat), i ≤ List.length (strip l) → (decide ((↑i : Int) < (↑(List.length (strip l)) : Int)) = true → InR IntKind.i64 (numN (strip l) i * (10 : Int)) ∧ inIx (↑i : Int) (List.length (strip l)) ∧ InR IntKind.u8 ((↑(UInt8.toNat (List.getD (strip l) (Int.toNat (↑i : Int)) (0 : UInt8))) : Int) - (48 : Int)) ∧ InR IntKind.i64 (numN (strip l) i * (10 : Int) + ((↑(UInt8.toNat (List.getD (strip l) (Int.toNat (↑i : Int)) (0 : UInt8))) : Int) - (48 : Int))) ∧ InR IntKind.i64 ((↑i : Int) + (1 : Int)) ∧ ∃ (j : Nat), j ≤ List.length (strip l) ∧ List.length (strip l) - j < List.length (strip l) - i ∧ (strip l = strip l ∧ decide (UInt8.toNat (List.getD l (0 : Nat) (0 : UInt8)) = (45 : Nat)) = decide (UInt8.toNat (List.getD l (0 : Nat) (0 : UInt8)) = (45 : Nat)) ∧ (IntKind.i64 = IntKind.i64 ∧ numN (strip l) i * (10 : Int) + ((↑(UInt8.toNat (List.getD (strip l) (Int.toNat (↑i : Int)) (0 : UInt8))) : Int) - (48 : Int)) = numN (strip l) j) ∧ (IntKind.i64 = IntKind.i64 ∧ (↑(List.length (strip l)) : Int) = (↑(List.length (strip l)) : Int)) ∧ (IntKind.i64 = IntKind.i64 ∧ (↑i : Int) + (1 : Int) = (↑j : Int)) ∧ True) ∧ True) ∧ (decide ((↑i : Int) < (↑(List.length (strip l)) : Int)) = false → (decide (UInt8.toNat (List.getD l (0 : Nat) (0 : UInt8)) = (45 : Nat)) = true → InR IntKind.i64 ((0 : Int) - numN (strip l) i) ∧ ((!decide ((0 : Int) - numN (strip l) i < (-2147483648 : Int))) = true → (!decide ((0 : Int) - numN (strip l) i < (-2147483648 : Int))) = true) ∧ ((!decide ((0 : Int) - numN (strip l) i < (-2147483648 : Int))) = true → (!decide ((0 : Int) - numN (strip l) i < (-2147483648 : Int))) = true) ∧ ((decide ((0 : Int) - numN (strip l) i < (-2147483648 : Int)) || decide ((2147483647 : Int) < (0 : Int) - numN (strip l) i)) = true → (IntKind.i64 = IntKind.i64 ∧ (0 : Int) = (parse l).1) ∧ (IntKind.i64 = IntKind.i64 ∧ (2 : Int) = (parse l).2) ∧ True) ∧ ((decide ((0 : Int) - numN (strip l) i < (-2147483648 : Int)) || decide ((2147483647 : Int) < (0 : Int) - numN (strip l) i)) = false → (IntKind.i64 = IntKind.i64 ∧ (0 : Int) - numN (strip l) i = (parse l).1) ∧ (IntKind.i64 = IntKind.i64 ∧ (0 : Int) = (parse l).2) ∧ True)) ∧ (decide (UInt8.toNat (List.getD l (0 : Nat) (0 : UInt8)) = (45 : Nat)) = false → ((!decide (numN (strip l) i < (-2147483648 : Int))) = true → (!decide (numN (strip l) i < (-2147483648 : Int))) = true) ∧ ((!decide (numN (strip l) i < (-2147483648 : Int))) = true → (!decide (numN (strip l) i < (-2147483648 : Int))) = true) ∧ ((decide (numN (strip l) i < (-2147483648 : Int)) || decide ((2147483647 : Int) < numN (strip l) i)) = true → (IntKind.i64 = IntKind.i64 ∧ (0 : Int) = (parse l).1) ∧ (IntKind.i64 = IntKind.i64 ∧ (2 : Int) = (parse l).2) ∧ True) ∧ ((decide (numN (strip l) i < (-2147483648 : Int)) || decide ((2147483647 : Int) < numN (strip l) i)) = false → (IntKind.i64 = IntKind.i64 ∧ numN (strip l) i = (parse l).1) ∧ (IntKind.i64 = IntKind.i64 ∧ (0 : Int) = (parse l).2) ∧ True))))) ∧ (((↑(UInt8.toNat (List.getD l (Int.toNat (0 : Int)) (0 : UInt8))) : Int) == (45 : Int)) = false → (↑(List.length l) : Int) ≤ (9223372036854775807 : Int) ∧ (decide ((10 : Int) < (↑(List.length l) : Int)) = true → (IntKind.i64 = IntKind.i64 ∧ (0 : Int) = (parse l).1) ∧ (IntKind.i64 = IntKind.i64 ∧ (2 : Int) = (parse l).2) ∧ True) ∧ (decide ((10 : Int) < (↑(List.length l) : Int)) = false → (↑(List.length l) : Int) ≤ (9223372036854775807 : Int) ∧ (∃ (i : Nat), i ≤ List.length (strip l) ∧ (l = strip l ∧ ((↑(UInt8.toNat (List.getD l (Int.toNat (0 : Int)) (0 : UInt8))) : Int) == (45 : Int)) = decide (UInt8.toNat (List.getD l (0 : Nat) (0 : UInt8)) = (45 : Nat)) ∧ (IntKind.i64 = IntKind.i64 ∧ (0 : Int) = numN (strip l) i) ∧ (IntKind.i64 = IntKind.i64 ∧ (↑(List.length l) : Int) = (↑(List.length (strip l)) : Int)) ∧ (IntKind.i64 = IntKind.i64 ∧ (0 : Int) = (↑i : Int)) ∧ True) ∧ True) ∧ ∀ (i : Nat), i ≤ List.length (strip l) → (decide ((↑i : Int) < (↑(List.length (strip l)) : Int)) = true → InR IntKind.i64 (numN (strip l) i * (10 : Int)) ∧ inIx (↑i : Int) (List.length (strip l)) ∧ InR IntKind.u8 ((↑(UInt8.toNat (List.getD (strip l) (Int.toNat (↑i : Int)) (0 : UInt8))) : Int) - (48 : Int)) ∧ InR IntKind.i64 (numN (strip l) i * (10 : Int) + ((↑(UInt8.toNat (List.getD (strip l) (Int.toNat (↑i : Int)) (0 : UInt8))) : Int) - (48 : Int))) ∧ InR IntKind.i64 ((↑i : Int) + (1 : Int)) ∧ ∃ (j : Nat), j ≤ List.length (strip l) ∧ List.length (strip l) - j < List.length (strip l) - i ∧ (strip l = strip l ∧ decide (UInt8.toNat (List.getD l (0 : Nat) (0 : UInt8)) = (45 : Nat)) = decide (UInt8.toNat (List.getD l (0 : Nat) (0 : UInt8)) = (45 : Nat)) ∧ (IntKind.i64 = IntKind.i64 ∧ numN (strip l) i * (10 : Int) + ((↑(UInt8.toNat (List.getD (strip l) (Int.toNat (↑i : Int)) (0 : UInt8))) : Int) - (48 : Int)) = numN (strip l) j) ∧ (IntKind.i64 = IntKind.i64 ∧ (↑(List.length (strip l)) : Int) = (↑(List.length (strip l)) : Int)) ∧ (IntKind.i64 = IntKind.i64 ∧ (↑i : Int) + (1 : Int) = (↑j : Int)) ∧ True) ∧ True) ∧ (decide ((↑i : Int) < (↑(List.length (strip l)) : Int)) = false → (decide (UInt8.toNat (List.getD l (0 : Nat) (0 : UInt8)) = (45 : Nat)) = true → InR IntKind.i64 ((0 : Int) - numN (strip l) i) ∧ ((!decide ((0 : Int) - numN (strip l) i < (-2147483648 : Int))) = true → (!decide ((0 : Int) - numN (strip l) i < (-2147483648 : Int))) = true) ∧ ((!decide ((0 : Int) - numN (strip l) i < (-2147483648 : Int))) = true → (!decide ((0 : Int) - numN (strip l) i < (-2147483648 : Int))) = true) ∧ ((decide ((0 : Int) - numN (strip l) i < (-2147483648 : Int)) || decide ((2147483647 : Int) < (0 : Int) - numN (strip l) i)) = true → (IntKind.i64 = IntKind.i64 ∧ (0 : Int) = (parse l).1) ∧ (IntKind.i64 = IntKind.i64 ∧ (2 : Int) = (parse l).2) ∧ True) ∧ ((decide ((0 : Int) - numN (strip l) i < (-2147483648 : Int)) || decide ((2147483647 : Int) < (0 : Int) - numN (strip l) i)) = false → (IntKind.i64 = IntKind.i64 ∧ (0 : Int) - numN (strip l) i = (parse l).1) ∧ (IntKind.i64 = IntKind.i64 ∧ (0 : Int) = (parse l).2) ∧ True)) ∧ (decide (UInt8.toNat (List.getD l (0 : Nat) (0 : UInt8)) = (45 : Nat)) = false → ((!decide (numN (strip l) i < (-2147483648 : Int))) = true → (!decide (numN (strip l) i < (-2147483648 : Int))) = true) ∧ ((!decide (numN (strip l) i < (-2147483648 : Int))) = true → (!decide (numN (strip l) i < (-2147483648 : Int))) = true) ∧ ((decide (numN (strip l) i < (-2147483648 : Int)) || decide ((2147483647 : Int) < numN (strip l) i)) = true → (IntKind.i64 = IntKind.i64 ∧ (0 : Int) = (parse l).1) ∧ (IntKind.i64 = IntKind.i64 ∧ (2 : Int) = (parse l).2) ∧ True) ∧ ((decide (numN (strip l) i < (-2147483648 : Int)) || decide ((2147483647 : Int) < numN (strip l) i)) = false → (IntKind.i64 = IntKind.i64 ∧ numN (strip l) i = (parse l).1) ∧ (IntKind.i64 = IntKind.i64 ∧ (0 : Int) = (parse l).2) ∧ True))))))) := by kernel_rfl
theorem k14 (l : List UInt8) (hn : l.length ≤ 9223372036854775807) : Known Try.prog [] 14 [.str l] (.tup [.int .i64 (parse l).1, .int .i64 (parse l).2]) := by
  refine Known.of (V := vx 43 (inv14 l)) (fn := Try.f14) rfl (by kernel_rfl) (cfg_ok _) rfl ?_
  show g14 l
  rw [e14]
  simp only [and_true, true_and, implies_true, Bool.or_eq_true, Bool.and_eq_true, Bool.or_eq_false_iff, Bool.and_eq_false_iff, Bool.not_eq_true', decide_eq_true_eq, decide_eq_false_iff_not, Bool.not_eq_false', imp_self, beq_iff_eq, beq_eq_false_iff_ne, bne_iff_ne, bne_eq_false_iff_eq, ne_eq, Decidable.not_not]
  simp only [tk, nil_len, one_48, Int.toNat_natCast, Int.toNat_zero, len_drop]
  have hs0 := strip_len l
  refine ⟨k21 l hn, fun h => by rw [parse_bad h]; exact ⟨rfl, rfl⟩, fun hb => ?_⟩
  have hd := notat_dig hb
  have h0 := notat_len hb
  have hN : (strip l).length ≤ 10 → ∀ i, i ≤ (strip l).length → 0 ≤ numN (strip l) i ∧ numN (strip l) i ≤ 1000000000000 := fun h i hi => by
    have := numN_rng (strip l) i fun j hj => hd j (by omega)
    have := pow10 (k := i) (by omega)
    omega
  refine ⟨⟨by omega, by omega⟩, fun h => ?_, fun h => ?_⟩
  · have h45 : (l.getD 0 0).toNat = 45 := by omega
    have hs := strip_y h45
    rw [← hs]
    have hl : (strip l).length = l.length - 1 := by rw [hs]; exact len_drop l
    rw [← hl]
    refine ⟨⟨by omega, by omega, by omega⟩, by omega, fun h1 => by rw [parse_long hb (by omega)]; exact ⟨rfl, rfl⟩, fun h1 => ⟨by omega, ⟨0, by omega, rfl, ?_, rfl, rfl, rfl⟩, fun i hi => ⟨fun hlt => ?_, fun hge => ?_⟩⟩⟩
    · simp only [h45]; rfl
    · have h2 := (dig_iff _).1 (hd i (by omega))
      have h3 := hN (by omega) i hi
      exact ⟨inR64 (by omega) (by omega), ⟨by omega, by omega⟩, inRu8 (by omega), inR64 (by omega) (by omega), inR64 (by omega) (by omega), i + 1, by omega, by omega, rfl, by omega⟩
    · obtain rfl : i = (strip l).length := by omega
      have h3 := hN (by omega) _ hi
      have h4 := signed_y h45
      refine ⟨fun _ => ⟨inR64 (by omega) (by omega), fun h5 => ?_, fun h5 => ?_⟩, fun h5 => absurd h45 h5⟩
      · rw [parse_out hb (by omega) (by omega)]; exact ⟨rfl, rfl⟩
      · rw [parse_in hb (by omega) (by omega)]; exact ⟨h4.symm, rfl⟩
  · have h45 : ¬ (l.getD 0 0).toNat = 45 := by omega
    have hs := strip_n h45
    refine ⟨by omega, fun h1 => by rw [parse_long hb (by rw [hs]; omega)]; exact ⟨rfl, rfl⟩, fun h1 => ⟨by omega, ⟨0, by omega, hs.symm, ?_, rfl, by rw [hs], rfl⟩, fun i hi => ⟨fun hlt => ?_, fun hge => ?_⟩⟩⟩
    · rw [decide_eq_false h45]; exact beq_eq_false_iff_ne.2 h
    · have h2 := (dig_iff _).1 (hd i (by omega))
      have h3 := hN (by omega) i hi
      exact ⟨inR64 (by omega) (by omega), ⟨by omega, by omega⟩, inRu8 (by omega), inR64 (by omega) (by omega), inR64 (by omega) (by omega), i + 1, by omega, by omega, rfl, by omega⟩
    · obtain rfl : i = (strip l).length := by omega
      have h4 := signed_n h45
      refine ⟨fun h5 => absurd h5 h45, fun _ => ⟨fun h5 => ?_, fun h5 => ?_⟩⟩
      · rw [parse_out hb (by omega) (by omega)]; exact ⟨rfl, rfl⟩
      · rw [parse_in hb (by omega) (by omega)]; exact ⟨h4.symm, rfl⟩
theorem e15 (l : List UInt8) : g15 l = (Known Try.prog [] (22 : Nat) [AV.str l] (AV.bool (notat l)) ∧ ((!notat l) = true → (IntKind.i64 = IntKind.i64 ∧ (0 : Int) = (parse l).1) ∧ (IntKind.i64 = IntKind.i64 ∧ (16 : Int) = (parse l).2) ∧ True) ∧ ((!notat l) = false → (↑(List.length l) : Int) ≤ (9223372036854775807 : Int) ∧ (decide ((11 : Int) < (↑(List.length l) : Int)) = true → (IntKind.i64 = IntKind.i64 ∧ (0 : Int) = (parse l).1) ∧ (IntKind.i64 = IntKind.i64 ∧ (2 : Int) = (parse l).2) ∧ True) ∧ (decide ((11 : Int) < (↑(List.length l) : Int)) = false → (∃ (i : Nat), i ≤ List.length l ∧ (l = l ∧ (IntKind.i64 = IntKind.i64 ∧ (0 : Int) = numR l i) ∧ (IntKind.i64 = IntKind.i64 ∧ (0 : Int) = (↑i : Int)) ∧ True) ∧ True) ∧ ∀ (i : Nat), i ≤ List.length l → (↑(List.length l) : Int) ≤ (9223372036854775807 : Int) ∧ (decide ((↑i : Int) < (↑(List.length l) : Int)) = true → inIx (↑i : Int) (List.length l) ∧ (((↑(UInt8.toNat (List.getD l (Int.toNat (↑i : Int)) (0 : UInt8))) : Int) != (45 : Int)) = true → InR IntKind.i64 ((10 : Int) * numR l i) ∧ inIx (↑i : Int) (List.length l) ∧ InR IntKind.u8 ((↑(UInt8.toNat (List.getD l (Int.toNat (↑i : Int)) (0 : UInt8))) : Int) - (48 : Int)) ∧ InR IntKind.i64 ((10 : Int) * numR l i + ((↑(UInt8.toNat (List.getD l (Int.toNat (↑i : Int)) (0 : UInt8))) : Int) - (48 : Int))) ∧ InR IntKind.i64 ((↑i : Int) + (1 : Int)) ∧ ∃ (j : Nat), j ≤ List.length l ∧ List.length l - j < List.length l - i ∧ (l = l ∧ (IntKind.i64 = IntKind.i64 ∧ (10 : Int) * numR l i + ((↑(UInt8.toNat (List.getD l (Int.toNat (↑i : Int)) (0 : UInt8))) : Int) - (48 : Int)) = numR l j) ∧ (IntKind.i64 = IntKind.i64 ∧ (↑i : Int) + (1 : Int) = (↑j : Int)) ∧ True) ∧ True) ∧ (((↑(UInt8.toNat (List.getD l (Int.toNat (↑i : Int)) (0 : UInt8))) : Int) != (45 : Int)) = false → InR IntKind.i64 ((↑i : Int) + (1 : Int)) ∧ ∃ (j : Nat), j ≤ List.length l ∧ List.length l - j < List.length l - i ∧ (l = l ∧ (IntKind.i64 = IntKind.i64 ∧ numR l i = numR l j) ∧ (IntKind.i64 = IntKind.i64 ∧ (↑i : Int) + (1 : Int) = (↑j : Int)) ∧ True) ∧ True)) ∧ (decide ((↑i : Int) < (↑(List.length l) : Int)) = false → inIx (0 : Int) (List.length l) ∧ (((↑(UInt8.toNat (List.getD l (Int.toNat (0 : Int)) (0 : UInt8))) : Int) == (45 : Int)) = true → InR IntKind.i64 ((0 : Int) - numR l i) ∧ ((!decide ((0 : Int) - numR l i < (-2147483648 : Int))) = true → (!decide ((0 : Int) - numR l i < (-2147483648 : Int))) = true) ∧ ((!decide ((0 : Int) - numR l i < (-2147483648 : Int))) = true → (!decide ((0 : Int) - numR l i < (-2147483648 : Int))) = true) ∧ ((decide ((0 : Int) - numR l i < (-2147483648 : Int)) || decide ((2147483647 : Int) < (0 : Int) - numR l i)) = true → (IntKind.i64 = IntKind.i64 ∧ (0 : Int) = (parse l).1) ∧ (IntKind.i64 = IntKind.i64 ∧ (2 : Int) = (parse l).2) ∧ True) ∧ ((decide ((0 : Int) - numR l i < (-2147483648 : Int)) || decide ((2147483647 : Int) < (0 : Int) - numR l i)) = false → (IntKind.i64 = IntKind.i64 ∧ (0 : Int) - numR l i = (parse l).1) ∧ (IntKind.i64 = IntKind.i64 ∧ (0 : Int) = (parse l).2) ∧ True)) ∧ (((↑(UInt8.toNat (List.getD l (Int.toNat (0 : Int)) (0 : UInt8))) : Int) == (45 : Int)) = false → ((!decide (numR l i < (-2147483648 : Int))) = true → (!decide (numR l i < (-2147483648 : Int))) = true) ∧ ((!decide (numR l i < (-2147483648 : Int))) = true → (!decide (numR l i < (-2147483648 : Int))) = true) ∧ ((decide (numR l i < (-2147483648 : Int)) || decide ((2147483647 : Int) < numR l i)) = true → (IntKind.i64 = IntKind.i64 ∧ (0 : Int) = (parse l).1) ∧ (IntKind.i64 = IntKind.i64 ∧ (2 : Int) = (parse l).2) ∧ True) ∧ ((decide (numR l i < (-2147483648 : Int)) || decide ((2147483647 : Int) < numR l i)) = false → (IntKind.i64 = IntKind.i64 ∧ numR l i = (parse l).1) ∧ (IntKind.i64 = IntKind.i64 ∧ (0 : Int) = (parse l).2) ∧ True)))))) := by kernel_rfl
theorem k15 (l : List UInt8) (hn : l.length ≤ 9223372036854775807) : Known Try.prog [] 15 [.str l] (.tup [.int .i64 (parse l).1, .int .i64 (parse l).2]) := by
  refine Known.of (V := vx 42 (inv15 l)) (fn := Try.f15) rfl (by kernel_rfl) (cfg_ok _) rfl ?_
  show g15 l
  rw [e15]
  simp only [and_true, true_and, implies_true, Bool.or_eq_true, Bool.and_eq_true, Bool.or_eq_false_iff, Bool.and_eq_false_iff, Bool.not_eq_true', decide_eq_true_eq, decide_eq_false_iff_not, Bool.not_eq_false', imp_self, beq_iff_eq, beq_eq_false_iff_ne, bne_iff_ne, bne_eq_false_iff_eq, ne_eq, Decidable.not_not]
  simp only [tk, nil_len, one_48, Int.toNat_natCast, Int.toNat_zero, len_drop]
  have hs0 := strip_len l
  refine ⟨k22 l hn, fun h => by rw [parse_bad h]; exact ⟨rfl, rfl⟩, fun hb => ?_⟩
  have hd := notat_dig hb
  have h0 := notat_len hb
  have hmin : ∀ j, j < l.length → ¬ (l.getD j 0).toNat = 45 → isDig (l.getD j 0) = true := fun j hj hne => by
    by_cases h45 : (l.getD 0 0).toNat = 45
    · have hs := strip_y h45
      match j, hj, hne with
      | 0, _, hne => exact absurd h45 hne
      | j + 1, hj, _ =>
        have := hd j (by rw [hs, len_drop]; omega)
        rw [hs, drop_get] at this
        exact this
    · have hs := strip_n h45
      have := hd j (by rw [hs]; exact hj)
      rw [hs] at this
      exact this
  refine ⟨by omega, fun h1 => ?_, fun h1 => ⟨⟨0, by omega, rfl, rfl⟩, fun i hi => ⟨by omega, fun hlt => ?_, fun hge => ?_⟩⟩⟩
  · rw [parse_long hb]; exact ⟨rfl, rfl⟩
    unfold strip; split
    · rw [len_drop]; omega
    · omega
  · have h2 := numR_rng l i fun j hj => hmin j (by omega)
    have h3 := pow10 (k := i) (by omega)
    refine ⟨⟨by omega, by omega⟩, fun h4 => ?_, fun h4 => ⟨inR64 (by omega) (by omega), i + 1, by omega, by omega, ?_, by omega⟩⟩
    · have h5 := (dig_iff _).1 (hmin i (by omega) (by omega))
      refine ⟨inR64 (by omega) (by omega), ⟨by omega, by omega⟩, inRu8 (by omega), inR64 (by omega) (by omega), inR64 (by omega) (by omega), i + 1, by omega, by omega, ?_, by omega⟩
      rw [numR, if_neg (by omega)]
    · rw [numR, if_pos (by omega)]
  · obtain rfl : i = l.length := by omega
    have h2 := numR_rng l l.length fun j hj => hmin j (by omega)
    have h3 := pow10 (k := l.length) (by omega)
    refine ⟨⟨by omega, by omega⟩, fun h => ?_, fun h => ?_⟩
    · have h45 : (l.getD 0 0).toNat = 45 := by omega
      have hs := strip_y h45
      have hl : (strip l).length = l.length - 1 := by rw [hs]; exact len_drop l
      have hr := numR_y h45 hd (strip l).length (Nat.le_refl _)
      rw [show (strip l).length + 1 = l.length by omega] at hr
      have h4 := signed_y h45
      rw [← hr] at h4
      refine ⟨inR64 (by omega) (by omega), fun h5 => ?_, fun h5 => ?_⟩
      · rw [parse_out hb (by omega) (by omega)]; exact ⟨rfl, rfl⟩
      · rw [parse_in hb (by omega) (by omega)]; exact ⟨h4.symm, rfl⟩
    · have h45 : ¬ (l.getD 0 0).toNat = 45 := by omega
      have hs := strip_n h45
      have hr : numR l l.length = numN l l.length := numR_n (fun j hj => hmin j hj (by rw [hs] at hd; have := (dig_iff _).1 (hd j hj); omega)) _ (Nat.le_refl _)
      have h4 := signed_n h45
      rw [hs, ← hr] at h4
      by_cases h6 : 10 < l.length
      · have hbig := numN_big (m := l) (by
          rcases (notat_iff l).1 hb with ⟨_, _⟩ | ⟨_, _, h7⟩
          · omega
          · rw [hs] at h7 hd
            have := (dig_iff _).1 (hd 0 (by omega))
            omega) (l.length - 1) (fun j hj => by rw [hs] at hd; exact hd j (by omega))
        rw [show l.length - 1 + 1 = l.length by omega, ← hr, show l.length - 1 = 10 by omega] at hbig
        rw [parse_long hb (by rw [hs]; exact h6)]
        exact ⟨fun _ => ⟨rfl, rfl⟩, fun h5 => by omega⟩
      · refine ⟨fun h5 => ?_, fun h5 => ?_⟩
        · rw [parse_out hb (by omega) (by omega)]; exact ⟨rfl, rfl⟩
        · rw [parse_in hb (by omega) (by omega)]; exact ⟨h4.symm, rfl⟩
theorem e12 : g12 = (Known Try.prog [] (8 : Nat) [AV.int IntKind.i64 (1 : Int), AV.int IntKind.i64 (2147483647 : Int), AV.int IntKind.i64 (1 : Int)] (AV.tup [AV.int IntKind.i64 (wr (wr (2147483647 : Int) + wr (1 : Int))), AV.int IntKind.i64 (0 : Int)]) ∧ Known Try.prog [] (8 : Nat) [AV.int IntKind.i64 (6 : Int), AV.int IntKind.i64 (-1 : Int), AV.int IntKind.i64 (5 : Int)] (AV.tup [AV.int IntKind.i64 (bop (fun (x1 x2 : Nat) => x1 ^^^ x2) (-1 : Int) (5 : Int)), AV.int IntKind.i64 (0 : Int)]) ∧ Known Try.prog [] (14 : Nat) [AV.str [(45 : UInt8), (48 : UInt8)]] (AV.tup [AV.int IntKind.i64 (0 : Int), AV.int IntKind.i64 (16 : Int)]) ∧ Known Try.prog [] (14 : Nat) [AV.str [(48 : UInt8), (48 : UInt8), (55 : UInt8)]] (AV.tup [AV.int IntKind.i64 (0 : Int), AV.int IntKind.i64 (16 : Int)]) ∧ Known Try.prog [] (14 : Nat) [AV.str [(50 : UInt8), (49 : UInt8), (52 : UInt8), (55 : UInt8), (52 : UInt8), (56 : UInt8), (51 : UInt8), (54 : UInt8), (52 : UInt8), (56 : UInt8)]] (AV.tup [AV.int IntKind.i64 (0 : Int), AV.int IntKind.i64 (2 : Int)]) ∧ ((wr (wr (2147483647 : Int) + wr (1 : Int)) == (-2147483648 : Int)) = true → (wr (wr (2147483647 : Int) + wr (1 : Int)) == (-2147483648 : Int)) = true) ∧ ((wr (wr (2147483647 : Int) + wr (1 : Int)) == (-2147483648 : Int)) = true → (wr (wr (2147483647 : Int) + wr (1 : Int)) == (-2147483648 : Int)) = true) ∧ ((wr (wr (2147483647 : Int) + wr (1 : Int)) == (-2147483648 : Int) && (0 : Int) == (0 : Int)) = true → (wr (wr (2147483647 : Int) + wr (1 : Int)) == (-2147483648 : Int) && (0 : Int) == (0 : Int)) = true) ∧ ((wr (wr (2147483647 : Int) + wr (1 : Int)) == (-2147483648 : Int) && (0 : Int) == (0 : Int)) = true → (wr (wr (2147483647 : Int) + wr (1 : Int)) == (-2147483648 : Int) && (0 : Int) == (0 : Int)) = true) ∧ ((wr (wr (2147483647 : Int) + wr (1 : Int)) == (-2147483648 : Int) && (0 : Int) == (0 : Int) && bop (fun (x1 x2 : Nat) => x1 ^^^ x2) (-1 : Int) (5 : Int) == (-6 : Int)) = true → (wr (wr (2147483647 : Int) + wr (1 : Int)) == (-2147483648 : Int) && (0 : Int) == (0 : Int) && bop (fun (x1 x2 : Nat) => x1 ^^^ x2) (-1 : Int) (5 : Int) == (-6 : Int)) = true) ∧ ((wr (wr (2147483647 : Int) + wr (1 : Int)) == (-2147483648 : Int) && (0 : Int) == (0 : Int) && bop (fun (x1 x2 : Nat) => x1 ^^^ x2) (-1 : Int) (5 : Int) == (-6 : Int)) = true → (wr (wr (2147483647 : Int) + wr (1 : Int)) == (-2147483648 : Int) && (0 : Int) == (0 : Int) && bop (fun (x1 x2 : Nat) => x1 ^^^ x2) (-1 : Int) (5 : Int) == (-6 : Int)) = true) ∧ ((wr (wr (2147483647 : Int) + wr (1 : Int)) == (-2147483648 : Int) && (0 : Int) == (0 : Int) && bop (fun (x1 x2 : Nat) => x1 ^^^ x2) (-1 : Int) (5 : Int) == (-6 : Int) && (0 : Int) == (0 : Int)) = true → (wr (wr (2147483647 : Int) + wr (1 : Int)) == (-2147483648 : Int) && (0 : Int) == (0 : Int) && bop (fun (x1 x2 : Nat) => x1 ^^^ x2) (-1 : Int) (5 : Int) == (-6 : Int) && (0 : Int) == (0 : Int)) = true) ∧ ((wr (wr (2147483647 : Int) + wr (1 : Int)) == (-2147483648 : Int) && (0 : Int) == (0 : Int) && bop (fun (x1 x2 : Nat) => x1 ^^^ x2) (-1 : Int) (5 : Int) == (-6 : Int) && (0 : Int) == (0 : Int)) = true → (wr (wr (2147483647 : Int) + wr (1 : Int)) == (-2147483648 : Int) && (0 : Int) == (0 : Int) && bop (fun (x1 x2 : Nat) => x1 ^^^ x2) (-1 : Int) (5 : Int) == (-6 : Int) && (0 : Int) == (0 : Int)) = true) ∧ ((wr (wr (2147483647 : Int) + wr (1 : Int)) == (-2147483648 : Int) && (0 : Int) == (0 : Int) && bop (fun (x1 x2 : Nat) => x1 ^^^ x2) (-1 : Int) (5 : Int) == (-6 : Int) && (0 : Int) == (0 : Int) && (16 : Int) == (16 : Int)) = true → (wr (wr (2147483647 : Int) + wr (1 : Int)) == (-2147483648 : Int) && (0 : Int) == (0 : Int) && bop (fun (x1 x2 : Nat) => x1 ^^^ x2) (-1 : Int) (5 : Int) == (-6 : Int) && (0 : Int) == (0 : Int) && (16 : Int) == (16 : Int)) = true) ∧ ((wr (wr (2147483647 : Int) + wr (1 : Int)) == (-2147483648 : Int) && (0 : Int) == (0 : Int) && bop (fun (x1 x2 : Nat) => x1 ^^^ x2) (-1 : Int) (5 : Int) == (-6 : Int) && (0 : Int) == (0 : Int) && (16 : Int) == (16 : Int)) = true → (wr (wr (2147483647 : Int) + wr (1 : Int)) == (-2147483648 : Int) && (0 : Int) == (0 : Int) && bop (fun (x1 x2 : Nat) => x1 ^^^ x2) (-1 : Int) (5 : Int) == (-6 : Int) && (0 : Int) == (0 : Int) && (16 : Int) == (16 : Int)) = true) ∧ ((wr (wr (2147483647 : Int) + wr (1 : Int)) == (-2147483648 : Int) && (0 : Int) == (0 : Int) && bop (fun (x1 x2 : Nat) => x1 ^^^ x2) (-1 : Int) (5 : Int) == (-6 : Int) && (0 : Int) == (0 : Int) && (16 : Int) == (16 : Int) && (16 : Int) == (16 : Int)) = true → (wr (wr (2147483647 : Int) + wr (1 : Int)) == (-2147483648 : Int) && (0 : Int) == (0 : Int) && bop (fun (x1 x2 : Nat) => x1 ^^^ x2) (-1 : Int) (5 : Int) == (-6 : Int) && (0 : Int) == (0 : Int) && (16 : Int) == (16 : Int) && (16 : Int) == (16 : Int)) = true) ∧ ((wr (wr (2147483647 : Int) + wr (1 : Int)) == (-2147483648 : Int) && (0 : Int) == (0 : Int) && bop (fun (x1 x2 : Nat) => x1 ^^^ x2) (-1 : Int) (5 : Int) == (-6 : Int) && (0 : Int) == (0 : Int) && (16 : Int) == (16 : Int) && (16 : Int) == (16 : Int)) = true → (wr (wr (2147483647 : Int) + wr (1 : Int)) == (-2147483648 : Int) && (0 : Int) == (0 : Int) && bop (fun (x1 x2 : Nat) => x1 ^^^ x2) (-1 : Int) (5 : Int) == (-6 : Int) && (0 : Int) == (0 : Int) && (16 : Int) == (16 : Int) && (16 : Int) == (16 : Int)) = true) ∧ (wr (wr (2147483647 : Int) + wr (1 : Int)) == (-2147483648 : Int) && (0 : Int) == (0 : Int) && bop (fun (x1 x2 : Nat) => x1 ^^^ x2) (-1 : Int) (5 : Int) == (-6 : Int) && (0 : Int) == (0 : Int) && (16 : Int) == (16 : Int) && (16 : Int) == (16 : Int) && (2 : Int) == (2 : Int)) = true) := by kernel_rfl
theorem k12 : Known Try.prog [] 12 [] (.bool true) := by
  refine Known.of (V := vx 57 fun _ => none) (fn := Try.f12) rfl (by kernel_rfl) (cfg_ok _) rfl ?_
  show g12
  rw [e12]
  simp only [and_true, true_and, implies_true, Bool.or_eq_true, Bool.and_eq_true, Bool.or_eq_false_iff, Bool.and_eq_false_iff, Bool.not_eq_true', decide_eq_true_eq, decide_eq_false_iff_not, Bool.not_eq_false', imp_self, beq_iff_eq, beq_eq_false_iff_ne, bne_iff_ne, bne_eq_false_iff_eq, ne_eq, Decidable.not_not]
  exact ⟨Eq.mp (by kernel_rfl) (k8 1 2147483647 1), Eq.mp (by kernel_rfl) (k8 6 (-1) 5), Eq.mp (by kernel_rfl) (k14 [45, 48] (by decide)), Eq.mp (by kernel_rfl) (k14 [48, 48, 55] (by decide)), Eq.mp (by kernel_rfl) (k14 [50, 49, 52, 55, 52, 56, 51, 54, 52, 56] (by decide)), by decide, by kernel_rfl⟩
end Go.Proofs.S01
