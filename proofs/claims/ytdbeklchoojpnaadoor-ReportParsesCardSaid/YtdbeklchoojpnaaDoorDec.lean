/- Decimal notation: when a text is one, and its number. -/
import Derived.Test.YtdbeklchoojpnaaDoorAvD
namespace Go.Proofs.Dec
open Go Go.AV
def strip (l : List UInt8) : List UInt8 := if (l.getD 0 0).toNat = 45 then l.drop 1 else l
def isDig (c : UInt8) : Bool := decide (48 ≤ c.toNat) && decide (c.toNat ≤ 57)
def notat (l : List UInt8) : Bool := l == [48] || ((strip l).all isDig && !(strip l == []) && !(((strip l).getD 0 0).toNat == 48))
def numN (l : List UInt8) : Nat → Int
  | 0 => 0
  | k + 1 => numN l k * 10 + (((l.getD k 0).toNat : Int) - 48)
def numR (l : List UInt8) : Nat → Int
  | 0 => 0
  | k + 1 => if (l.getD k 0).toNat = 45 then numR l k else 10 * numR l k + (((l.getD k 0).toNat : Int) - 48)
def signed (l : List UInt8) : Int := if (l.getD 0 0).toNat = 45 then 0 - numN (strip l) (strip l).length else numN (strip l) (strip l).length
def parse (l : List UInt8) : Int × Int :=
  if notat l = false then (0, 16)
  else if 10 < (strip l).length then (0, 2)
  else if signed l < -2147483648 ∨ 2147483647 < signed l then (0, 2)
  else (signed l, 0)


theorem inR64 {n : Int} (h1 : -9223372036854775808 ≤ n) (h2 : n ≤ 9223372036854775807) : InR .i64 n := inR_i64 h1 h2
theorem f_eq {p : Bool} (h : p = true → False) : false = p := by cases p; rfl; exact (h rfl).elim
theorem tk (l : List UInt8) : List.take (Int.toNat ((l.length : Int) - 1)) (List.drop (Int.toNat 1) l) = l.drop 1 := by
  rw [List.take_of_length_le]
  · rfl
  · simp
theorem len_drop (l : List UInt8) : (l.drop 1).length = l.length - 1 := List.length_drop
theorem nil_len (l : List UInt8) : l = [] ↔ l.length = 0 := by cases l <;> simp
theorem one_48 (l : List UInt8) : l = [48] ↔ l.length = 1 ∧ (l.getD 0 0).toNat = 48 := by
  constructor
  · rintro rfl; exact ⟨rfl, rfl⟩
  · intro ⟨h1, h2⟩
    match l, h1 with
    | [c], _ =>
      have : c = 48 := UInt8.toNat_inj.1 h2
      rw [this]
theorem notat_iff (l : List UInt8) : notat l = true ↔ (l.length = 1 ∧ (l.getD 0 0).toNat = 48) ∨ ((∀ i, i < (strip l).length → isDig ((strip l).getD i 0) = true) ∧ (strip l).length ≠ 0 ∧ ((strip l).getD 0 0).toNat ≠ 48) := by
  have h : (strip l).all isDig = true ↔ ∀ i, i < (strip l).length → isDig ((strip l).getD i 0) = true := by
    rw [List.all_eq_true]
    constructor
    · intro h i hi
      have : (strip l).getD i 0 = (strip l)[i] := by simp [hi]
      rw [this]; exact h _ (List.getElem_mem hi)
    · intro h x hx
      obtain ⟨i, hi, rfl⟩ := List.mem_iff_getElem.1 hx
      have := h i hi
      simpa [hi] using this
  unfold notat
  simp only [Bool.or_eq_true, Bool.and_eq_true, beq_iff_eq, Bool.not_eq_true', beq_eq_false_iff_ne, ne_eq, one_48, nil_len, h]
  constructor
  · rintro (h | ⟨⟨h1, h2⟩, h3⟩)
    · exact .inl h
    · exact .inr ⟨h1, h2, h3⟩
  · rintro (h | ⟨h1, h2, h3⟩)
    · exact .inl h
    · exact .inr ⟨⟨h1, h2⟩, h3⟩
theorem strip_y {l : List UInt8} (h : (l.getD 0 0).toNat = 45) : strip l = l.drop 1 := if_pos h
theorem strip_n {l : List UInt8} (h : ¬ (l.getD 0 0).toNat = 45) : strip l = l := if_neg h
theorem dig_iff (c : UInt8) : isDig c = true ↔ 48 ≤ c.toNat ∧ c.toNat ≤ 57 := by simp [isDig]
theorem t_eq {p : Bool} (h : p = true) : true = p := h.symm
theorem round (l : List UInt8) (hn : (strip l).length ≤ 9223372036854775807) (hend : (∀ i, i < (strip l).length → isDig ((strip l).getD i 0) = true) → notat l = true) (hbad : notat l = true → ∀ i, i < (strip l).length → isDig ((strip l).getD i 0) = true)
    (i : Nat) (hi : i ≤ (strip l).length ∧ ∀ j, j < i → isDig ((strip l).getD j 0) = true) :
    ((i : Int) < (strip l).length → inIx i (strip l).length ∧ (¬ (((strip l).getD i 0).toNat : Int) < 48 → inIx i (strip l).length) ∧
      ((((strip l).getD i 0).toNat : Int) < 48 ∨ 57 < (((strip l).getD i 0).toNat : Int) → false = notat l) ∧
      (¬ (((strip l).getD i 0).toNat : Int) < 48 ∧ ¬ 57 < (((strip l).getD i 0).toNat : Int) → InR .i64 ((i : Int) + 1) ∧ ∃ j, (j ≤ (strip l).length ∧ ∀ k, k < j → isDig ((strip l).getD k 0) = true) ∧ (strip l).length - j < (strip l).length - i ∧ (i : Int) + 1 = j)) ∧
    (¬ (i : Int) < (strip l).length → true = notat l) := by
  refine ⟨fun hlt => ⟨⟨by omega, by omega⟩, fun _ => ⟨by omega, by omega⟩, fun h => f_eq fun hb => ?_, fun h => ⟨inR64 (by omega) (by omega), i + 1, ⟨by omega, fun j hj => ?_⟩, by omega, by omega⟩⟩, fun hge => (hend fun j hj => hi.2 j (by omega)).symm⟩
  · have := (dig_iff _).1 (hbad hb i (by omega))
    omega
  · by_cases e : j = i
    · subst e; exact (dig_iff _).2 (by omega)
    · exact hi.2 j (by omega)
theorem notat_dig {l : List UInt8} (h : notat l = true) : ∀ i, i < (strip l).length → isDig ((strip l).getD i 0) = true := by
  rcases (notat_iff l).1 h with ⟨a, b⟩ | ⟨a, _, _⟩
  · rw [strip_n (by omega)]
    intro i hi
    obtain rfl : i = 0 := by omega
    exact (dig_iff _).2 (by omega)
  · exact a
theorem notat_len {l : List UInt8} (h : notat l = true) : (strip l).length ≠ 0 := by
  rcases (notat_iff l).1 h with ⟨a, b⟩ | ⟨_, a, _⟩
  · rw [strip_n (by omega)]; omega
  · exact a
theorem strip_len (l : List UInt8) : (strip l).length ≤ l.length := by
  unfold strip; split
  · rw [len_drop]; omega
  · omega
theorem parse_bad {l : List UInt8} (h : notat l = false) : parse l = (0, 16) := by simp [parse, h]
theorem parse_long {l : List UInt8} (h : notat l = true) (h1 : 10 < (strip l).length) : parse l = (0, 2) := by simp [parse, h, h1]
theorem parse_out {l : List UInt8} (h : notat l = true) (h1 : ¬ 10 < (strip l).length) (h2 : signed l < -2147483648 ∨ 2147483647 < signed l) : parse l = (0, 2) := by
  unfold parse
  rw [if_neg (by simp [h]), if_neg h1, if_pos h2]
theorem parse_in {l : List UInt8} (h : notat l = true) (h1 : ¬ 10 < (strip l).length) (h2 : ¬ signed l < -2147483648 ∧ ¬ 2147483647 < signed l) : parse l = (signed l, 0) := by
  unfold parse
  rw [if_neg (by simp [h]), if_neg h1, if_neg (by omega)]
theorem pow10 {k : Nat} (h : k ≤ 12) : (10 : Int) ^ k ≤ 1000000000000 := by
  have h1 : (10 : Nat) ^ k ≤ 10 ^ 12 := Nat.pow_le_pow_right (by decide) h
  have h3 : ((10 ^ k : Nat) : Int) = (10 : Int) ^ k := by norm_cast
  omega
theorem numN_rng (m : List UInt8) : ∀ k, (∀ j, j < k → isDig (m.getD j 0) = true) → 0 ≤ numN m k ∧ numN m k < 10 ^ k
  | 0, _ => by simp [numN]
  | k + 1, h => by
    have ih := numN_rng m k fun j hj => h j (by omega)
    have hd := (dig_iff _).1 (h k (by omega))
    simp only [numN, Int.pow_succ]
    omega
theorem numR_rng (l : List UInt8) : ∀ k, (∀ j, j < k → ¬ (l.getD j 0).toNat = 45 → isDig (l.getD j 0) = true) → 0 ≤ numR l k ∧ numR l k < 10 ^ k
  | 0, _ => by simp [numR]
  | k + 1, h => by
    have ih := numR_rng l k fun j hj => h j (by omega)
    simp only [numR, Int.pow_succ]
    split
    · omega
    · rename_i e
      have hd := (dig_iff _).1 (h k (by omega) e)
      omega
theorem drop_get (l : List UInt8) (k : Nat) : (l.drop 1).getD k 0 = l.getD (k + 1) 0 := by
  simp [List.getD_eq_getElem?_getD, List.getElem?_drop, Nat.add_comm]
theorem numR_y {l : List UInt8} (h : (l.getD 0 0).toNat = 45) (hd : ∀ i, i < (strip l).length → isDig ((strip l).getD i 0) = true) : ∀ k, k ≤ (strip l).length → numR l (k + 1) = numN (strip l) k
  | 0, _ => by simp only [numR, numN]; rw [if_pos h]
  | k + 1, hk => by
    have ih := numR_y h hd k (by omega)
    have h2 := (dig_iff _).1 (hd k (by omega))
    have e : (strip l).getD k 0 = l.getD (k + 1) 0 := by rw [strip_y h]; exact drop_get l k
    rw [numR, numN, e]
    rw [e] at h2
    rw [if_neg (by omega), ih]
    omega
theorem numR_n {l : List UInt8} (hd : ∀ i, i < l.length → isDig (l.getD i 0) = true) : ∀ k, k ≤ l.length → numR l k = numN l k
  | 0, _ => rfl
  | k + 1, hk => by
    have ih := numR_n hd k (by omega)
    have h2 := (dig_iff _).1 (hd k (by omega))
    rw [numR, numN, if_neg (by omega), ih]
    omega
theorem numN_big {m : List UInt8} (h0 : 49 ≤ (m.getD 0 0).toNat) : ∀ k, (∀ j, j < k + 1 → isDig (m.getD j 0) = true) → 10 ^ k ≤ numN m (k + 1)
  | 0, _ => by simp only [numN]; omega
  | k + 1, h => by
    have ih := numN_big h0 k fun j hj => h j (by omega)
    have hd := (dig_iff _).1 (h (k + 1) (by omega))
    rw [numN, Int.pow_succ]
    omega
theorem signed_y {l : List UInt8} (h : (l.getD 0 0).toNat = 45) : signed l = 0 - numN (strip l) (strip l).length := if_pos h
theorem signed_n {l : List UInt8} (h : ¬ (l.getD 0 0).toNat = 45) : signed l = numN (strip l) (strip l).length := if_neg h
theorem inRu8 {n : Int} (h : 0 ≤ n ∧ n ≤ 255) : InR .u8 n := by
  simp only [InR, IntKind.wrap, IntKind.signed, IntKind.bits]
  simp
  omega
end Go.Proofs.Dec
