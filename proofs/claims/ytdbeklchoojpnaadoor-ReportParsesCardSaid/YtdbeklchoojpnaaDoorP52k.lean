import Derived.Test.YtdbeklchoojpnaaDoorP52j
import Derived.Test.YtdbeklchoojpnaaDoorP52i
namespace Go.Proofs.S52
open Go Go.AV Go.Proofs.Dec
theorem rfail_fe {s : RS} {e a : Int} (h : ¬ e = 0) : ¬ (rfail s e a).fe = 0 := by
  unfold rfail
  split
  · exact h
  · rename_i h1; exact h1
theorem rnext_lt {s : RS} {k : Int} {w : List UInt8} (h0 : s.fe = 0) (h : (rnext s k w).2.fe = 0) : (rnext s k w).2.l.length < s.l.length := by
  by_cases h1 : s.l.length = 0
  · rw [rnext_e h0 h1] at h
    exact absurd h (rfail_fe (by decide))
  · by_cases h2 : ¬ (s.l.getD 0 t0).kind = k ∨ ¬ w = [] ∧ ¬ (s.l.getD 0 t0).text = w
    · rw [rnext_b h0 h1 h2] at h
      exact absurd h (rfail_fe (by decide))
    · unfold rnext
      rw [if_neg (by simpa using h0), if_neg (fun e => h1 (by rw [e]; rfl)), if_neg h2]
      simp
      omega
theorem rnums_len : ∀ (l : List Tok) (out : List Int), (rnums l out).2.2.length ≤ l.length
  | [], _ => by simp [rnums]
  | t :: l, out => by
    have := rnums_len l (out ++ [t.num])
    unfold rnums
    split
    · split
      · simp
      · simp; omega
    · simp
theorem rline_len (s : RS) (b : Int) : (rline s b).2.l.length ≤ s.l.length := by
  have := rnums_len s.l []
  unfold rline
  split
  · rw [rfail_l]; exact this
  · have h := rnext_len ⟨(rnums s.l []).2.2, s.e, s.fe, s.fa⟩ 4 []
    simp only at h ⊢
    omega
theorem rkind_len (p : Tok × RS) (last : Int) : (rkind p last).2.l.length ≤ p.2.l.length := by
  unfold rkind
  split
  · exact Nat.le_refl _
  · split
    · rw [rfail_l]; exact Nat.le_refl _
    · split
      · rw [rfail_l]; exact Nat.le_refl _
      · exact rline_len _ _
theorem rbug_len (s : RS) (last : Int) : (rbug s last).2.l.length ≤ s.l.length := by
  have h1 := rnext_len s 1 wBug
  have h2 := rnext_len (rnext s 1 wBug).2 1 []
  have h3 := rkind_len (rnext (rnext s 1 wBug).2 1 []) last
  unfold rbug
  omega
theorem rbug_lt {s : RS} {last : Int} (h0 : s.fe = 0) (h : (rbug s last).2.fe = 0) : (rbug s last).2.l.length < s.l.length := by
  have h3 := rkind_len (rnext (rnext s 1 wBug).2 1 []) last
  have h2 := rnext_len (rnext s 1 wBug).2 1 []
  have hT : (rnext (rnext s 1 wBug).2 1 []).2.fe = 0 := by
    by_cases e : (rnext (rnext s 1 wBug).2 1 []).2.fe = 0
    · exact e
    · unfold rbug rkind at h
      rw [if_pos e] at h
      exact h
  have hA : (rnext s 1 wBug).2.fe = 0 := by
    by_cases e : (rnext s 1 wBug).2.fe = 0
    · exact e
    · rw [rnext_f e] at hT
      exact hT
  have h1 := rnext_lt h0 hA
  unfold rbug
  omega
theorem rneg_l (p : Tok × RS) : (rneg p).l = p.2.l := by unfold rneg; split; exact rfail_l _ _ _; rfl
theorem rcount_len (s : RS) (w : List UInt8) : (rcount s w).2.l.length ≤ s.l.length := by
  have h1 := rnext_len s 1 w
  have h2 := rnext_len (rnext s 1 w).2 2 []
  have h3 := rnext_len (rneg (rnext (rnext s 1 w).2 2 [])) 4 []
  rw [rneg_l] at h3
  unfold rcount
  simp only
  omega
/-- What the reference's Parse answers. -/
def finS (a b c d : Int) (q : List Cex × RS) : Rp × Int × Int := if q.2.fe ≠ 0 then (r0, q.2.fe, q.2.fa) else (⟨a, b, c, d, q.1⟩, 0, 0)
def at15 (s : RS) : V15 := ⟨rcount s w1, rcount (rcount s w1).2 w2, rcount (rcount (rcount s w1).2 w2).2 w3, rcount (rcount (rcount (rcount s w1).2 w2).2 w3).2 w4⟩
def endS (v : V15) : Rp × Int × Int := finS v.c1.1 v.c2.1 v.c3.1 v.c4.1 (rbugs (v.c4.2.l.length + 1) 0 [] v.c4.2)
def parseS (s : List UInt8) : Rp × Int × Int := if (scan s).2.1 ≠ 0 then (r0, (scan s).2.1, (scan s).2.2) else endS (at15 ⟨(scan s).1, s.length, 0, 0⟩)
theorem rbugs_next {k : Nat} {last : Int} {out : List Cex} {s : RS} (h : s.fe = 0 ∧ 0 < s.l.length) (hk : 1 ≤ k) : rbugs k last out s = rbugs (k - 1) (rbug s last).1.bug (out ++ [(rbug s last).1]) (rbug s last).2 := by
  obtain ⟨k, rfl⟩ : ∃ j, k = j + 1 := ⟨k - 1, by omega⟩
  rw [rbugs, if_pos ⟨h.1, fun e => by rw [e] at h; simp at h⟩]
  rfl
theorem rbugs_end {k : Nat} {last : Int} {out : List Cex} {s : RS} (h : ¬ s.fe = 0 ∨ ¬ 0 < s.l.length) (hk : 1 ≤ k) : rbugs k last out s = (out, s) := by
  obtain ⟨k, rfl⟩ : ∃ j, k = j + 1 := ⟨k - 1, by omega⟩
  rw [rbugs, if_neg]
  rintro ⟨h1, h2⟩
  rcases h with h | h
  · exact h h1
  · exact h2 (List.eq_nil_of_length_eq_zero (by omega))
theorem eParseR (s : List UInt8) (v : V15) (n : Nat) (R : Rp) (x a : Int) : gParseR s v n R x a = (Known Tryd.prog [] (22 : Nat) [AV.str s] (AV.tup [AV.seq (Shape.agg [Shape.leaf, Shape.leaf, Shape.leaf, Shape.leaf]) (List.length (Prod.fst (scan s))) fun (i : Nat) => encT (List.getD (Prod.fst (scan s)) i (Tok.mk (0 : Int) [] (0 : Int) (0 : Int))), AV.mc (Shape.agg [Shape.leaf, Shape.leaf]) (AV.agg [AV.int IntKind.i64 (Prod.fst (Prod.snd (scan s))), AV.int IntKind.i64 (Prod.snd (Prod.snd (scan s)))])]) ∧ ((Prod.fst (Prod.snd (scan s)) != (0 : Int)) = true → (Shape.agg [Shape.leaf, Shape.leaf, Shape.leaf, Shape.leaf, Shape.leaf] = Shape.agg [Shape.leaf, Shape.leaf, Shape.leaf, Shape.leaf, Shape.leaf] ∧ (IntKind.i64 = IntKind.i64 ∧ (0 : Int) = Rp.t R) ∧ (IntKind.i64 = IntKind.i64 ∧ (0 : Int) = Rp.b R) ∧ (IntKind.i64 = IntKind.i64 ∧ (0 : Int) = Rp.u R) ∧ (IntKind.i64 = IntKind.i64 ∧ (0 : Int) = Rp.o R) ∧ List.length (Rp.bugs R) = (0 : Nat) ∧ True) ∧ (Shape.agg [Shape.leaf, Shape.leaf] = Shape.agg [Shape.leaf, Shape.leaf] ∧ (IntKind.i64 = IntKind.i64 ∧ Prod.fst (Prod.snd (scan s)) = x) ∧ (IntKind.i64 = IntKind.i64 ∧ Prod.snd (Prod.snd (scan s)) = a) ∧ True) ∧ True) ∧ ((Prod.fst (Prod.snd (scan s)) != (0 : Int)) = false → (↑(List.length s) : Int) ≤ (9223372036854775807 : Int) ∧ KnownL Tryd.prog [] (32 : Nat) [AV.ptr (0 : Nat) [], AV.str [(116 : UInt8), (114 : UInt8), (97 : UInt8), (99 : UInt8), (101 : UInt8), (115 : UInt8)]] [BoxC.cell (60 : Nat) (Shape.agg [Shape.leaf, Shape.leaf, Shape.agg [Shape.leaf, Shape.leaf]]) (AV.agg [AV.seq (Shape.agg [Shape.leaf, Shape.leaf, Shape.leaf, Shape.leaf]) (List.length (Prod.fst (scan s))) fun (i : Nat) => encT (List.getD (Prod.fst (scan s)) i (Tok.mk (0 : Int) [] (0 : Int) (0 : Int))), AV.int IntKind.i64 (↑(List.length s) : Int), AV.agg [AV.int IntKind.i64 (0 : Int), AV.int IntKind.i64 (0 : Int)]])] (AV.int IntKind.i64 (Prod.fst (V15.c1 v))) [some (BoxC.cell (60 : TypeId) (Shape.agg [Shape.leaf, Shape.leaf, Shape.agg [Shape.leaf, Shape.leaf]]) (AV.agg [AV.seq (Shape.agg [Shape.leaf, Shape.leaf, Shape.leaf, Shape.leaf]) (List.length (RS.l (Prod.snd (V15.c1 v)))) fun (i : Nat) => encT (List.getD (RS.l (Prod.snd (V15.c1 v))) i (Tok.mk (0 : Int) [] (0 : Int) (0 : Int))), AV.int IntKind.i64 (RS.e (Prod.snd (V15.c1 v))), AV.agg [AV.int IntKind.i64 (RS.fe (Prod.snd (V15.c1 v))), AV.int IntKind.i64 (RS.fa (Prod.snd (V15.c1 v)))]]))] ∧ KnownL Tryd.prog [] (32 : Nat) [AV.ptr (0 : Nat) [], AV.str [(98 : UInt8), (108 : UInt8), (111 : UInt8), (99 : UInt8), (107 : UInt8), (101 : UInt8), (100 : UInt8)]] [BoxC.cell (60 : TypeId) (Shape.agg [Shape.leaf, Shape.leaf, Shape.agg [Shape.leaf, Shape.leaf]]) (AV.agg [AV.seq (Shape.agg [Shape.leaf, Shape.leaf, Shape.leaf, Shape.leaf]) (List.length (RS.l (Prod.snd (V15.c1 v)))) fun (i : Nat) => encT (List.getD (RS.l (Prod.snd (V15.c1 v))) i (Tok.mk (0 : Int) [] (0 : Int) (0 : Int))), AV.int IntKind.i64 (RS.e (Prod.snd (V15.c1 v))), AV.agg [AV.int IntKind.i64 (RS.fe (Prod.snd (V15.c1 v))), AV.int IntKind.i64 (RS.fa (Prod.snd (V15.c1 v)))]])] (AV.int IntKind.i64 (Prod.fst (V15.c2 v))) [some (BoxC.cell (60 : TypeId) (Shape.agg [Shape.leaf, Shape.leaf, Shape.agg [Shape.leaf, Shape.leaf]]) (AV.agg [AV.seq (Shape.agg [Shape.leaf, Shape.leaf, Shape.leaf, Shape.leaf]) (List.length (RS.l (Prod.snd (V15.c2 v)))) fun (i : Nat) => encT (List.getD (RS.l (Prod.snd (V15.c2 v))) i (Tok.mk (0 : Int) [] (0 : Int) (0 : Int))), AV.int IntKind.i64 (RS.e (Prod.snd (V15.c2 v))), AV.agg [AV.int IntKind.i64 (RS.fe (Prod.snd (V15.c2 v))), AV.int IntKind.i64 (RS.fa (Prod.snd (V15.c2 v)))]]))] ∧ KnownL Tryd.prog [] (32 : Nat) [AV.ptr (0 : Nat) [], AV.str [(116 : UInt8), (114 : UInt8), (117 : UInt8), (110 : UInt8), (99 : UInt8), (97 : UInt8), (116 : UInt8), (101 : UInt8), (100 : UInt8)]] [BoxC.cell (60 : TypeId) (Shape.agg [Shape.leaf, Shape.leaf, Shape.agg [Shape.leaf, Shape.leaf]]) (AV.agg [AV.seq (Shape.agg [Shape.leaf, Shape.leaf, Shape.leaf, Shape.leaf]) (List.length (RS.l (Prod.snd (V15.c2 v)))) fun (i : Nat) => encT (List.getD (RS.l (Prod.snd (V15.c2 v))) i (Tok.mk (0 : Int) [] (0 : Int) (0 : Int))), AV.int IntKind.i64 (RS.e (Prod.snd (V15.c2 v))), AV.agg [AV.int IntKind.i64 (RS.fe (Prod.snd (V15.c2 v))), AV.int IntKind.i64 (RS.fa (Prod.snd (V15.c2 v)))]])] (AV.int IntKind.i64 (Prod.fst (V15.c3 v))) [some (BoxC.cell (60 : TypeId) (Shape.agg [Shape.leaf, Shape.leaf, Shape.agg [Shape.leaf, Shape.leaf]]) (AV.agg [AV.seq (Shape.agg [Shape.leaf, Shape.leaf, Shape.leaf, Shape.leaf]) (List.length (RS.l (Prod.snd (V15.c3 v)))) fun (i : Nat) => encT (List.getD (RS.l (Prod.snd (V15.c3 v))) i (Tok.mk (0 : Int) [] (0 : Int) (0 : Int))), AV.int IntKind.i64 (RS.e (Prod.snd (V15.c3 v))), AV.agg [AV.int IntKind.i64 (RS.fe (Prod.snd (V15.c3 v))), AV.int IntKind.i64 (RS.fa (Prod.snd (V15.c3 v)))]]))] ∧ KnownL Tryd.prog [] (32 : Nat) [AV.ptr (0 : Nat) [], AV.str [(111 : UInt8), (117 : UInt8), (116 : UInt8), (99 : UInt8), (111 : UInt8), (109 : UInt8), (101 : UInt8), (115 : UInt8)]] [BoxC.cell (60 : TypeId) (Shape.agg [Shape.leaf, Shape.leaf, Shape.agg [Shape.leaf, Shape.leaf]]) (AV.agg [AV.seq (Shape.agg [Shape.leaf, Shape.leaf, Shape.leaf, Shape.leaf]) (List.length (RS.l (Prod.snd (V15.c3 v)))) fun (i : Nat) => encT (List.getD (RS.l (Prod.snd (V15.c3 v))) i (Tok.mk (0 : Int) [] (0 : Int) (0 : Int))), AV.int IntKind.i64 (RS.e (Prod.snd (V15.c3 v))), AV.agg [AV.int IntKind.i64 (RS.fe (Prod.snd (V15.c3 v))), AV.int IntKind.i64 (RS.fa (Prod.snd (V15.c3 v)))]])] (AV.int IntKind.i64 (Prod.fst (V15.c4 v))) [some (BoxC.cell (60 : TypeId) (Shape.agg [Shape.leaf, Shape.leaf, Shape.agg [Shape.leaf, Shape.leaf]]) (AV.agg [AV.seq (Shape.agg [Shape.leaf, Shape.leaf, Shape.leaf, Shape.leaf]) (List.length (RS.l (Prod.snd (V15.c4 v)))) fun (i : Nat) => encT (List.getD (RS.l (Prod.snd (V15.c4 v))) i (Tok.mk (0 : Int) [] (0 : Int) (0 : Int))), AV.int IntKind.i64 (RS.e (Prod.snd (V15.c4 v))), AV.agg [AV.int IntKind.i64 (RS.fe (Prod.snd (V15.c4 v))), AV.int IntKind.i64 (RS.fa (Prod.snd (V15.c4 v)))]]))] ∧ (∃ (i : Pq), (rbugs (Pq.fuel i) (Pq.last i) (Pq.out i) (Pq.s i) = rbugs n (0 : Int) [] (Prod.snd (V15.c4 v)) ∧ (1 : Nat) ≤ Pq.fuel i ∧ (RS.fe (Pq.s i) = (0 : Int) → List.length (RS.l (Pq.s i)) + (1 : Nat) ≤ Pq.fuel i) ∧ List.length (RS.l (Pq.s i)) ≤ List.length (RS.l (Prod.snd (V15.c4 v))) ∧ (RS.fe (Pq.s i) = (0 : Int) → List.length (Pq.out i) + List.length (RS.l (Pq.s i)) ≤ List.length (RS.l (Prod.snd (V15.c4 v)))) ∧ List.length (Pq.out i) ≤ List.length (RS.l (Prod.snd (V15.c4 v))) + (1 : Nat)) ∧ (AV.ptr (2 : Nat) [] = AV.ptr (2 : Nat) [] ∧ AV.ptr (3 : Nat) [] = AV.ptr (3 : Nat) [] ∧ AV.ptr (24 : Nat) [] = AV.ptr (24 : Nat) [] ∧ AV.ptr (7 : Nat) [] = AV.ptr (7 : Nat) [] ∧ (IntKind.i64 = IntKind.i64 ∧ (0 : Int) = Pq.last i) ∧ True) ∧ ((24 : Nat) = (24 : TypeId) ∧ Shape.agg [Shape.leaf, Shape.leaf, Shape.leaf, Shape.leaf, Shape.leaf] = Shape.agg [Shape.leaf, Shape.leaf, Shape.leaf, Shape.leaf, Shape.leaf] ∧ (IntKind.i64 = IntKind.i64 ∧ (0 : Int) = (0 : Int)) ∧ (IntKind.i64 = IntKind.i64 ∧ (0 : Int) = (0 : Int)) ∧ (IntKind.i64 = IntKind.i64 ∧ (0 : Int) = (0 : Int)) ∧ (IntKind.i64 = IntKind.i64 ∧ (0 : Int) = (0 : Int)) ∧ AV.nils = AV.nils ∧ True) ∧ ((31 : Nat) = (31 : TypeId) ∧ Shape.agg [Shape.leaf, Shape.leaf] = Shape.agg [Shape.leaf, Shape.leaf] ∧ (IntKind.i64 = IntKind.i64 ∧ (0 : Int) = (0 : Int)) ∧ (IntKind.i64 = IntKind.i64 ∧ (0 : Int) = (0 : Int)) ∧ True) ∧ ((60 : TypeId) = (60 : TypeId) ∧ Shape.agg [Shape.leaf, Shape.leaf, Shape.agg [Shape.leaf, Shape.leaf]] = Shape.agg [Shape.leaf, Shape.leaf, Shape.agg [Shape.leaf, Shape.leaf]] ∧ (Shape.agg [Shape.leaf, Shape.leaf, Shape.leaf, Shape.leaf] = Shape.agg [Shape.leaf, Shape.leaf, Shape.leaf, Shape.leaf] ∧ List.length (RS.l (Prod.snd (V15.c4 v))) = List.length (RS.l (Pq.s i)) ∧ ∀ (i_1 : Nat), i_1 < List.length (RS.l (Prod.snd (V15.c4 v))) → encT (List.getD (RS.l (Prod.snd (V15.c4 v))) i_1 (Tok.mk (0 : Int) [] (0 : Int) (0 : Int))) = encT (List.getD (RS.l (Pq.s i)) i_1 (Tok.mk (0 : Int) [] (0 : Int) (0 : Int)))) ∧ (IntKind.i64 = IntKind.i64 ∧ RS.e (Prod.snd (V15.c4 v)) = RS.e (Pq.s i)) ∧ ((IntKind.i64 = IntKind.i64 ∧ RS.fe (Prod.snd (V15.c4 v)) = RS.fe (Pq.s i)) ∧ (IntKind.i64 = IntKind.i64 ∧ RS.fa (Prod.snd (V15.c4 v)) = RS.fa (Pq.s i)) ∧ True) ∧ True) ∧ ((24 : Nat) = (24 : TypeId) ∧ Shape.agg [Shape.leaf, Shape.leaf, Shape.leaf, Shape.leaf, Shape.leaf] = Shape.agg [Shape.leaf, Shape.leaf, Shape.leaf, Shape.leaf, Shape.leaf] ∧ (IntKind.i64 = IntKind.i64 ∧ Prod.fst (V15.c1 v) = Prod.fst (V15.c1 v)) ∧ (IntKind.i64 = IntKind.i64 ∧ Prod.fst (V15.c2 v) = Prod.fst (V15.c2 v)) ∧ (IntKind.i64 = IntKind.i64 ∧ Prod.fst (V15.c3 v) = Prod.fst (V15.c3 v)) ∧ (IntKind.i64 = IntKind.i64 ∧ Prod.fst (V15.c4 v) = Prod.fst (V15.c4 v)) ∧ (List.length (Pq.out i) = (0 : Nat) ∧ true = true ∧ true = true) ∧ True) ∧ (List.length (Pq.out i) = (0 : Nat) ∧ true = true) ∧ True) ∧ ∀ (i : Pq), rbugs (Pq.fuel i) (Pq.last i) (Pq.out i) (Pq.s i) = rbugs n (0 : Int) [] (Prod.snd (V15.c4 v)) ∧ (1 : Nat) ≤ Pq.fuel i ∧ (RS.fe (Pq.s i) = (0 : Int) → List.length (RS.l (Pq.s i)) + (1 : Nat) ≤ Pq.fuel i) ∧ List.length (RS.l (Pq.s i)) ≤ List.length (RS.l (Prod.snd (V15.c4 v))) ∧ (RS.fe (Pq.s i) = (0 : Int) → List.length (Pq.out i) + List.length (RS.l (Pq.s i)) ≤ List.length (RS.l (Prod.snd (V15.c4 v)))) ∧ List.length (Pq.out i) ≤ List.length (RS.l (Prod.snd (V15.c4 v))) + (1 : Nat) → ((RS.fe (Pq.s i) == (0 : Int)) = true → (RS.fe (Pq.s i) == (0 : Int)) = true) ∧ ((RS.fe (Pq.s i) == (0 : Int)) = true → (RS.fe (Pq.s i) == (0 : Int)) = true) ∧ ((RS.fe (Pq.s i) == (0 : Int)) = true → (RS.fe (Pq.s i) == (0 : Int)) = true) ∧ ((RS.fe (Pq.s i) == (0 : Int)) = true → (RS.fe (Pq.s i) == (0 : Int)) = true) ∧ ((RS.fe (Pq.s i) == (0 : Int)) = true → (↑(List.length (RS.l (Pq.s i))) : Int) ≤ (9223372036854775807 : Int)) ∧ ((RS.fe (Pq.s i) == (0 : Int)) = true → (RS.fe (Pq.s i) == (0 : Int)) = true) ∧ ((RS.fe (Pq.s i) == (0 : Int)) = true → (RS.fe (Pq.s i) == (0 : Int)) = true) ∧ ((RS.fe (Pq.s i) == (0 : Int) && decide ((0 : Int) < (↑(List.length (RS.l (Pq.s i))) : Int))) = true → KnownL Tryd.prog [] (33 : Nat) [AV.ptr (0 : Nat) [], AV.int IntKind.i64 (Pq.last i)] [BoxC.cell (60 : TypeId) (Shape.agg [Shape.leaf, Shape.leaf, Shape.agg [Shape.leaf, Shape.leaf]]) (AV.agg [AV.seq (Shape.agg [Shape.leaf, Shape.leaf, Shape.leaf, Shape.leaf]) (List.length (RS.l (Pq.s i))) fun (i_1 : Nat) => encT (List.getD (RS.l (Pq.s i)) i_1 (Tok.mk (0 : Int) [] (0 : Int) (0 : Int))), AV.int IntKind.i64 (RS.e (Pq.s i)), AV.agg [AV.int IntKind.i64 (RS.fe (Pq.s i)), AV.int IntKind.i64 (RS.fa (Pq.s i))]])] (AV.mc (Shape.agg [Shape.leaf, Shape.leaf]) (AV.agg [AV.int IntKind.i64 (Cex.bug (Prod.fst (rbug (RS.mk (decR (AV.seq (Shape.agg [Shape.leaf, Shape.leaf, Shape.leaf, Shape.leaf]) (List.length (RS.l (Pq.s i))) fun (i_1 : Nat) => encT (List.getD (RS.l (Pq.s i)) i_1 (Tok.mk (0 : Int) [] (0 : Int) (0 : Int))))) (RS.e (Pq.s i)) (RS.fe (Pq.s i)) (RS.fa (Pq.s i))) (Pq.last i)))), AV.seq Shape.leaf (List.length (Cex.sch (Prod.fst (rbug (RS.mk (decR (AV.seq (Shape.agg [Shape.leaf, Shape.leaf, Shape.leaf, Shape.leaf]) (List.length (RS.l (Pq.s i))) fun (i_1 : Nat) => encT (List.getD (RS.l (Pq.s i)) i_1 (Tok.mk (0 : Int) [] (0 : Int) (0 : Int))))) (RS.e (Pq.s i)) (RS.fe (Pq.s i)) (RS.fa (Pq.s i))) (Pq.last i))))) fun (i_1 : Nat) => AV.int IntKind.i64 (List.getD (Cex.sch (Prod.fst (rbug (RS.mk (decR (AV.seq (Shape.agg [Shape.leaf, Shape.leaf, Shape.leaf, Shape.leaf]) (List.length (RS.l (Pq.s i))) fun (i_2 : Nat) => encT (List.getD (RS.l (Pq.s i)) i_2 (Tok.mk (0 : Int) [] (0 : Int) (0 : Int))))) (RS.e (Pq.s i)) (RS.fe (Pq.s i)) (RS.fa (Pq.s i))) (Pq.last i)))) i_1 (0 : Int))])) [some (BoxC.cell (60 : TypeId) (Shape.agg [Shape.leaf, Shape.leaf, Shape.agg [Shape.leaf, Shape.leaf]]) (AV.agg [AV.seq (Shape.agg [Shape.leaf, Shape.leaf, Shape.leaf, Shape.leaf]) (List.length (RS.l (Prod.snd (rbug (RS.mk (decR (AV.seq (Shape.agg [Shape.leaf, Shape.leaf, Shape.leaf, Shape.leaf]) (List.length (RS.l (Pq.s i))) fun (i_1 : Nat) => encT (List.getD (RS.l (Pq.s i)) i_1 (Tok.mk (0 : Int) [] (0 : Int) (0 : Int))))) (RS.e (Pq.s i)) (RS.fe (Pq.s i)) (RS.fa (Pq.s i))) (Pq.last i))))) fun (i_1 : Nat) => encT (List.getD (RS.l (Prod.snd (rbug (RS.mk (decR (AV.seq (Shape.agg [Shape.leaf, Shape.leaf, Shape.leaf, Shape.leaf]) (List.length (RS.l (Pq.s i))) fun (i_2 : Nat) => encT (List.getD (RS.l (Pq.s i)) i_2 (Tok.mk (0 : Int) [] (0 : Int) (0 : Int))))) (RS.e (Pq.s i)) (RS.fe (Pq.s i)) (RS.fa (Pq.s i))) (Pq.last i)))) i_1 (Tok.mk (0 : Int) [] (0 : Int) (0 : Int))), AV.int IntKind.i64 (RS.e (Prod.snd (rbug (RS.mk (decR (AV.seq (Shape.agg [Shape.leaf, Shape.leaf, Shape.leaf, Shape.leaf]) (List.length (RS.l (Pq.s i))) fun (i_1 : Nat) => encT (List.getD (RS.l (Pq.s i)) i_1 (Tok.mk (0 : Int) [] (0 : Int) (0 : Int))))) (RS.e (Pq.s i)) (RS.fe (Pq.s i)) (RS.fa (Pq.s i))) (Pq.last i)))), AV.agg [AV.int IntKind.i64 (RS.fe (Prod.snd (rbug (RS.mk (decR (AV.seq (Shape.agg [Shape.leaf, Shape.leaf, Shape.leaf, Shape.leaf]) (List.length (RS.l (Pq.s i))) fun (i_1 : Nat) => encT (List.getD (RS.l (Pq.s i)) i_1 (Tok.mk (0 : Int) [] (0 : Int) (0 : Int))))) (RS.e (Pq.s i)) (RS.fe (Pq.s i)) (RS.fa (Pq.s i))) (Pq.last i)))), AV.int IntKind.i64 (RS.fa (Prod.snd (rbug (RS.mk (decR (AV.seq (Shape.agg [Shape.leaf, Shape.leaf, Shape.leaf, Shape.leaf]) (List.length (RS.l (Pq.s i))) fun (i_1 : Nat) => encT (List.getD (RS.l (Pq.s i)) i_1 (Tok.mk (0 : Int) [] (0 : Int) (0 : Int))))) (RS.e (Pq.s i)) (RS.fe (Pq.s i)) (RS.fa (Pq.s i))) (Pq.last i))))]]))] ∧ (1 : Nat) * Shape.size cexSh ≤ (16777216 : Nat) ∧ (List.length (Pq.out i) = List.length (Pq.out i) ∧ (↑(List.length (Pq.out i) + (1 : Nat)) : Int) * (↑(32 : Nat) : Int) ≤ (140737488355328 : Int) ∧ List.length (Pq.out i) + (1 : Nat) ≤ (9223372036854775807 : Nat)) ∧ (1 : Nat) ≤ (1 : Nat) ∧ ∃ (j : Pq), (rbugs (Pq.fuel j) (Pq.last j) (Pq.out j) (Pq.s j) = rbugs n (0 : Int) [] (Prod.snd (V15.c4 v)) ∧ (1 : Nat) ≤ Pq.fuel j ∧ (RS.fe (Pq.s j) = (0 : Int) → List.length (RS.l (Pq.s j)) + (1 : Nat) ≤ Pq.fuel j) ∧ List.length (RS.l (Pq.s j)) ≤ List.length (RS.l (Prod.snd (V15.c4 v))) ∧ (RS.fe (Pq.s j) = (0 : Int) → List.length (Pq.out j) + List.length (RS.l (Pq.s j)) ≤ List.length (RS.l (Prod.snd (V15.c4 v)))) ∧ List.length (Pq.out j) ≤ List.length (RS.l (Prod.snd (V15.c4 v))) + (1 : Nat)) ∧ ((if RS.fe (Pq.s j) = (0 : Int) then List.length (RS.l (Pq.s j)) + (1 : Nat) else (0 : Nat)) < if RS.fe (Pq.s i) = (0 : Int) then List.length (RS.l (Pq.s i)) + (1 : Nat) else (0 : Nat)) ∧ (AV.ptr (2 : Nat) [] = AV.ptr (2 : Nat) [] ∧ AV.ptr (3 : Nat) [] = AV.ptr (3 : Nat) [] ∧ AV.ptr (24 : Nat) [] = AV.ptr (24 : Nat) [] ∧ AV.ptr (7 : Nat) [] = AV.ptr (7 : Nat) [] ∧ (IntKind.i64 = IntKind.i64 ∧ Cex.bug (Prod.fst (rbug (RS.mk (decR (AV.seq (Shape.agg [Shape.leaf, Shape.leaf, Shape.leaf, Shape.leaf]) (List.length (RS.l (Pq.s i))) fun (i_1 : Nat) => encT (List.getD (RS.l (Pq.s i)) i_1 (Tok.mk (0 : Int) [] (0 : Int) (0 : Int))))) (RS.e (Pq.s i)) (RS.fe (Pq.s i)) (RS.fa (Pq.s i))) (Pq.last i))) = Pq.last j) ∧ True) ∧ ((24 : TypeId) = (24 : TypeId) ∧ Shape.agg [Shape.leaf, Shape.leaf, Shape.leaf, Shape.leaf, Shape.leaf] = Shape.agg [Shape.leaf, Shape.leaf, Shape.leaf, Shape.leaf, Shape.leaf] ∧ (IntKind.i64 = IntKind.i64 ∧ (0 : Int) = (0 : Int)) ∧ (IntKind.i64 = IntKind.i64 ∧ (0 : Int) = (0 : Int)) ∧ (IntKind.i64 = IntKind.i64 ∧ (0 : Int) = (0 : Int)) ∧ (IntKind.i64 = IntKind.i64 ∧ (0 : Int) = (0 : Int)) ∧ AV.nils = AV.nils ∧ True) ∧ ((31 : TypeId) = (31 : TypeId) ∧ Shape.agg [Shape.leaf, Shape.leaf] = Shape.agg [Shape.leaf, Shape.leaf] ∧ (IntKind.i64 = IntKind.i64 ∧ (0 : Int) = (0 : Int)) ∧ (IntKind.i64 = IntKind.i64 ∧ (0 : Int) = (0 : Int)) ∧ True) ∧ ((60 : TypeId) = (60 : TypeId) ∧ Shape.agg [Shape.leaf, Shape.leaf, Shape.agg [Shape.leaf, Shape.leaf]] = Shape.agg [Shape.leaf, Shape.leaf, Shape.agg [Shape.leaf, Shape.leaf]] ∧ (Shape.agg [Shape.leaf, Shape.leaf, Shape.leaf, Shape.leaf] = Shape.agg [Shape.leaf, Shape.leaf, Shape.leaf, Shape.leaf] ∧ List.length (RS.l (Prod.snd (rbug (RS.mk (decR (AV.seq (Shape.agg [Shape.leaf, Shape.leaf, Shape.leaf, Shape.leaf]) (List.length (RS.l (Pq.s i))) fun (i_1 : Nat) => encT (List.getD (RS.l (Pq.s i)) i_1 (Tok.mk (0 : Int) [] (0 : Int) (0 : Int))))) (RS.e (Pq.s i)) (RS.fe (Pq.s i)) (RS.fa (Pq.s i))) (Pq.last i)))) = List.length (RS.l (Pq.s j)) ∧ ∀ (i_1 : Nat), i_1 < List.length (RS.l (Prod.snd (rbug (RS.mk (decR (AV.seq (Shape.agg [Shape.leaf, Shape.leaf, Shape.leaf, Shape.leaf]) (List.length (RS.l (Pq.s i))) fun (i_2 : Nat) => encT (List.getD (RS.l (Pq.s i)) i_2 (Tok.mk (0 : Int) [] (0 : Int) (0 : Int))))) (RS.e (Pq.s i)) (RS.fe (Pq.s i)) (RS.fa (Pq.s i))) (Pq.last i)))) → encT (List.getD (RS.l (Prod.snd (rbug (RS.mk (decR (AV.seq (Shape.agg [Shape.leaf, Shape.leaf, Shape.leaf, Shape.leaf]) (List.length (RS.l (Pq.s i))) fun (i_2 : Nat) => encT (List.getD (RS.l (Pq.s i)) i_2 (Tok.mk (0 : Int) [] (0 : Int) (0 : Int))))) (RS.e (Pq.s i)) (RS.fe (Pq.s i)) (RS.fa (Pq.s i))) (Pq.last i)))) i_1 (Tok.mk (0 : Int) [] (0 : Int) (0 : Int))) = encT (List.getD (RS.l (Pq.s j)) i_1 (Tok.mk (0 : Int) [] (0 : Int) (0 : Int)))) ∧ (IntKind.i64 = IntKind.i64 ∧ RS.e (Prod.snd (rbug (RS.mk (decR (AV.seq (Shape.agg [Shape.leaf, Shape.leaf, Shape.leaf, Shape.leaf]) (List.length (RS.l (Pq.s i))) fun (i_1 : Nat) => encT (List.getD (RS.l (Pq.s i)) i_1 (Tok.mk (0 : Int) [] (0 : Int) (0 : Int))))) (RS.e (Pq.s i)) (RS.fe (Pq.s i)) (RS.fa (Pq.s i))) (Pq.last i))) = RS.e (Pq.s j)) ∧ ((IntKind.i64 = IntKind.i64 ∧ RS.fe (Prod.snd (rbug (RS.mk (decR (AV.seq (Shape.agg [Shape.leaf, Shape.leaf, Shape.leaf, Shape.leaf]) (List.length (RS.l (Pq.s i))) fun (i_1 : Nat) => encT (List.getD (RS.l (Pq.s i)) i_1 (Tok.mk (0 : Int) [] (0 : Int) (0 : Int))))) (RS.e (Pq.s i)) (RS.fe (Pq.s i)) (RS.fa (Pq.s i))) (Pq.last i))) = RS.fe (Pq.s j)) ∧ (IntKind.i64 = IntKind.i64 ∧ RS.fa (Prod.snd (rbug (RS.mk (decR (AV.seq (Shape.agg [Shape.leaf, Shape.leaf, Shape.leaf, Shape.leaf]) (List.length (RS.l (Pq.s i))) fun (i_1 : Nat) => encT (List.getD (RS.l (Pq.s i)) i_1 (Tok.mk (0 : Int) [] (0 : Int) (0 : Int))))) (RS.e (Pq.s i)) (RS.fe (Pq.s i)) (RS.fa (Pq.s i))) (Pq.last i))) = RS.fa (Pq.s j)) ∧ True) ∧ True) ∧ ((24 : TypeId) = (24 : TypeId) ∧ Shape.agg [Shape.leaf, Shape.leaf, Shape.leaf, Shape.leaf, Shape.leaf] = Shape.agg [Shape.leaf, Shape.leaf, Shape.leaf, Shape.leaf, Shape.leaf] ∧ (IntKind.i64 = IntKind.i64 ∧ Prod.fst (V15.c1 v) = Prod.fst (V15.c1 v)) ∧ (IntKind.i64 = IntKind.i64 ∧ Prod.fst (V15.c2 v) = Prod.fst (V15.c2 v)) ∧ (IntKind.i64 = IntKind.i64 ∧ Prod.fst (V15.c3 v) = Prod.fst (V15.c3 v)) ∧ (IntKind.i64 = IntKind.i64 ∧ Prod.fst (V15.c4 v) = Prod.fst (V15.c4 v)) ∧ ((60 : Nat) = (60 : Nat) ∧ List.length (Pq.out i) + (1 : Nat) = List.length (Pq.out j)) ∧ True) ∧ ((49 : TypeId) = (49 : TypeId) ∧ Shape.agg [Shape.leaf, Shape.leaf] = Shape.agg [Shape.leaf, Shape.leaf] ∧ List.length (Pq.out i) + (1 : Nat) = List.length (Pq.out j) ∧ ∀ (i_1 : Nat), i_1 < List.length (Pq.out i) + (1 : Nat) → (if i_1 < List.length (Pq.out i) then encC (List.getD (Pq.out i) i_1 c0) else List.getD (List.set (List.replicate (1 : Nat) (AV.agg [AV.int IntKind.i64 (0 : Int), AV.nils])) (0 : Nat) (AV.agg [AV.int IntKind.i64 (Cex.bug (Prod.fst (rbug (RS.mk (decR (AV.seq (Shape.agg [Shape.leaf, Shape.leaf, Shape.leaf, Shape.leaf]) (List.length (RS.l (Pq.s i))) fun (i_2 : Nat) => encT (List.getD (RS.l (Pq.s i)) i_2 (Tok.mk (0 : Int) [] (0 : Int) (0 : Int))))) (RS.e (Pq.s i)) (RS.fe (Pq.s i)) (RS.fa (Pq.s i))) (Pq.last i)))), AV.seq Shape.leaf (List.length (Cex.sch (Prod.fst (rbug (RS.mk (decR (AV.seq (Shape.agg [Shape.leaf, Shape.leaf, Shape.leaf, Shape.leaf]) (List.length (RS.l (Pq.s i))) fun (i_2 : Nat) => encT (List.getD (RS.l (Pq.s i)) i_2 (Tok.mk (0 : Int) [] (0 : Int) (0 : Int))))) (RS.e (Pq.s i)) (RS.fe (Pq.s i)) (RS.fa (Pq.s i))) (Pq.last i))))) fun (i_2 : Nat) => AV.int IntKind.i64 (List.getD (Cex.sch (Prod.fst (rbug (RS.mk (decR (AV.seq (Shape.agg [Shape.leaf, Shape.leaf, Shape.leaf, Shape.leaf]) (List.length (RS.l (Pq.s i))) fun (i_3 : Nat) => encT (List.getD (RS.l (Pq.s i)) i_3 (Tok.mk (0 : Int) [] (0 : Int) (0 : Int))))) (RS.e (Pq.s i)) (RS.fe (Pq.s i)) (RS.fa (Pq.s i))) (Pq.last i)))) i_2 (0 : Int))])) (i_1 - List.length (Pq.out i)) AV.any) = encC (List.getD (Pq.out j) i_1 c0)) ∧ True) ∧ ((RS.fe (Pq.s i) == (0 : Int) && decide ((0 : Int) < (↑(List.length (RS.l (Pq.s i))) : Int))) = false → ((RS.fe (Pq.s i) != (0 : Int)) = true → (Shape.agg [Shape.leaf, Shape.leaf, Shape.leaf, Shape.leaf, Shape.leaf] = Shape.agg [Shape.leaf, Shape.leaf, Shape.leaf, Shape.leaf, Shape.leaf] ∧ (IntKind.i64 = IntKind.i64 ∧ (0 : Int) = Rp.t R) ∧ (IntKind.i64 = IntKind.i64 ∧ (0 : Int) = Rp.b R) ∧ (IntKind.i64 = IntKind.i64 ∧ (0 : Int) = Rp.u R) ∧ (IntKind.i64 = IntKind.i64 ∧ (0 : Int) = Rp.o R) ∧ List.length (Rp.bugs R) = (0 : Nat) ∧ True) ∧ (Shape.agg [Shape.leaf, Shape.leaf] = Shape.agg [Shape.leaf, Shape.leaf] ∧ (IntKind.i64 = IntKind.i64 ∧ RS.fe (Pq.s i) = x) ∧ (IntKind.i64 = IntKind.i64 ∧ RS.fa (Pq.s i) = a) ∧ True) ∧ True) ∧ ((RS.fe (Pq.s i) != (0 : Int)) = false → List.length (Pq.out i) ≤ List.length (Pq.out i) ∧ (Shape.agg [Shape.leaf, Shape.leaf, Shape.leaf, Shape.leaf, Shape.leaf] = Shape.agg [Shape.leaf, Shape.leaf, Shape.leaf, Shape.leaf, Shape.leaf] ∧ (IntKind.i64 = IntKind.i64 ∧ Prod.fst (V15.c1 v) = Rp.t R) ∧ (IntKind.i64 = IntKind.i64 ∧ Prod.fst (V15.c2 v) = Rp.b R) ∧ (IntKind.i64 = IntKind.i64 ∧ Prod.fst (V15.c3 v) = Rp.u R) ∧ (IntKind.i64 = IntKind.i64 ∧ Prod.fst (V15.c4 v) = Rp.o R) ∧ (Shape.agg [Shape.leaf, Shape.leaf] = Shape.agg [Shape.leaf, Shape.leaf] ∧ List.length (Pq.out i) = List.length (Rp.bugs R) ∧ ∀ (i_1 : Nat), i_1 < List.length (Pq.out i) → encC (List.getD (Pq.out i) i_1 c0) = encC (List.getD (Rp.bugs R) i_1 c0)) ∧ True) ∧ (Shape.agg [Shape.leaf, Shape.leaf] = Shape.agg [Shape.leaf, Shape.leaf] ∧ (IntKind.i64 = IntKind.i64 ∧ (0 : Int) = x) ∧ (IntKind.i64 = IntKind.i64 ∧ (0 : Int) = a) ∧ True) ∧ True)))) := by kernel_rfl
theorem kParseR (s : List UInt8) (hs : s.length ≤ 9223372036854775807) : Known Tryd.prog [] 15 [.str s] (.tup [.mc repSh (encR (parseS s).1), .mc fltSh (encF (parseS s).2.1 (parseS s).2.2)]) := by
  refine Known.of (V := v15 (at15 ⟨(scan s).1, s.length, 0, 0⟩) ((at15 ⟨(scan s).1, s.length, 0, 0⟩).c4.2.l.length + 1)) (fn := Tryd.f15) rfl (by kernel_rfl) (cfgP_ok _ _ _) rfl ?_
  show gParseR s (at15 ⟨(scan s).1, s.length, 0, 0⟩) ((at15 ⟨(scan s).1, s.length, 0, 0⟩).c4.2.l.length + 1) _ _ _
  rw [eParseR]
  simp only [and_true, true_and, Bool.and_eq_true, Bool.and_eq_false_iff, decide_eq_true_eq, decide_eq_false_iff_not, imp_self, beq_iff_eq, beq_eq_false_iff_ne, bne_iff_ne, bne_eq_false_iff_eq, ne_eq]
  simp only [t0_eq, decR_seq, rs_eta]
  have hsl := scan_len s
  refine ⟨k10 s hs, fun h => ?_, fun h => ?_⟩
  · rw [show parseS s = (r0, (scan s).2.1, (scan s).2.2) from by unfold parseS; rw [if_pos h]]
    exact ⟨⟨rfl, rfl, rfl, rfl, rfl⟩, rfl, rfl⟩
  · rw [show parseS s = endS (at15 ⟨(scan s).1, s.length, 0, 0⟩) from by unfold parseS; rw [if_neg (by simpa using h)]]
    have n0 : (RS.mk (scan s).1 s.length 0 0).l.length ≤ 16384 := hsl
    generalize hS : RS.mk (scan s).1 s.length 0 0 = S at *
    have n1 := rcount_len S w1
    have n2 := rcount_len (rcount S w1).2 w2
    have n3 := rcount_len (rcount (rcount S w1).2 w2).2 w3
    have n4 := rcount_len (rcount (rcount (rcount S w1).2 w2).2 w3).2 w4
    have q1 := k32r S w1 (by omega)
    have q2 := k32r (rcount S w1).2 w2 (by omega)
    have q3 := k32r (rcount (rcount S w1).2 w2).2 w3 (by omega)
    have q4 := k32r (rcount (rcount (rcount S w1).2 w2).2 w3).2 w4 (by omega)
    have m4 : (at15 S).c4.2.l.length ≤ 16384 := by
      show (rcount (rcount (rcount (rcount S w1).2 w2).2 w3).2 w4).2.l.length ≤ _
      omega
    rw [← hS] at q1
    refine ⟨by omega, ?_, ?_, ?_, ?_, ?_⟩
    · rw [← hS]; exact q1
    · exact q2
    · exact q3
    · exact q4
    · unfold endS
      clear q1 q2 q3 q4 n1 n2 n3 n4
      generalize at15 S = V at *
      refine ⟨⟨⟨V.c4.2, 0, [], V.c4.2.l.length + 1⟩, ⟨rfl, by simp, fun _ => Nat.le_refl _, Nat.le_refl _, fun _ => by simp, by simp⟩, rfl, ⟨⟨rfl, fun _ _ => rfl⟩, rfl, rfl, rfl⟩, rfl, rfl⟩, fun p hp => ⟨fun _ => by omega, fun g => ?_, fun g => ⟨fun g1 => ?_, fun g1 => ?_⟩⟩⟩
      · have b1 := rbug_len p.s p.last
        have b2 := @rbug_lt p.s p.last g.1
        have hf := hp.2.2.1 g.1
        have ho := hp.2.2.2.2.1 g.1
        refine ⟨k33r _ _ (by omega), by decide, ⟨by omega, by omega⟩, by omega, ⟨(rbug p.s p.last).2, (rbug p.s p.last).1.bug, p.out ++ [(rbug p.s p.last).1], p.fuel - 1⟩, ⟨?_, ?_, ?_, ?_, ?_, ?_⟩, ?_, rfl, ⟨⟨rfl, fun _ _ => rfl⟩, rfl, rfl, rfl⟩, by simp, by simp, fun i hi => app_cex hi⟩
        · rw [← hp.1, rbugs_next (by omega) hp.2.1]
        · show 1 ≤ p.fuel - 1
          omega
        · intro e
          have := b2 e
          show (rbug p.s p.last).2.l.length + 1 ≤ p.fuel - 1
          omega
        · show (rbug p.s p.last).2.l.length ≤ _
          omega
        · intro e
          have := b2 e
          simp only [List.length_append, List.length_cons, List.length_nil]
          omega
        · simp only [List.length_append, List.length_cons, List.length_nil]
          omega
        · show (if (rbug p.s p.last).2.fe = 0 then (rbug p.s p.last).2.l.length + 1 else 0) < _
          rw [if_pos g.1]
          split
          · rename_i e
            have := b2 e
            omega
          · omega
      · rw [← hp.1, rbugs_end (by omega) hp.2.1]
        unfold finS
        rw [if_pos g1]
        exact ⟨⟨rfl, rfl, rfl, rfl, rfl⟩, rfl, rfl⟩
      · rw [← hp.1, rbugs_end (by omega) hp.2.1]
        unfold finS
        rw [if_neg (by simpa using g1)]
        exact ⟨Nat.le_refl _, ⟨rfl, rfl, rfl, rfl, rfl, fun _ _ => rfl⟩, rfl, rfl⟩
end Go.Proofs.S52
