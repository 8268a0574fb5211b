import Derived.Test.YtdbeklchoojpnaaDoorG52j
namespace Go.Proofs.S52
open Go Go.AV Go.Proofs.Dec

def good (l : List Tok) : Prop := ∀ t ∈ l, in64 t.pos
theorem good_nil : good [] := fun _ h => by cases h
theorem in64_c {n : Int} (h : -1000 ≤ n ∧ n ≤ 1000) : in64 n := by unfold in64; omega
theorem next_fine {a b e : Int} {l : List Tok} (hl : good l) (he : in64 e) : in64 (nextP a b e l).err ∧ in64 (nextP a b e l).pos ∧ good (nextP a b e l).rest ∧ in64 (nextP a b e l).val.pos := by
  cases l with
  | nil => exact ⟨in64_c (by simp [nextP]), he, good_nil, in64_c (by simp [nextP, t0])⟩
  | cons t l =>
    simp only [nextP]
    split
    · exact ⟨in64_c (by simp), hl t (by simp), good_nil, in64_c (by simp [t0])⟩
    · exact ⟨in64_c (by simp), in64_c (by simp), fun u hu => hl u (by simp [hu]), hl t (by simp)⟩
theorem next_lt {a b e : Int} {l : List Tok} (h : (nextP a b e l).err = 0) : (nextP a b e l).rest.length < l.length := by
  cases l with
  | nil => simp [nextP] at h
  | cons t l =>
    simp only [nextP] at h ⊢
    split at h
    · simp at h
    · rename_i h1
      simp [h1]
theorem word_fine {s : List UInt8} {e : Int} {l : List Tok} (hl : good l) (he : in64 e) : in64 (wordP s e l).err ∧ in64 (wordP s e l).pos ∧ good (wordP s e l).rest := by
  obtain ⟨h1, h2, h3, h4⟩ := next_fine (a := 1) (b := 1) hl he
  unfold wordP
  split
  · exact ⟨h1, h2, h3⟩
  · split
    · exact ⟨in64_c (by simp), h4, good_nil⟩
    · exact ⟨h1, h2, h3⟩
theorem count_fine {s : List UInt8} {e : Int} {l : List Tok} (hl : good l) (he : in64 e) : in64 (countP s e l).err ∧ in64 (countP s e l).pos ∧ good (countP s e l).rest := by
  obtain ⟨h1, h2, h3⟩ := word_fine (s := s) hl he
  obtain ⟨i1, i2, i3, i4⟩ := next_fine (a := 2) (b := 2) h3 he
  obtain ⟨j1, j2, j3, j4⟩ := next_fine (a := 4) (b := 4) i3 he
  unfold countP numP
  split
  · exact ⟨h1, h2, good_nil⟩
  · split
    · exact ⟨i1, i2, good_nil⟩
    · split
      · exact ⟨in64_c (by simp), i4, good_nil⟩
      · exact ⟨j1, j2, j3⟩
theorem count_len (s : List UInt8) (e : Int) (l : List Tok) : (countP s e l).rest.length ≤ l.length := by
  have h1 := word_len s e l
  have h2 := next_len 2 2 e (wordP s e l).rest
  have h3 := next_len 4 4 e (nextP 2 2 e (wordP s e l).rest).rest
  unfold countP numP
  split
  · simp
  · split
    · simp
    · split
      · simp
      · simp only; omega
theorem nums_fine {e : Int} (he : in64 e) : ∀ {l : List Tok} {out : List Int}, good l → in64 (numsP e l out).err ∧ in64 (numsP e l out).pos ∧ good (numsP e l out).rest ∧ (numsP e l out).rest.length ≤ l.length
  | [], out, _ => ⟨in64_c (by simp [numsP]), he, good_nil, by simp [numsP]⟩
  | t :: l, out, hl => by
    have hl' : good l := fun u hu => hl u (by simp [hu])
    have ht : in64 t.pos := hl t (by simp)
    simp only [numsP]
    split
    · exact ⟨in64_c (by simp), ht, good_nil, by simp⟩
    · split
      · exact ⟨in64_c (by simp), in64_c (by simp), hl', by simp⟩
      · split
        · exact ⟨in64_c (by simp), ht, good_nil, by simp⟩
        · obtain ⟨h1, h2, h3, h4⟩ := nums_fine he (l := l) (out := out ++ [t.num]) hl'
          exact ⟨h1, h2, h3, by simp; omega⟩
theorem bug_fine {last e : Int} {l : List Tok} (hl : good l) (he : in64 e) : in64 (bugP last e l).err ∧ in64 (bugP last e l).pos ∧ good (bugP last e l).rest := by
  obtain ⟨h1, h2, h3⟩ := word_fine (s := wBug) hl he
  obtain ⟨i1, i2, i3, i4⟩ := next_fine (a := 1) (b := 1) h3 he
  obtain ⟨j1, j2, j3, _⟩ := nums_fine he (out := []) i3
  unfold bugP kindP
  split
  · exact ⟨h1, h2, good_nil⟩
  · split
    · exact ⟨i1, i2, good_nil⟩
    · split
      · exact ⟨in64_c (by simp), i4, good_nil⟩
      · split
        · exact ⟨in64_c (by simp), i4, good_nil⟩
        · exact ⟨j1, j2, j3⟩
theorem bug_lt {last e : Int} {l : List Tok} (hl : good l) (he : in64 e) (h : (bugP last e l).err = 0) : (bugP last e l).rest.length < l.length := by
  obtain ⟨h1, h2, h3, h4, h5, h6⟩ := bug_ok h
  rw [h6]
  have a1 := word_len wBug e l
  have a2 := next_lt h2
  have a3 := (nums_fine he (out := []) (next_fine (a := 1) (b := 1) (word_fine (s := wBug) hl he).2.2 he).2.2.1).2.2.2
  simp only
  omega
theorem tok_at (l : List UInt8) (i : Nat) (hi : i ≤ 9223372036854775807) : in64 (tok l i).1.pos := by
  have h : (tok l i).1.pos = i ∨ (tok l i).1.pos = 0 := by
    unfold tok
    split
    · exact .inl rfl
    · split
      · split
        · exact .inl rfl
        · exact .inr rfl
      · split
        · exact .inl rfl
        · split
          · exact .inl rfl
          · exact .inr rfl
  unfold in64
  rcases h with h | h <;> rw [h] <;> omega
theorem scanN_good {l : List UInt8} (hl : l.length ≤ 9223372036854775807) : ∀ (k i : Nat) (out : List Tok), good out → good (scanN l k i out).1 ∧ ((scanN l k i out).2.1 = 0 → (scanN l k i out).2.2 = 0) ∧ in64 (scanN l k i out).2.1 ∧ in64 (scanN l k i out).2.2
  | 0, i, out, h => ⟨h, fun _ => rfl, in64_c (by simp [scanN]), in64_c (by simp [scanN])⟩
  | k + 1, i, out, h => by
    rw [scanN]
    split
    · rename_i hi
      split
      · exact scanN_good hl k _ out h
      · split
        · exact scanN_good hl k _ out h
        · split
          · refine scanN_good hl k _ _ fun t ht => ?_
            rcases List.mem_append.1 ht with ht | ht
            · exact h t ht
            · simp at ht; subst ht; exact tok_at l i (by omega)
          · rename_i he
            refine ⟨good_nil, fun e => absurd e he, ?_, by show in64 (i : Int); unfold in64; omega⟩
            unfold tok
            split
            · exact in64_c (by simp)
            · split
              · split
                · exact in64_c (by simp)
                · have : ∀ x, (parse x).2 = 0 ∨ (parse x).2 = 2 ∨ (parse x).2 = 16 := fun x => by
                    unfold parse
                    split
                    · simp
                    · split
                      · simp
                      · split <;> simp
                  rcases this (cut l i (endOf inW l (i + 1))) with e | e | e <;> simp only [e] <;> exact in64_c (by omega)
              · split
                · exact in64_c (by simp)
                · split <;> exact in64_c (by simp)
    · exact ⟨h, fun _ => rfl, in64_c (by simp), in64_c (by simp)⟩
theorem scan_good {l : List UInt8} (hl : l.length ≤ 9223372036854775807) : good (scan l).1 ∧ ((scan l).2.1 = 0 → (scan l).2.2 = 0) := by
  unfold scan
  split
  · exact ⟨good_nil, fun h => by simp at h⟩
  · have := scanN_good hl l.length 0 [] good_nil
    exact ⟨this.1, this.2.1⟩
theorem app_cex {out : List Cex} {c : Cex} {i : Nat} (hi : i < out.length + 1) : (if i < out.length then encC (out.getD i c0) else ((List.replicate 1 (AV.agg [AV.int IntKind.i64 0, AV.nils])).set 0 (encC c)).getD (i - out.length) AV.any) = encC ((out ++ [c]).getD i c0) := by
  split
  · rename_i h
    rw [List.getD_eq_getElem?_getD, List.getD_eq_getElem?_getD, List.getElem?_append_left h]
  · obtain rfl : i = out.length := by omega
    simp
/-- What report.Parse answers. -/
def finM (a b c d : Int) (q : PR (List Cex)) : Rp × Int × Int := if q.err ≠ 0 then (r0, q.err, q.pos) else (⟨a, b, c, d, q.val⟩, 0, 0)
def parseL (e : Int) (l : List Tok) : Rp × Int × Int :=
  if (countP w1 e l).err ≠ 0 then (r0, (countP w1 e l).err, (countP w1 e l).pos)
  else if (countP w2 e (countP w1 e l).rest).err ≠ 0 then (r0, (countP w2 e (countP w1 e l).rest).err, (countP w2 e (countP w1 e l).rest).pos)
  else if (countP w3 e (countP w2 e (countP w1 e l).rest).rest).err ≠ 0 then (r0, (countP w3 e (countP w2 e (countP w1 e l).rest).rest).err, (countP w3 e (countP w2 e (countP w1 e l).rest).rest).pos)
  else if (countP w4 e (countP w3 e (countP w2 e (countP w1 e l).rest).rest).rest).err ≠ 0 then (r0, (countP w4 e (countP w3 e (countP w2 e (countP w1 e l).rest).rest).rest).err, (countP w4 e (countP w3 e (countP w2 e (countP w1 e l).rest).rest).rest).pos)
  else finM (countP w1 e l).val (countP w2 e (countP w1 e l).rest).val (countP w3 e (countP w2 e (countP w1 e l).rest).rest).val (countP w4 e (countP w3 e (countP w2 e (countP w1 e l).rest).rest).rest).val
    (bugsP e ((countP w4 e (countP w3 e (countP w2 e (countP w1 e l).rest).rest).rest).rest.length + 1) 0 [] (countP w4 e (countP w3 e (countP w2 e (countP w1 e l).rest).rest).rest).rest)
def parseM (s : List UInt8) : Rp × Int × Int := if (scan s).2.1 ≠ 0 then (r0, (scan s).2.1, (scan s).2.2) else parseL s.length (scan s).1
def at14 (e : Int) (l : List Tok) : V14 := ⟨countP w1 e l, countP w2 e (countP w1 e l).rest, countP w3 e (countP w2 e (countP w1 e l).rest).rest, countP w4 e (countP w3 e (countP w2 e (countP w1 e l).rest).rest).rest⟩
theorem parseL_at (e : Int) (l : List Tok) : parseL e l = if (at14 e l).c1.err ≠ 0 then (r0, (at14 e l).c1.err, (at14 e l).c1.pos) else if (at14 e l).c2.err ≠ 0 then (r0, (at14 e l).c2.err, (at14 e l).c2.pos) else if (at14 e l).c3.err ≠ 0 then (r0, (at14 e l).c3.err, (at14 e l).c3.pos) else if (at14 e l).c4.err ≠ 0 then (r0, (at14 e l).c4.err, (at14 e l).c4.pos)
    else finM (at14 e l).c1.val (at14 e l).c2.val (at14 e l).c3.val (at14 e l).c4.val (bugsP e ((at14 e l).c4.rest.length + 1) 0 [] (at14 e l).c4.rest) := rfl
theorem bugs_err {e : Int} {k : Nat} {last : Int} {out : List Cex} {l : List Tok} (h : 0 < l.length) (hk : l.length + 1 ≤ k) (he : ¬ (bugP last e l).err = 0) : bugsP e k last out l = ⟨(bugP last e l).err, (bugP last e l).pos, [], []⟩ := by
  obtain ⟨k, rfl⟩ : ∃ j, k = j + 1 := ⟨k - 1, by omega⟩
  rw [bugsP, if_neg (fun e => by rw [e] at h; simp at h), if_pos he]
theorem bugs_next {e : Int} {k : Nat} {last : Int} {out : List Cex} {l : List Tok} (h : 0 < l.length) (hk : l.length + 1 ≤ k) (he : (bugP last e l).err = 0) : bugsP e k last out l = bugsP e (k - 1) (bugP last e l).val.bug (out ++ [(bugP last e l).val]) (bugP last e l).rest := by
  obtain ⟨k, rfl⟩ : ∃ j, k = j + 1 := ⟨k - 1, by omega⟩
  rw [bugsP, if_neg (fun e => by rw [e] at h; simp at h), if_neg (by simpa using he)]
  rfl
theorem bugs_end {e : Int} {k : Nat} {last : Int} {out : List Cex} {l : List Tok} (h : ¬ 0 < l.length) (hk : l.length + 1 ≤ k) : bugsP e k last out l = ⟨0, 0, out, []⟩ := by
  obtain ⟨k, rfl⟩ : ∃ j, k = j + 1 := ⟨k - 1, by omega⟩
  rw [bugsP, if_pos (List.eq_nil_of_length_eq_zero (by omega))]
theorem eParse (s : List UInt8) (v : V14) (e : Int) (n : Nat) (R : Rp) (x a : Int) : gParse s v e n R x a = (Known Tryd.prog [] (28 : Nat) [AV.str s] (AV.tup [AV.seq (Shape.agg [Shape.leaf, Shape.leaf, Shape.leaf, Shape.leaf]) (List.length (Prod.fst (scan s))) fun (i : Nat) => encT (List.getD (Prod.fst (scan s)) i (Tok.mk (0 : Int) [] (0 : Int) (0 : Int))), AV.mc (Shape.agg [Shape.leaf, Shape.leaf]) (AV.agg [AV.int IntKind.i64 (Prod.fst (Prod.snd (scan s))), AV.int IntKind.i64 (Prod.snd (Prod.snd (scan s)))])]) ∧ ((Prod.fst (Prod.snd (scan s)) != (0 : Int)) = true → (Shape.agg [Shape.leaf, Shape.leaf, Shape.leaf, Shape.leaf, Shape.leaf] = Shape.agg [Shape.leaf, Shape.leaf, Shape.leaf, Shape.leaf, Shape.leaf] ∧ (IntKind.i64 = IntKind.i64 ∧ (0 : Int) = Rp.t R) ∧ (IntKind.i64 = IntKind.i64 ∧ (0 : Int) = Rp.b R) ∧ (IntKind.i64 = IntKind.i64 ∧ (0 : Int) = Rp.u R) ∧ (IntKind.i64 = IntKind.i64 ∧ (0 : Int) = Rp.o R) ∧ List.length (Rp.bugs R) = (0 : Nat) ∧ True) ∧ (Shape.agg [Shape.leaf, Shape.leaf] = Shape.agg [Shape.leaf, Shape.leaf] ∧ (IntKind.i64 = IntKind.i64 ∧ Prod.fst (Prod.snd (scan s)) = x) ∧ (IntKind.i64 = IntKind.i64 ∧ Prod.snd (Prod.snd (scan s)) = a) ∧ True) ∧ True) ∧ ((Prod.fst (Prod.snd (scan s)) != (0 : Int)) = false → (↑(List.length s) : Int) ≤ (9223372036854775807 : Int) ∧ ((PR.err (V14.c1 v) != (0 : Int)) = true → KnownP Tryd.prog [] (30 : Nat) [AV.ptr (0 : Nat) [], AV.str [(116 : UInt8), (114 : UInt8), (97 : UInt8), (99 : UInt8), (101 : UInt8), (115 : UInt8)]] [BoxC.cell (55 : Nat) (Shape.agg [Shape.leaf, Shape.leaf]) (AV.agg [AV.seq (Shape.agg [Shape.leaf, Shape.leaf, Shape.leaf, Shape.leaf]) (List.length (Prod.fst (scan s))) fun (i : Nat) => encT (List.getD (Prod.fst (scan s)) i (Tok.mk (0 : Int) [] (0 : Int) (0 : Int))), AV.int IntKind.i64 (↑(List.length s) : Int)])] (PR.err (V14.c1 v) != (0 : Int)) (thr.fltV' (PR.err (V14.c1 v)) (PR.pos (V14.c1 v))) ∧ ∃ (x_1 : Int), ∃ (y : Int), [PanicEntry.mk (thr.fltV' (PR.err (V14.c1 v)) (PR.pos (V14.c1 v))) false false] = [PanicEntry.mk (Value.iface (nat_lit 31) (Value.agg #[Value.int IntKind.i64 x_1, Value.int IntKind.i64 y])) false false] ∧ InR IntKind.i64 x_1 ∧ InR IntKind.i64 y ∧ (Shape.agg [Shape.leaf, Shape.leaf, Shape.leaf, Shape.leaf, Shape.leaf] = Shape.agg [Shape.leaf, Shape.leaf, Shape.leaf, Shape.leaf, Shape.leaf] ∧ (IntKind.i64 = IntKind.i64 ∧ (0 : Int) = Rp.t R) ∧ (IntKind.i64 = IntKind.i64 ∧ (0 : Int) = Rp.b R) ∧ (IntKind.i64 = IntKind.i64 ∧ (0 : Int) = Rp.u R) ∧ (IntKind.i64 = IntKind.i64 ∧ (0 : Int) = Rp.o R) ∧ List.length (Rp.bugs R) = (0 : Nat) ∧ True) ∧ (Shape.agg [Shape.leaf, Shape.leaf] = Shape.agg [Shape.leaf, Shape.leaf] ∧ (IntKind.i64 = IntKind.i64 ∧ x_1 = x) ∧ (IntKind.i64 = IntKind.i64 ∧ y = a) ∧ True) ∧ True) ∧ ((PR.err (V14.c1 v) != (0 : Int)) = false → KnownL Tryd.prog [] (30 : Nat) [AV.ptr (0 : Nat) [], AV.str [(116 : UInt8), (114 : UInt8), (97 : UInt8), (99 : UInt8), (101 : UInt8), (115 : UInt8)]] [BoxC.cell (55 : Nat) (Shape.agg [Shape.leaf, Shape.leaf]) (AV.agg [AV.seq (Shape.agg [Shape.leaf, Shape.leaf, Shape.leaf, Shape.leaf]) (List.length (Prod.fst (scan s))) fun (i : Nat) => encT (List.getD (Prod.fst (scan s)) i (Tok.mk (0 : Int) [] (0 : Int) (0 : Int))), AV.int IntKind.i64 (↑(List.length s) : Int)])] (AV.int IntKind.i64 (PR.val (V14.c1 v))) [some (BoxC.cell (55 : TypeId) (Shape.agg [Shape.leaf, Shape.leaf]) (AV.agg [AV.seq (Shape.agg [Shape.leaf, Shape.leaf, Shape.leaf, Shape.leaf]) (List.length (PR.rest (V14.c1 v))) fun (i : Nat) => encT (List.getD (PR.rest (V14.c1 v)) i (Tok.mk (0 : Int) [] (0 : Int) (0 : Int))), AV.int IntKind.i64 e]))] ∧ ((PR.err (V14.c2 v) != (0 : Int)) = true → KnownP Tryd.prog [] (30 : Nat) [AV.ptr (0 : Nat) [], AV.str [(98 : UInt8), (108 : UInt8), (111 : UInt8), (99 : UInt8), (107 : UInt8), (101 : UInt8), (100 : UInt8)]] [BoxC.cell (55 : TypeId) (Shape.agg [Shape.leaf, Shape.leaf]) (AV.agg [AV.seq (Shape.agg [Shape.leaf, Shape.leaf, Shape.leaf, Shape.leaf]) (List.length (PR.rest (V14.c1 v))) fun (i : Nat) => encT (List.getD (PR.rest (V14.c1 v)) i (Tok.mk (0 : Int) [] (0 : Int) (0 : Int))), AV.int IntKind.i64 e])] (PR.err (V14.c2 v) != (0 : Int)) (thr.fltV' (PR.err (V14.c2 v)) (PR.pos (V14.c2 v))) ∧ ∃ (x_1 : Int), ∃ (y : Int), [PanicEntry.mk (thr.fltV' (PR.err (V14.c2 v)) (PR.pos (V14.c2 v))) false false] = [PanicEntry.mk (Value.iface (nat_lit 31) (Value.agg #[Value.int IntKind.i64 x_1, Value.int IntKind.i64 y])) false false] ∧ InR IntKind.i64 x_1 ∧ InR IntKind.i64 y ∧ (Shape.agg [Shape.leaf, Shape.leaf, Shape.leaf, Shape.leaf, Shape.leaf] = Shape.agg [Shape.leaf, Shape.leaf, Shape.leaf, Shape.leaf, Shape.leaf] ∧ (IntKind.i64 = IntKind.i64 ∧ (0 : Int) = Rp.t R) ∧ (IntKind.i64 = IntKind.i64 ∧ (0 : Int) = Rp.b R) ∧ (IntKind.i64 = IntKind.i64 ∧ (0 : Int) = Rp.u R) ∧ (IntKind.i64 = IntKind.i64 ∧ (0 : Int) = Rp.o R) ∧ List.length (Rp.bugs R) = (0 : Nat) ∧ True) ∧ (Shape.agg [Shape.leaf, Shape.leaf] = Shape.agg [Shape.leaf, Shape.leaf] ∧ (IntKind.i64 = IntKind.i64 ∧ x_1 = x) ∧ (IntKind.i64 = IntKind.i64 ∧ y = a) ∧ True) ∧ True) ∧ ((PR.err (V14.c2 v) != (0 : Int)) = false → KnownL Tryd.prog [] (30 : Nat) [AV.ptr (0 : Nat) [], AV.str [(98 : UInt8), (108 : UInt8), (111 : UInt8), (99 : UInt8), (107 : UInt8), (101 : UInt8), (100 : UInt8)]] [BoxC.cell (55 : TypeId) (Shape.agg [Shape.leaf, Shape.leaf]) (AV.agg [AV.seq (Shape.agg [Shape.leaf, Shape.leaf, Shape.leaf, Shape.leaf]) (List.length (PR.rest (V14.c1 v))) fun (i : Nat) => encT (List.getD (PR.rest (V14.c1 v)) i (Tok.mk (0 : Int) [] (0 : Int) (0 : Int))), AV.int IntKind.i64 e])] (AV.int IntKind.i64 (PR.val (V14.c2 v))) [some (BoxC.cell (55 : TypeId) (Shape.agg [Shape.leaf, Shape.leaf]) (AV.agg [AV.seq (Shape.agg [Shape.leaf, Shape.leaf, Shape.leaf, Shape.leaf]) (List.length (PR.rest (V14.c2 v))) fun (i : Nat) => encT (List.getD (PR.rest (V14.c2 v)) i (Tok.mk (0 : Int) [] (0 : Int) (0 : Int))), AV.int IntKind.i64 e]))] ∧ ((PR.err (V14.c3 v) != (0 : Int)) = true → KnownP Tryd.prog [] (30 : Nat) [AV.ptr (0 : Nat) [], AV.str [(116 : UInt8), (114 : UInt8), (117 : UInt8), (110 : UInt8), (99 : UInt8), (97 : UInt8), (116 : UInt8), (101 : UInt8), (100 : UInt8)]] [BoxC.cell (55 : TypeId) (Shape.agg [Shape.leaf, Shape.leaf]) (AV.agg [AV.seq (Shape.agg [Shape.leaf, Shape.leaf, Shape.leaf, Shape.leaf]) (List.length (PR.rest (V14.c2 v))) fun (i : Nat) => encT (List.getD (PR.rest (V14.c2 v)) i (Tok.mk (0 : Int) [] (0 : Int) (0 : Int))), AV.int IntKind.i64 e])] (PR.err (V14.c3 v) != (0 : Int)) (thr.fltV' (PR.err (V14.c3 v)) (PR.pos (V14.c3 v))) ∧ ∃ (x_1 : Int), ∃ (y : Int), [PanicEntry.mk (thr.fltV' (PR.err (V14.c3 v)) (PR.pos (V14.c3 v))) false false] = [PanicEntry.mk (Value.iface (nat_lit 31) (Value.agg #[Value.int IntKind.i64 x_1, Value.int IntKind.i64 y])) false false] ∧ InR IntKind.i64 x_1 ∧ InR IntKind.i64 y ∧ (Shape.agg [Shape.leaf, Shape.leaf, Shape.leaf, Shape.leaf, Shape.leaf] = Shape.agg [Shape.leaf, Shape.leaf, Shape.leaf, Shape.leaf, Shape.leaf] ∧ (IntKind.i64 = IntKind.i64 ∧ (0 : Int) = Rp.t R) ∧ (IntKind.i64 = IntKind.i64 ∧ (0 : Int) = Rp.b R) ∧ (IntKind.i64 = IntKind.i64 ∧ (0 : Int) = Rp.u R) ∧ (IntKind.i64 = IntKind.i64 ∧ (0 : Int) = Rp.o R) ∧ List.length (Rp.bugs R) = (0 : Nat) ∧ True) ∧ (Shape.agg [Shape.leaf, Shape.leaf] = Shape.agg [Shape.leaf, Shape.leaf] ∧ (IntKind.i64 = IntKind.i64 ∧ x_1 = x) ∧ (IntKind.i64 = IntKind.i64 ∧ y = a) ∧ True) ∧ True) ∧ ((PR.err (V14.c3 v) != (0 : Int)) = false → KnownL Tryd.prog [] (30 : Nat) [AV.ptr (0 : Nat) [], AV.str [(116 : UInt8), (114 : UInt8), (117 : UInt8), (110 : UInt8), (99 : UInt8), (97 : UInt8), (116 : UInt8), (101 : UInt8), (100 : UInt8)]] [BoxC.cell (55 : TypeId) (Shape.agg [Shape.leaf, Shape.leaf]) (AV.agg [AV.seq (Shape.agg [Shape.leaf, Shape.leaf, Shape.leaf, Shape.leaf]) (List.length (PR.rest (V14.c2 v))) fun (i : Nat) => encT (List.getD (PR.rest (V14.c2 v)) i (Tok.mk (0 : Int) [] (0 : Int) (0 : Int))), AV.int IntKind.i64 e])] (AV.int IntKind.i64 (PR.val (V14.c3 v))) [some (BoxC.cell (55 : TypeId) (Shape.agg [Shape.leaf, Shape.leaf]) (AV.agg [AV.seq (Shape.agg [Shape.leaf, Shape.leaf, Shape.leaf, Shape.leaf]) (List.length (PR.rest (V14.c3 v))) fun (i : Nat) => encT (List.getD (PR.rest (V14.c3 v)) i (Tok.mk (0 : Int) [] (0 : Int) (0 : Int))), AV.int IntKind.i64 e]))] ∧ ((PR.err (V14.c4 v) != (0 : Int)) = true → KnownP Tryd.prog [] (30 : Nat) [AV.ptr (0 : Nat) [], AV.str [(111 : UInt8), (117 : UInt8), (116 : UInt8), (99 : UInt8), (111 : UInt8), (109 : UInt8), (101 : UInt8), (115 : UInt8)]] [BoxC.cell (55 : TypeId) (Shape.agg [Shape.leaf, Shape.leaf]) (AV.agg [AV.seq (Shape.agg [Shape.leaf, Shape.leaf, Shape.leaf, Shape.leaf]) (List.length (PR.rest (V14.c3 v))) fun (i : Nat) => encT (List.getD (PR.rest (V14.c3 v)) i (Tok.mk (0 : Int) [] (0 : Int) (0 : Int))), AV.int IntKind.i64 e])] (PR.err (V14.c4 v) != (0 : Int)) (thr.fltV' (PR.err (V14.c4 v)) (PR.pos (V14.c4 v))) ∧ ∃ (x_1 : Int), ∃ (y : Int), [PanicEntry.mk (thr.fltV' (PR.err (V14.c4 v)) (PR.pos (V14.c4 v))) false false] = [PanicEntry.mk (Value.iface (nat_lit 31) (Value.agg #[Value.int IntKind.i64 x_1, Value.int IntKind.i64 y])) false false] ∧ InR IntKind.i64 x_1 ∧ InR IntKind.i64 y ∧ (Shape.agg [Shape.leaf, Shape.leaf, Shape.leaf, Shape.leaf, Shape.leaf] = Shape.agg [Shape.leaf, Shape.leaf, Shape.leaf, Shape.leaf, Shape.leaf] ∧ (IntKind.i64 = IntKind.i64 ∧ (0 : Int) = Rp.t R) ∧ (IntKind.i64 = IntKind.i64 ∧ (0 : Int) = Rp.b R) ∧ (IntKind.i64 = IntKind.i64 ∧ (0 : Int) = Rp.u R) ∧ (IntKind.i64 = IntKind.i64 ∧ (0 : Int) = Rp.o R) ∧ List.length (Rp.bugs R) = (0 : Nat) ∧ True) ∧ (Shape.agg [Shape.leaf, Shape.leaf] = Shape.agg [Shape.leaf, Shape.leaf] ∧ (IntKind.i64 = IntKind.i64 ∧ x_1 = x) ∧ (IntKind.i64 = IntKind.i64 ∧ y = a) ∧ True) ∧ True) ∧ ((PR.err (V14.c4 v) != (0 : Int)) = false → KnownL Tryd.prog [] (30 : Nat) [AV.ptr (0 : Nat) [], AV.str [(111 : UInt8), (117 : UInt8), (116 : UInt8), (99 : UInt8), (111 : UInt8), (109 : UInt8), (101 : UInt8), (115 : UInt8)]] [BoxC.cell (55 : TypeId) (Shape.agg [Shape.leaf, Shape.leaf]) (AV.agg [AV.seq (Shape.agg [Shape.leaf, Shape.leaf, Shape.leaf, Shape.leaf]) (List.length (PR.rest (V14.c3 v))) fun (i : Nat) => encT (List.getD (PR.rest (V14.c3 v)) i (Tok.mk (0 : Int) [] (0 : Int) (0 : Int))), AV.int IntKind.i64 e])] (AV.int IntKind.i64 (PR.val (V14.c4 v))) [some (BoxC.cell (55 : TypeId) (Shape.agg [Shape.leaf, Shape.leaf]) (AV.agg [AV.seq (Shape.agg [Shape.leaf, Shape.leaf, Shape.leaf, Shape.leaf]) (List.length (PR.rest (V14.c4 v))) fun (i : Nat) => encT (List.getD (PR.rest (V14.c4 v)) i (Tok.mk (0 : Int) [] (0 : Int) (0 : Int))), AV.int IntKind.i64 e]))] ∧ (∃ (i : Pl), (bugsP e (Pl.fuel i) (Pl.last i) (Pl.out i) (Pl.l i) = bugsP e n (0 : Int) [] (PR.rest (V14.c4 v)) ∧ List.length (Pl.l i) + (1 : Nat) ≤ Pl.fuel i ∧ List.length (Pl.out i) + List.length (Pl.l i) ≤ List.length (PR.rest (V14.c4 v)) ∧ List.length (Pl.l i) ≤ List.length (PR.rest (V14.c4 v)) ∧ ∀ (t : Tok), t ∈ Pl.l i → in64 (Tok.pos t)) ∧ (AV.ptr (1099511627776 : Nat) [] = AV.ptr (1099511627776 : Nat) [] ∧ AV.ptr (1099511627777 : Nat) [] = AV.ptr (1099511627777 : Nat) [] ∧ AV.ptr (23 : Nat) [] = AV.ptr (23 : Nat) [] ∧ (IntKind.i64 = IntKind.i64 ∧ (0 : Int) = Pl.last i) ∧ True) ∧ ((24 : Nat) = (24 : TypeId) ∧ Shape.agg [Shape.leaf, Shape.leaf, Shape.leaf, Shape.leaf, Shape.leaf] = Shape.agg [Shape.leaf, Shape.leaf, Shape.leaf, Shape.leaf, Shape.leaf] ∧ (IntKind.i64 = IntKind.i64 ∧ PR.val (V14.c1 v) = PR.val (V14.c1 v)) ∧ (IntKind.i64 = IntKind.i64 ∧ PR.val (V14.c2 v) = PR.val (V14.c2 v)) ∧ (IntKind.i64 = IntKind.i64 ∧ PR.val (V14.c3 v) = PR.val (V14.c3 v)) ∧ (IntKind.i64 = IntKind.i64 ∧ PR.val (V14.c4 v) = PR.val (V14.c4 v)) ∧ (List.length (Pl.out i) = (0 : Nat) ∧ true = true ∧ true = true) ∧ True) ∧ ((31 : Nat) = (31 : TypeId) ∧ Shape.agg [Shape.leaf, Shape.leaf] = Shape.agg [Shape.leaf, Shape.leaf] ∧ (IntKind.i64 = IntKind.i64 ∧ Prod.fst (Prod.snd (scan s)) = (0 : Int)) ∧ (IntKind.i64 = IntKind.i64 ∧ Prod.snd (Prod.snd (scan s)) = (0 : Int)) ∧ True) ∧ ((55 : TypeId) = (55 : TypeId) ∧ Shape.agg [Shape.leaf, Shape.leaf] = Shape.agg [Shape.leaf, Shape.leaf] ∧ (Shape.agg [Shape.leaf, Shape.leaf, Shape.leaf, Shape.leaf] = Shape.agg [Shape.leaf, Shape.leaf, Shape.leaf, Shape.leaf] ∧ List.length (PR.rest (V14.c4 v)) = List.length (Pl.l i) ∧ ∀ (i_1 : Nat), i_1 < List.length (PR.rest (V14.c4 v)) → encT (List.getD (PR.rest (V14.c4 v)) i_1 (Tok.mk (0 : Int) [] (0 : Int) (0 : Int))) = encT (List.getD (Pl.l i) i_1 (Tok.mk (0 : Int) [] (0 : Int) (0 : Int)))) ∧ (IntKind.i64 = IntKind.i64 ∧ e = e) ∧ True) ∧ (List.length (Pl.out i) = (0 : Nat) ∧ true = true) ∧ True) ∧ ∀ (i : Pl), (bugsP e (Pl.fuel i) (Pl.last i) (Pl.out i) (Pl.l i) = bugsP e n (0 : Int) [] (PR.rest (V14.c4 v)) ∧ List.length (Pl.l i) + (1 : Nat) ≤ Pl.fuel i ∧ List.length (Pl.out i) + List.length (Pl.l i) ≤ List.length (PR.rest (V14.c4 v)) ∧ List.length (Pl.l i) ≤ List.length (PR.rest (V14.c4 v)) ∧ ∀ (t : Tok), t ∈ Pl.l i → in64 (Tok.pos t)) → (↑(List.length (Pl.l i)) : Int) ≤ (9223372036854775807 : Int) ∧ (decide ((0 : Int) < (↑(List.length (Pl.l i)) : Int)) = true → ((PR.err (bugP (Pl.last i) e (decR (AV.seq (Shape.agg [Shape.leaf, Shape.leaf, Shape.leaf, Shape.leaf]) (List.length (Pl.l i)) fun (i_1 : Nat) => encT (List.getD (Pl.l i) i_1 (Tok.mk (0 : Int) [] (0 : Int) (0 : Int)))))) != (0 : Int)) = true → KnownP Tryd.prog [] (31 : Nat) [AV.ptr (0 : Nat) [], AV.int IntKind.i64 (Pl.last i)] [BoxC.cell (55 : TypeId) (Shape.agg [Shape.leaf, Shape.leaf]) (AV.agg [AV.seq (Shape.agg [Shape.leaf, Shape.leaf, Shape.leaf, Shape.leaf]) (List.length (Pl.l i)) fun (i_1 : Nat) => encT (List.getD (Pl.l i) i_1 (Tok.mk (0 : Int) [] (0 : Int) (0 : Int))), AV.int IntKind.i64 e])] (PR.err (bugP (Pl.last i) e (decR (AV.seq (Shape.agg [Shape.leaf, Shape.leaf, Shape.leaf, Shape.leaf]) (List.length (Pl.l i)) fun (i_1 : Nat) => encT (List.getD (Pl.l i) i_1 (Tok.mk (0 : Int) [] (0 : Int) (0 : Int)))))) != (0 : Int)) (thr.fltV' (PR.err (bugP (Pl.last i) e (decR (AV.seq (Shape.agg [Shape.leaf, Shape.leaf, Shape.leaf, Shape.leaf]) (List.length (Pl.l i)) fun (i_1 : Nat) => encT (List.getD (Pl.l i) i_1 (Tok.mk (0 : Int) [] (0 : Int) (0 : Int))))))) (PR.pos (bugP (Pl.last i) e (decR (AV.seq (Shape.agg [Shape.leaf, Shape.leaf, Shape.leaf, Shape.leaf]) (List.length (Pl.l i)) fun (i_1 : Nat) => encT (List.getD (Pl.l i) i_1 (Tok.mk (0 : Int) [] (0 : Int) (0 : Int)))))))) ∧ ∃ (x_1 : Int), ∃ (y : Int), [PanicEntry.mk (thr.fltV' (PR.err (bugP (Pl.last i) e (decR (AV.seq (Shape.agg [Shape.leaf, Shape.leaf, Shape.leaf, Shape.leaf]) (List.length (Pl.l i)) fun (i_1 : Nat) => encT (List.getD (Pl.l i) i_1 (Tok.mk (0 : Int) [] (0 : Int) (0 : Int))))))) (PR.pos (bugP (Pl.last i) e (decR (AV.seq (Shape.agg [Shape.leaf, Shape.leaf, Shape.leaf, Shape.leaf]) (List.length (Pl.l i)) fun (i_1 : Nat) => encT (List.getD (Pl.l i) i_1 (Tok.mk (0 : Int) [] (0 : Int) (0 : Int)))))))) false false] = [PanicEntry.mk (Value.iface (nat_lit 31) (Value.agg #[Value.int IntKind.i64 x_1, Value.int IntKind.i64 y])) false false] ∧ InR IntKind.i64 x_1 ∧ InR IntKind.i64 y ∧ (Shape.agg [Shape.leaf, Shape.leaf, Shape.leaf, Shape.leaf, Shape.leaf] = Shape.agg [Shape.leaf, Shape.leaf, Shape.leaf, Shape.leaf, Shape.leaf] ∧ (IntKind.i64 = IntKind.i64 ∧ (0 : Int) = Rp.t R) ∧ (IntKind.i64 = IntKind.i64 ∧ (0 : Int) = Rp.b R) ∧ (IntKind.i64 = IntKind.i64 ∧ (0 : Int) = Rp.u R) ∧ (IntKind.i64 = IntKind.i64 ∧ (0 : Int) = Rp.o R) ∧ List.length (Rp.bugs R) = (0 : Nat) ∧ True) ∧ (Shape.agg [Shape.leaf, Shape.leaf] = Shape.agg [Shape.leaf, Shape.leaf] ∧ (IntKind.i64 = IntKind.i64 ∧ x_1 = x) ∧ (IntKind.i64 = IntKind.i64 ∧ y = a) ∧ True) ∧ True) ∧ ((PR.err (bugP (Pl.last i) e (decR (AV.seq (Shape.agg [Shape.leaf, Shape.leaf, Shape.leaf, Shape.leaf]) (List.length (Pl.l i)) fun (i_1 : Nat) => encT (List.getD (Pl.l i) i_1 (Tok.mk (0 : Int) [] (0 : Int) (0 : Int)))))) != (0 : Int)) = false → KnownL Tryd.prog [] (31 : Nat) [AV.ptr (0 : Nat) [], AV.int IntKind.i64 (Pl.last i)] [BoxC.cell (55 : TypeId) (Shape.agg [Shape.leaf, Shape.leaf]) (AV.agg [AV.seq (Shape.agg [Shape.leaf, Shape.leaf, Shape.leaf, Shape.leaf]) (List.length (Pl.l i)) fun (i_1 : Nat) => encT (List.getD (Pl.l i) i_1 (Tok.mk (0 : Int) [] (0 : Int) (0 : Int))), AV.int IntKind.i64 e])] (AV.mc (Shape.agg [Shape.leaf, Shape.leaf]) (AV.agg [AV.int IntKind.i64 (Cex.bug (PR.val (bugP (Pl.last i) e (decR (AV.seq (Shape.agg [Shape.leaf, Shape.leaf, Shape.leaf, Shape.leaf]) (List.length (Pl.l i)) fun (i_1 : Nat) => encT (List.getD (Pl.l i) i_1 (Tok.mk (0 : Int) [] (0 : Int) (0 : Int)))))))), AV.seq Shape.leaf (List.length (Cex.sch (PR.val (bugP (Pl.last i) e (decR (AV.seq (Shape.agg [Shape.leaf, Shape.leaf, Shape.leaf, Shape.leaf]) (List.length (Pl.l i)) fun (i_1 : Nat) => encT (List.getD (Pl.l i) i_1 (Tok.mk (0 : Int) [] (0 : Int) (0 : Int))))))))) fun (i_1 : Nat) => AV.int IntKind.i64 (List.getD (Cex.sch (PR.val (bugP (Pl.last i) e (decR (AV.seq (Shape.agg [Shape.leaf, Shape.leaf, Shape.leaf, Shape.leaf]) (List.length (Pl.l i)) fun (i_2 : Nat) => encT (List.getD (Pl.l i) i_2 (Tok.mk (0 : Int) [] (0 : Int) (0 : Int)))))))) i_1 (0 : Int))])) [some (BoxC.cell (55 : TypeId) (Shape.agg [Shape.leaf, Shape.leaf]) (AV.agg [AV.seq (Shape.agg [Shape.leaf, Shape.leaf, Shape.leaf, Shape.leaf]) (List.length (PR.rest (bugP (Pl.last i) e (decR (AV.seq (Shape.agg [Shape.leaf, Shape.leaf, Shape.leaf, Shape.leaf]) (List.length (Pl.l i)) fun (i_1 : Nat) => encT (List.getD (Pl.l i) i_1 (Tok.mk (0 : Int) [] (0 : Int) (0 : Int)))))))) fun (i_1 : Nat) => encT (List.getD (PR.rest (bugP (Pl.last i) e (decR (AV.seq (Shape.agg [Shape.leaf, Shape.leaf, Shape.leaf, Shape.leaf]) (List.length (Pl.l i)) fun (i_2 : Nat) => encT (List.getD (Pl.l i) i_2 (Tok.mk (0 : Int) [] (0 : Int) (0 : Int))))))) i_1 (Tok.mk (0 : Int) [] (0 : Int) (0 : Int))), AV.int IntKind.i64 e]))] ∧ (1 : Nat) * Shape.size cexSh ≤ (16777216 : Nat) ∧ (List.length (Pl.out i) = List.length (Pl.out i) ∧ (↑(List.length (Pl.out i) + (1 : Nat)) : Int) * (↑(32 : Nat) : Int) ≤ (140737488355328 : Int) ∧ List.length (Pl.out i) + (1 : Nat) ≤ (9223372036854775807 : Nat)) ∧ (1 : Nat) ≤ (1 : Nat) ∧ ∃ (j : Pl), (bugsP e (Pl.fuel j) (Pl.last j) (Pl.out j) (Pl.l j) = bugsP e n (0 : Int) [] (PR.rest (V14.c4 v)) ∧ List.length (Pl.l j) + (1 : Nat) ≤ Pl.fuel j ∧ List.length (Pl.out j) + List.length (Pl.l j) ≤ List.length (PR.rest (V14.c4 v)) ∧ List.length (Pl.l j) ≤ List.length (PR.rest (V14.c4 v)) ∧ ∀ (t : Tok), t ∈ Pl.l j → in64 (Tok.pos t)) ∧ List.length (Pl.l j) < List.length (Pl.l i) ∧ (AV.ptr (1099511627776 : Nat) [] = AV.ptr (1099511627776 : Nat) [] ∧ AV.ptr (1099511627777 : Nat) [] = AV.ptr (1099511627777 : Nat) [] ∧ AV.ptr (23 : Nat) [] = AV.ptr (23 : Nat) [] ∧ (IntKind.i64 = IntKind.i64 ∧ Cex.bug (PR.val (bugP (Pl.last i) e (decR (AV.seq (Shape.agg [Shape.leaf, Shape.leaf, Shape.leaf, Shape.leaf]) (List.length (Pl.l i)) fun (i_1 : Nat) => encT (List.getD (Pl.l i) i_1 (Tok.mk (0 : Int) [] (0 : Int) (0 : Int))))))) = Pl.last j) ∧ True) ∧ ((24 : TypeId) = (24 : TypeId) ∧ Shape.agg [Shape.leaf, Shape.leaf, Shape.leaf, Shape.leaf, Shape.leaf] = Shape.agg [Shape.leaf, Shape.leaf, Shape.leaf, Shape.leaf, Shape.leaf] ∧ (IntKind.i64 = IntKind.i64 ∧ PR.val (V14.c1 v) = PR.val (V14.c1 v)) ∧ (IntKind.i64 = IntKind.i64 ∧ PR.val (V14.c2 v) = PR.val (V14.c2 v)) ∧ (IntKind.i64 = IntKind.i64 ∧ PR.val (V14.c3 v) = PR.val (V14.c3 v)) ∧ (IntKind.i64 = IntKind.i64 ∧ PR.val (V14.c4 v) = PR.val (V14.c4 v)) ∧ ((51 : Nat) = (51 : Nat) ∧ List.length (Pl.out i) + (1 : Nat) = List.length (Pl.out j)) ∧ True) ∧ ((31 : TypeId) = (31 : TypeId) ∧ Shape.agg [Shape.leaf, Shape.leaf] = Shape.agg [Shape.leaf, Shape.leaf] ∧ (IntKind.i64 = IntKind.i64 ∧ (0 : Int) = (0 : Int)) ∧ (IntKind.i64 = IntKind.i64 ∧ (0 : Int) = (0 : Int)) ∧ True) ∧ ((55 : TypeId) = (55 : TypeId) ∧ Shape.agg [Shape.leaf, Shape.leaf] = Shape.agg [Shape.leaf, Shape.leaf] ∧ (Shape.agg [Shape.leaf, Shape.leaf, Shape.leaf, Shape.leaf] = Shape.agg [Shape.leaf, Shape.leaf, Shape.leaf, Shape.leaf] ∧ List.length (PR.rest (bugP (Pl.last i) e (decR (AV.seq (Shape.agg [Shape.leaf, Shape.leaf, Shape.leaf, Shape.leaf]) (List.length (Pl.l i)) fun (i_1 : Nat) => encT (List.getD (Pl.l i) i_1 (Tok.mk (0 : Int) [] (0 : Int) (0 : Int))))))) = List.length (Pl.l j) ∧ ∀ (i_1 : Nat), i_1 < List.length (PR.rest (bugP (Pl.last i) e (decR (AV.seq (Shape.agg [Shape.leaf, Shape.leaf, Shape.leaf, Shape.leaf]) (List.length (Pl.l i)) fun (i_2 : Nat) => encT (List.getD (Pl.l i) i_2 (Tok.mk (0 : Int) [] (0 : Int) (0 : Int))))))) → encT (List.getD (PR.rest (bugP (Pl.last i) e (decR (AV.seq (Shape.agg [Shape.leaf, Shape.leaf, Shape.leaf, Shape.leaf]) (List.length (Pl.l i)) fun (i_2 : Nat) => encT (List.getD (Pl.l i) i_2 (Tok.mk (0 : Int) [] (0 : Int) (0 : Int))))))) i_1 (Tok.mk (0 : Int) [] (0 : Int) (0 : Int))) = encT (List.getD (Pl.l j) i_1 (Tok.mk (0 : Int) [] (0 : Int) (0 : Int)))) ∧ (IntKind.i64 = IntKind.i64 ∧ e = e) ∧ True) ∧ ((49 : TypeId) = (49 : TypeId) ∧ Shape.agg [Shape.leaf, Shape.leaf] = Shape.agg [Shape.leaf, Shape.leaf] ∧ List.length (Pl.out i) + (1 : Nat) = List.length (Pl.out j) ∧ ∀ (i_1 : Nat), i_1 < List.length (Pl.out i) + (1 : Nat) → (if i_1 < List.length (Pl.out i) then encC (List.getD (Pl.out i) i_1 c0) else List.getD (List.set (List.replicate (1 : Nat) (AV.agg [AV.int IntKind.i64 (0 : Int), AV.nils])) (0 : Nat) (AV.agg [AV.int IntKind.i64 (Cex.bug (PR.val (bugP (Pl.last i) e (decR (AV.seq (Shape.agg [Shape.leaf, Shape.leaf, Shape.leaf, Shape.leaf]) (List.length (Pl.l i)) fun (i_2 : Nat) => encT (List.getD (Pl.l i) i_2 (Tok.mk (0 : Int) [] (0 : Int) (0 : Int)))))))), AV.seq Shape.leaf (List.length (Cex.sch (PR.val (bugP (Pl.last i) e (decR (AV.seq (Shape.agg [Shape.leaf, Shape.leaf, Shape.leaf, Shape.leaf]) (List.length (Pl.l i)) fun (i_2 : Nat) => encT (List.getD (Pl.l i) i_2 (Tok.mk (0 : Int) [] (0 : Int) (0 : Int))))))))) fun (i_2 : Nat) => AV.int IntKind.i64 (List.getD (Cex.sch (PR.val (bugP (Pl.last i) e (decR (AV.seq (Shape.agg [Shape.leaf, Shape.leaf, Shape.leaf, Shape.leaf]) (List.length (Pl.l i)) fun (i_3 : Nat) => encT (List.getD (Pl.l i) i_3 (Tok.mk (0 : Int) [] (0 : Int) (0 : Int)))))))) i_2 (0 : Int))])) (i_1 - List.length (Pl.out i)) AV.any) = encC (List.getD (Pl.out j) i_1 c0)) ∧ True)) ∧ (decide ((0 : Int) < (↑(List.length (Pl.l i)) : Int)) = false → List.length (Pl.out i) ≤ List.length (Pl.out i) ∧ (Shape.agg [Shape.leaf, Shape.leaf, Shape.leaf, Shape.leaf, Shape.leaf] = Shape.agg [Shape.leaf, Shape.leaf, Shape.leaf, Shape.leaf, Shape.leaf] ∧ (IntKind.i64 = IntKind.i64 ∧ PR.val (V14.c1 v) = Rp.t R) ∧ (IntKind.i64 = IntKind.i64 ∧ PR.val (V14.c2 v) = Rp.b R) ∧ (IntKind.i64 = IntKind.i64 ∧ PR.val (V14.c3 v) = Rp.u R) ∧ (IntKind.i64 = IntKind.i64 ∧ PR.val (V14.c4 v) = Rp.o R) ∧ (Shape.agg [Shape.leaf, Shape.leaf] = Shape.agg [Shape.leaf, Shape.leaf] ∧ List.length (Pl.out i) = List.length (Rp.bugs R) ∧ ∀ (i_1 : Nat), i_1 < List.length (Pl.out i) → encC (List.getD (Pl.out i) i_1 c0) = encC (List.getD (Rp.bugs R) i_1 c0)) ∧ True) ∧ (Shape.agg [Shape.leaf, Shape.leaf] = Shape.agg [Shape.leaf, Shape.leaf] ∧ (IntKind.i64 = IntKind.i64 ∧ (0 : Int) = x) ∧ (IntKind.i64 = IntKind.i64 ∧ (0 : Int) = a) ∧ True) ∧ True))))))) := by kernel_rfl
theorem kParse (s : List UInt8) (hs : s.length ≤ 9223372036854775807) : Known Tryd.prog [] 14 [.str s] (.tup [.mc repSh (encR (parseM s).1), .mc fltSh (encF (parseM s).2.1 (parseM s).2.2)]) := by
  refine Known.ofD (V := v14 (at14 s.length (scan s).1) s.length ((at14 s.length (scan s).1).c4.rest.length + 1)) (K := K52) (fn := Tryd.f14) rfl (by kernel_rfl) (cfgP_ok _ _ _) rfl k52 k52o ?_
  show gParse s (at14 s.length (scan s).1) s.length ((at14 s.length (scan s).1).c4.rest.length + 1) _ _ _
  rw [eParse]
  simp only [and_true, true_and, decide_eq_true_eq, decide_eq_false_iff_not, bne_iff_ne, bne_eq_false_iff_eq, ne_eq]
  simp only [t0_eq, decR_seq]
  have hsl := scan_len s
  obtain ⟨hg, hz⟩ := scan_good hs
  have he : in64 (s.length : Int) := by unfold in64; omega
  refine ⟨k8 s hs, fun h => ?_, fun h => ?_⟩
  · rw [show parseM s = (r0, (scan s).2.1, (scan s).2.2) from by unfold parseM; rw [if_pos h]]
    exact ⟨⟨rfl, rfl, rfl, rfl, rfl⟩, rfl, rfl⟩
  · rw [show parseM s = parseL s.length (scan s).1 from by unfold parseM; rw [if_neg (by simpa using h)]]
    rw [parseL_at]
    have f1 := count_fine (s := w1) hg he
    have f2 := count_fine (s := w2) f1.2.2 he
    have f3 := count_fine (s := w3) f2.2.2 he
    have f4 := count_fine (s := w4) f3.2.2 he
    have n1 := count_len w1 s.length (scan s).1
    have n2 := count_len w2 s.length (countP w1 s.length (scan s).1).rest
    have n3 := count_len w3 s.length (countP w2 s.length (countP w1 s.length (scan s).1).rest).rest
    have n4 := count_len w4 s.length (countP w3 s.length (countP w2 s.length (countP w1 s.length (scan s).1).rest).rest).rest
    have m1 : (at14 s.length (scan s).1).c1.rest.length ≤ 16384 := by show (countP w1 s.length (scan s).1).rest.length ≤ _; omega
    have m2 : (at14 s.length (scan s).1).c2.rest.length ≤ 16384 := by show (countP w2 s.length (countP w1 s.length (scan s).1).rest).rest.length ≤ _; omega
    have m3 : (at14 s.length (scan s).1).c3.rest.length ≤ 16384 := by show (countP w3 s.length (countP w2 s.length (countP w1 s.length (scan s).1).rest).rest).rest.length ≤ _; omega
    refine ⟨by omega, fun h1 => ⟨k30p _ _ _ (by omega), _, _, rfl, in64_R f1.1, in64_R f1.2.1, ?_⟩, fun h1 => ⟨k30l _ _ _ (by omega) h1, fun h2 => ⟨k30p _ _ _ (by omega), _, _, rfl, in64_R f2.1, in64_R f2.2.1, ?_⟩, fun h2 => ⟨k30l _ _ _ (by omega) h2, fun h3 => ⟨k30p _ _ _ (by omega), _, _, rfl, in64_R f3.1, in64_R f3.2.1, ?_⟩, fun h3 => ⟨k30l _ _ _ (by omega) h3, fun h4 => ⟨k30p _ _ _ (by omega), _, _, rfl, in64_R f4.1, in64_R f4.2.1, ?_⟩, fun h4 => ⟨k30l _ _ _ (by omega) h4, ?_⟩⟩⟩⟩⟩
    · rw [if_pos h1]; exact ⟨⟨rfl, rfl, rfl, rfl, rfl⟩, rfl, rfl⟩
    · rw [if_neg (by simpa using h1), if_pos h2]; exact ⟨⟨rfl, rfl, rfl, rfl, rfl⟩, rfl, rfl⟩
    · rw [if_neg (by simpa using h1), if_neg (by simpa using h2), if_pos h3]; exact ⟨⟨rfl, rfl, rfl, rfl, rfl⟩, rfl, rfl⟩
    · rw [if_neg (by simpa using h1), if_neg (by simpa using h2), if_neg (by simpa using h3), if_pos h4]; exact ⟨⟨rfl, rfl, rfl, rfl, rfl⟩, rfl, rfl⟩
    · rw [if_neg (by simpa using h1), if_neg (by simpa using h2), if_neg (by simpa using h3), if_neg (by simpa using h4)]
      have hcg : good (at14 s.length (scan s).1).c4.rest := f4.2.2
      have hcl : (at14 s.length (scan s).1).c4.rest.length ≤ 16384 := by
        show (countP w4 s.length (countP w3 s.length (countP w2 s.length (countP w1 s.length (scan s).1).rest).rest).rest).rest.length ≤ _
        omega
      generalize at14 s.length (scan s).1 = V at *
      refine ⟨⟨⟨V.c4.rest, 0, [], V.c4.rest.length + 1⟩, ⟨rfl, Nat.le_refl _, by simp, Nat.le_refl _, hcg⟩, rfl, rfl, ⟨h, hz h⟩, ⟨rfl, fun _ _ => rfl⟩, rfl⟩, fun p hp => ⟨by omega, fun g => ⟨fun g1 => ?_, fun g1 => ?_⟩, fun g => ?_⟩⟩
      · obtain ⟨b1, b2, b3⟩ := bug_fine (last := p.last) hp.2.2.2.2 he
        refine ⟨k31p _ _ _ (by omega), _, _, rfl, in64_R b1, in64_R b2, ?_⟩
        rw [← hp.1, bugs_err (by omega) hp.2.1 g1]
        unfold finM
        rw [if_pos g1]
        exact ⟨⟨rfl, rfl, rfl, rfl, rfl⟩, rfl, rfl⟩
      · obtain ⟨b1, b2, b3⟩ := bug_fine (last := p.last) hp.2.2.2.2 he
        have b4 := bug_lt hp.2.2.2.2 he g1
        exact ⟨k31l _ _ _ (by omega) g1, by decide, ⟨by omega, by omega⟩, by omega, ⟨(bugP p.last s.length p.l).rest, (bugP p.last s.length p.l).val.bug, p.out ++ [(bugP p.last s.length p.l).val], p.fuel - 1⟩, ⟨by rw [← hp.1, bugs_next (by omega) hp.2.1 g1], by have := hp.2.1; show (bugP p.last s.length p.l).rest.length + 1 ≤ p.fuel - 1; omega, by simp; omega, by show (bugP p.last s.length p.l).rest.length ≤ _; omega, b3⟩, b4, rfl, by simp, ⟨rfl, fun _ _ => rfl⟩, by simp, fun i hi => app_cex hi⟩
      · rw [← hp.1, bugs_end (by omega) hp.2.1]
        exact ⟨Nat.le_refl _, ⟨rfl, rfl, rfl, rfl, rfl, fun _ _ => rfl⟩, rfl, rfl⟩
end Go.Proofs.S52
