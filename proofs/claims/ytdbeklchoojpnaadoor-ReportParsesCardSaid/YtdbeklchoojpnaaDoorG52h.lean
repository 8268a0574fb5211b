import Derived.Test.YtdbeklchoojpnaaDoorS52h
namespace Go.Proofs.S52
open Go Go.AV Go.Proofs.Dec
noncomputable def p0 (n : Nat) : VCtx := vp n fun _ => none
noncomputable def gFail (l : List Tok) (en e a : Int) : Prop := fnVcP (p0 10) Tryd.f46 [.ptr 0 [], .int .i64 e, .int .i64 a] [boxP l en] (thr.fltV' e a)
noncomputable def g45l (l : List Tok) (e a b : Int) : Prop := fnVcL (p0 49) Tryd.f45 [.ptr 0 [], .int .i64 a, .int .i64 b] [boxP l e] (.mc tokSh (encT (nextP a b e l).val)) [some (boxP (nextP a b e l).rest e)]
noncomputable def g45p (l : List Tok) (e a b : Int) : Prop := fnVcP (p0 49) Tryd.f45 [.ptr 0 [], .int .i64 a, .int .i64 b] [boxP l e] (thr.fltV' (nextP a b e l).err (nextP a b e l).pos)
def pan44 (p : PR Tok) : FuncId → List AV → List BoxC → Option (Bool × Value)
  | 46, [_, .int _ e, .int _ a], _ => some (true, thr.fltV' e a)
  | 45, _, _ => thr p
  | _, _, _ => none
def lent44 (p : PR Tok) (e : Int) : FuncId → List AV → List BoxC → Option (AV × List (Option BoxC))
  | 45, _, _ => some (.mc tokSh (encT p.val), [some (boxP p.rest e)])
  | _, _, _ => none
noncomputable def v44 (p : PR Tok) (e : Int) : VCtx := { C := cfgP 15 (lent44 p e) (pan44 p), CC := Known Tryd.prog [], orc := fun _ _ => spR, inv := fun _ => none }
noncomputable def gWl (l : List Tok) (e : Int) (s : List UInt8) (p : PR Tok) : Prop := fnVcL (v44 p e) Tryd.f44 [.ptr 0 [], .str s] [boxP l e] (.tup []) [some (boxP p.rest e)]
noncomputable def gWp (l : List Tok) (e : Int) (s : List UInt8) (p : PR Tok) (x a : Int) : Prop := fnVcP (v44 p e) Tryd.f44 [.ptr 0 [], .str s] [boxP l e] (thr.fltV' x a)
structure V30 where
  w : PR Tok
  n : PR Tok
  k : PR Tok
def pan30 (v : V30) : FuncId → List AV → List BoxC → Option (Bool × Value)
  | 46, [_, .int _ e, .int _ a], _ => some (true, thr.fltV' e a)
  | 45, [_, .int _ a, _], _ => match a.toNat with | 2 => thr v.n | _ => thr v.k
  | 44, _, _ => thr v.w
  | _, _, _ => none
def lent30 (v : V30) (e : Int) : FuncId → List AV → List BoxC → Option (AV × List (Option BoxC))
  | 45, [_, .int _ a, _], _ => match a.toNat with | 2 => some (.mc tokSh (encT v.n.val), [some (boxP v.n.rest e)]) | _ => some (.mc tokSh (encT v.k.val), [some (boxP v.k.rest e)])
  | 44, _, _ => some (.tup [], [some (boxP v.w.rest e)])
  | _, _, _ => none
noncomputable def v30 (v : V30) (e : Int) : VCtx := { C := cfgP 22 (lent30 v e) (pan30 v), CC := Known Tryd.prog [], orc := fun _ _ => spR, inv := fun _ => none }
noncomputable def g30l (l : List Tok) (e : Int) (s : List UInt8) (v : V30) : Prop := fnVcL (v30 v e) Tryd.f30 [.ptr 0 [], .str s] [boxP l e] (.int .i64 v.n.val.num) [some (boxP v.k.rest e)]
noncomputable def g30p (l : List Tok) (e : Int) (s : List UInt8) (v : V30) (x a : Int) : Prop := fnVcP (v30 v e) Tryd.f30 [.ptr 0 [], .str s] [boxP l e] (thr.fltV' x a)
structure V31 where
  w : PR Tok
  t : PR Tok
def pan31 (v : V31) : FuncId → List AV → List BoxC → Option (Bool × Value)
  | 46, [_, .int _ e, .int _ a], _ => some (true, thr.fltV' e a)
  | 45, [_, .int _ a, .int _ b], [.cell _ _ (.agg [.seq sh n f, .int _ e0])] => match a.toNat with | 1 => thr v.t | _ => thr (nextP a b e0 (decR (.seq sh n f)))
  | 44, _, _ => thr v.w
  | _, _, _ => none
def lent31 (v : V31) (e : Int) : FuncId → List AV → List BoxC → Option (AV × List (Option BoxC))
  | 45, [_, .int _ a, .int _ b], [.cell _ _ (.agg [.seq sh n f, .int _ e0])] => match a.toNat with | 1 => some (.mc tokSh (encT v.t.val), [some (boxP v.t.rest e)]) | _ => some (.mc tokSh (encT (nextP a b e (decR (.seq sh n f))).val), [some (boxP (nextP a b e (decR (.seq sh n f))).rest e)])
  | 44, _, _ => some (.tup [], [some (boxP v.w.rest e)])
  | _, _, _ => none
/-- The kind found among the first i names. -/
def codeTo (s : List UInt8) : Nat → Int
  | 0 => 0
  | i + 1 => if nm ((i : Int) + 1) = s then (i : Int) + 1 else codeTo s i
structure Pb where
  l : List Tok
  out : List Int
def lb : Nat := 1099511627776
def inv31 (v : V31) (e last : Int) (k : Nat) : Option Inv := match Nat.beq k 5 with
  | true => some { ι := Nat, S := fun i => ⟨[(0, .ptr 1099511627776 []), (1, .int .i64 last), (4, .ptr 4 []), (5, .ptr 5 []), (6, .ptr 6 []), (7, .int .i64 ((i : Int) + 1))], [(1099511627776, boxP v.t.rest e), (4, .cell 49 cexSh (.agg [.int .i64 0, .nils])), (5, .cell 68 tokSh (encT v.t.val)), (6, .cell 49 cexSh (.agg [.int .i64 (codeTo v.t.val.text i), .nils]))]⟩, μ := fun i => 4 - i, ok := fun i => i ≤ 4 }
  | false => match Nat.beq k 13 with
    | true => some { ι := Pb, S := fun p => ⟨[(0, .ptr 1099511627776 []), (4, .ptr 4 []), (6, .ptr 6 [])], [(1099511627776, boxP p.l e), (4, .cell 49 cexSh (.agg [.int .i64 0, .nils])), (6, .cell 49 cexSh (.agg [.int .i64 (codeTo v.t.val.text 4), .own 59 p.out.length])), (59, .row 3 .leaf p.out.length fun j => .int .i64 (p.out.getD j 0))]⟩, μ := fun p => p.l.length, ok := fun p => numsP e p.l p.out = numsP e v.t.rest [] ∧ p.out.length ≤ 512 ∧ p.l.length ≤ v.t.rest.length }
    | false => none
noncomputable def v31 (v : V31) (e last : Int) : VCtx := { C := cfgP 61 (lent31 v e) (pan31 v), CC := Known Tryd.prog [], orc := fun _ _ => spR, inv := inv31 v e last }
noncomputable def g31l (l : List Tok) (e last : Int) (v : V31) (c : Cex) (rest : List Tok) : Prop := fnVcL (v31 v e last) Tryd.f31 [.ptr 0 [], .int .i64 last] [boxP l e] (.mc cexSh (encC c)) [some (boxP rest e)]
noncomputable def g31p (l : List Tok) (e last : Int) (v : V31) (x a : Int) : Prop := fnVcP (v31 v e last) Tryd.f31 [.ptr 0 [], .int .i64 last] [boxP l e] (thr.fltV' x a)
noncomputable def g48 (s : RS) (e a : Int) : Prop := fnVcL (p0 18) Tryd.f48 [.ptr 0 [], .int .i64 e, .int .i64 a] [boxR s] (.tup []) [some (boxR (rfail s e a))]
noncomputable def g47 (s : RS) (k : Int) (w : List UInt8) : Prop := fnVcL (p0 62) Tryd.f47 [.ptr 0 [], .int .i64 k, .str w] [boxR s] (.mc tokSh (encT (rnext s k w).1)) [some (boxR (rnext s k w).2)]
structure V32 where
  a : Tok × RS
  t : Tok × RS
  f : RS
  c : Tok × RS
def lent32 (v : V32) : FuncId → List AV → List BoxC → Option (AV × List (Option BoxC))
  | 48, _, _ => some (.tup [], [some (boxR v.f)])
  | 47, [_, .int _ k, _], _ => match k.toNat with | 1 => some (.mc tokSh (encT v.a.1), [some (boxR v.a.2)]) | 2 => some (.mc tokSh (encT v.t.1), [some (boxR v.t.2)]) | _ => some (.mc tokSh (encT v.c.1), [some (boxR v.c.2)])
  | _, _, _ => none
noncomputable def v32 (v : V32) : VCtx := { C := cfgP 30 (lent32 v) panP, CC := Known Tryd.prog [], orc := fun _ _ => spR, inv := fun _ => none }
noncomputable def g32r (s : RS) (w : List UInt8) (v : V32) : Prop := fnVcL (v32 v) Tryd.f32 [.ptr 0 [], .str w] [boxR s] (.int .i64 v.t.1.num) [some (boxR v.c.2)]
structure V33 where
  a : Tok × RS
  t : Tok × RS
def lent33 (v : V33) : FuncId → List AV → List BoxC → Option (AV × List (Option BoxC))
  | 48, [_, .int _ e, .int _ a], [.cell _ _ (.agg [.seq sh n f, .int _ e0, .agg [.int _ fe, .int _ fa]])] => some (.tup [], [some (boxR (rfail ⟨decR (.seq sh n f), e0, fe, fa⟩ e a))])
  | 47, [_, .int _ k, .str w], [.cell _ _ (.agg [.seq sh n f, .int _ e0, .agg [.int _ fe, .int _ fa]])] => match k.toNat with
    | 1 => match w with
      | [] => some (.mc tokSh (encT v.t.1), [some (boxR v.t.2)])
      | _ => some (.mc tokSh (encT v.a.1), [some (boxR v.a.2)])
    | _ => some (.mc tokSh (encT (rnext ⟨decR (.seq sh n f), e0, fe, fa⟩ k w).1), [some (boxR (rnext ⟨decR (.seq sh n f), e0, fe, fa⟩ k w).2)])
  | _, _, _ => none
def inv33 (v : V33) (k : Nat) : Option Inv := match Nat.beq k 13 with
  | true => some { ι := Pb, S := fun p => ⟨[(0, .ptr 1099511627776 []), (4, .ptr 4 []), (8, .ptr 8 [])], [(1099511627776, boxR ⟨p.l, v.t.2.e, v.t.2.fe, v.t.2.fa⟩), (4, .cell 49 cexSh (.agg [.int .i64 0, .nils])), (8, .cell 49 cexSh (.agg [.int .i64 (codeB v.t.1.text), .own 83 p.out.length])), (83, .row 3 .leaf p.out.length fun j => .int .i64 (p.out.getD j 0))]⟩, μ := fun p => p.l.length, ok := fun p => rnums p.l p.out = rnums v.t.2.l [] ∧ p.out.length ≤ 512 ∧ p.l.length ≤ v.t.2.l.length }
  | false => none
noncomputable def v33 (v : V33) : VCtx := { C := cfgP 96 (lent33 v) panP, CC := Known Tryd.prog [], orc := fun _ _ => spR, inv := inv33 v }
noncomputable def g33r (s : RS) (last : Int) (v : V33) (c : Cex) (z : RS) : Prop := fnVcL (v33 v) Tryd.f33 [.ptr 0 [], .int .i64 last] [boxR s] (.mc cexSh (encC c)) [some (boxR z)]
end Go.Proofs.S52
