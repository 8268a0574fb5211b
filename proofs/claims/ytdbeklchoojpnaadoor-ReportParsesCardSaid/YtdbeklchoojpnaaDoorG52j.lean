import Derived.Test.YtdbeklchoojpnaaDoorP52h
namespace Go.Proofs.S52
open Go Go.AV Go.Proofs.Dec
def w1 : List UInt8 := [116, 114, 97, 99, 101, 115]
def w2 : List UInt8 := [98, 108, 111, 99, 107, 101, 100]
def w3 : List UInt8 := [116, 114, 117, 110, 99, 97, 116, 101, 100]
def w4 : List UInt8 := [111, 117, 116, 99, 111, 109, 101, 115]
structure V14 where
  c1 : PR Int
  c2 : PR Int
  c3 : PR Int
  c4 : PR Int
def V14.at (v : V14) : Nat → PR Int
  | 6 => v.c1
  | 7 => v.c2
  | 9 => v.c3
  | _ => v.c4
def pan14 (v : V14) : FuncId → List AV → List BoxC → Option (Bool × Value)
  | 30, [_, .str w], _ => match w.length with | 6 => thr v.c1 | 7 => thr v.c2 | 9 => thr v.c3 | _ => thr v.c4
  | 31, [_, .int _ last], [.cell _ _ (.agg [.seq sh n f, .int _ e0])] => thr (bugP last e0 (decR (.seq sh n f)))
  | _, _, _ => none
def lent14 (v : V14) (e : Int) : FuncId → List AV → List BoxC → Option (AV × List (Option BoxC))
  | 30, [_, .str w], _ => match w.length with
    | 6 => some (.int .i64 v.c1.val, [some (boxP v.c1.rest e)])
    | 7 => some (.int .i64 v.c2.val, [some (boxP v.c2.rest e)])
    | 9 => some (.int .i64 v.c3.val, [some (boxP v.c3.rest e)])
    | _ => some (.int .i64 v.c4.val, [some (boxP v.c4.rest e)])
  | 31, [_, .int _ last], [.cell _ _ (.agg [.seq sh n f, .int _ e0])] => some (.mc cexSh (encC (bugP last e (decR (.seq sh n f))).val), [some (boxP (bugP last e (decR (.seq sh n f))).rest e)])
  | _, _, _ => none
structure Pl where
  l : List Tok
  last : Int
  out : List Cex
  fuel : Nat
def inv14p (v : V14) (e : Int) (n : Nat) (k : Nat) : Option Inv := match Nat.beq k 11 with
  | true => some { ι := Pl, S := fun p => ⟨[(2, .ptr 1099511627776 []), (3, .ptr 1099511627777 []), (5, .ptr 23 []), (6, .int .i64 p.last)], [(1099511627776, .cell 24 repSh (.agg [.int .i64 v.c1.val, .int .i64 v.c2.val, .int .i64 v.c3.val, .int .i64 v.c4.val, .own 51 p.out.length])), (1099511627777, .cell 31 fltSh (encF 0 0)), (23, boxP p.l e), (51, .row 49 cexSh p.out.length fun j => encC (p.out.getD j c0))]⟩, μ := fun p => p.l.length, ok := fun p => bugsP e p.fuel p.last p.out p.l = bugsP e n 0 [] v.c4.rest ∧ p.l.length + 1 ≤ p.fuel ∧ p.out.length + p.l.length ≤ v.c4.rest.length ∧ p.l.length ≤ v.c4.rest.length ∧ ∀ t ∈ p.l, in64 t.pos }
  | false => none
noncomputable def v14 (v : V14) (e : Int) (n : Nat) : VCtx := { C := cfgP 55 (lent14 v e) (pan14 v), CC := Known Tryd.prog [], orc := fun _ _ => spR, inv := inv14p v e n }
noncomputable def gParse (s : List UInt8) (v : V14) (e : Int) (n : Nat) (R : Rp) (x a : Int) : Prop := fnVcD (v14 v e n) K52 Tryd.f14 [.str s] (.tup [.mc repSh (encR R), .mc fltSh (encF x a)])
structure V15 where
  c1 : Int × RS
  c2 : Int × RS
  c3 : Int × RS
  c4 : Int × RS
def lent15 (v : V15) : FuncId → List AV → List BoxC → Option (AV × List (Option BoxC))
  | 32, [_, .str w], _ => match w.length with
    | 6 => some (.int .i64 v.c1.1, [some (boxR v.c1.2)])
    | 7 => some (.int .i64 v.c2.1, [some (boxR v.c2.2)])
    | 9 => some (.int .i64 v.c3.1, [some (boxR v.c3.2)])
    | _ => some (.int .i64 v.c4.1, [some (boxR v.c4.2)])
  | 33, [_, .int _ last], [.cell _ _ (.agg [.seq sh n f, .int _ e0, .agg [.int _ fe, .int _ fa]])] => some (.mc cexSh (encC (rbug ⟨decR (.seq sh n f), e0, fe, fa⟩ last).1), [some (boxR (rbug ⟨decR (.seq sh n f), e0, fe, fa⟩ last).2)])
  | _, _, _ => none
structure Pq where
  s : RS
  last : Int
  out : List Cex
  fuel : Nat
def inv15p (v : V15) (n : Nat) (k : Nat) : Option Inv := match Nat.beq k 11 with
  | true => some { ι := Pq, S := fun p => ⟨[(2, .ptr 2 []), (3, .ptr 3 []), (6, .ptr 24 []), (7, .ptr 7 []), (8, .int .i64 p.last)], [(2, .cell 24 repSh (.agg [.int .i64 0, .int .i64 0, .int .i64 0, .int .i64 0, .nils])), (3, .cell 31 fltSh (encF 0 0)), (24, boxR p.s), (7, .cell 24 repSh (.agg [.int .i64 v.c1.1, .int .i64 v.c2.1, .int .i64 v.c3.1, .int .i64 v.c4.1, .own 60 p.out.length])), (60, .row 49 cexSh p.out.length fun j => encC (p.out.getD j c0))]⟩, μ := fun p => if p.s.fe = 0 then p.s.l.length + 1 else 0, ok := fun p => rbugs p.fuel p.last p.out p.s = rbugs n 0 [] v.c4.2 ∧ 1 ≤ p.fuel ∧ (p.s.fe = 0 → p.s.l.length + 1 ≤ p.fuel) ∧ p.s.l.length ≤ v.c4.2.l.length ∧ (p.s.fe = 0 → p.out.length + p.s.l.length ≤ v.c4.2.l.length) ∧ p.out.length ≤ v.c4.2.l.length + 1 }
  | false => none
noncomputable def v15 (v : V15) (n : Nat) : VCtx := { C := cfgP 75 (lent15 v) panP, CC := Known Tryd.prog [], orc := fun _ _ => spR, inv := inv15p v n }
noncomputable def gParseR (s : List UInt8) (v : V15) (n : Nat) (R : Rp) (x a : Int) : Prop := fnVc (v15 v n) Tryd.f15 [.str s] (.tup [.mc repSh (encR R), .mc fltSh (encF x a)])
end Go.Proofs.S52
