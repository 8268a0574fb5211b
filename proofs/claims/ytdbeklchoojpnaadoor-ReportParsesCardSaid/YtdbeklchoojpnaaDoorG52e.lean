import Derived.Test.YtdbeklchoojpnaaDoorS52e
namespace Go.Proofs.S52
open Go Go.AV Go.Proofs.Dec
noncomputable def z0 (n : Nat) : VCtx := vr n fun _ => none
noncomputable def g24n (b : Int) : Prop := fnVc (z0 12) Tryd.f24 [.int .i64 b] (.str (nm b))
noncomputable def g26n (b : Int) : Prop := fnVc (z0 15) Tryd.f26 [.int .i64 b] (.str (nm b))
def invInts (a b : List Int) (k : Nat) : Option Inv := match Nat.beq k 4 with
  | true => some { ι := Nat, S := fun i => ⟨[(0, rowI a), (1, rowI b), (5, .int .i64 i)], []⟩, μ := fun i => a.length - i, ok := fun i => i ≤ a.length ∧ ∀ j, j < i → a.getD j 0 = b.getD j 0 }
  | false => none
noncomputable def gInts (a b : List Int) : Prop := fnVc (vr 26 (invInts a b)) Tryd.f19 [rowI a, rowI b] (.bool (a == b))
noncomputable def gInts2 (a b : List Int) : Prop := fnVc (vr 26 (invInts a b)) Tryd.f34 [rowI a, rowI b] (.bool (a == b))
def invAl (a b : List Tok) (k : Nat) : Option Inv := match Nat.beq k 4 with
  | true => some { ι := Nat, S := fun i => ⟨[(0, rowT a), (1, rowT b), (5, .int .i64 i)], []⟩, μ := fun i => a.length - i, ok := fun i => i ≤ a.length ∧ ∀ j, j < i → tokOnly (a.getD j t0) = tokOnly (b.getD j t0) }
  | false => none
noncomputable def gAl (a b : List Tok) : Prop := fnVc (vr 54 (invAl a b)) Tryd.f23 [rowT a, rowT b] (.bool (alike a b))
def nums (r : Rp) (i : Nat) : Int := [r.t, r.b, r.u, r.o].getD i 0
def inv12 (r : Rp) (k : Nat) : Option Inv := match Nat.beq k 2 with
  | true => some { ι := Nat, S := fun i => ⟨[(1, .ptr 1 []), (18, .own 18 4), (19, .int .i64 4), (20, .int .i64 i)], [(1, .cell 24 repSh (encR r)), (18, .row 3 .leaf 4 fun i => .int .i64 (nums r i))]⟩, μ := fun i => 4 - i, ok := fun i => i ≤ 4 ∧ ∀ j, j < i → okN (nums r j) = true }
  | false => match Nat.beq k 9 with
    | true => some { ι := Nat, S := fun i => ⟨[(1, .ptr 1 []), (5, .int .i64 (prevB r.bugs i)), (32, rowC r.bugs), (33, .int .i64 r.bugs.length), (34, .int .i64 i)], [(1, .cell 24 repSh (encR r))]⟩, μ := fun i => r.bugs.length - i, ok := fun i => i ≤ r.bugs.length ∧ ∀ j, j < i → bugOK r.bugs j = true }
    | false => none
structure P12 where
  i : Nat
def inv12P (r : Rp) (k : Nat) : Option InvP := match Nat.beq k 15 with
  | true => some { π := P12, I := fun p => { ι := Nat, S := fun i => ⟨[(1, .ptr 1 []), (5, .int .i64 (r.bugs.getD p.i c0).bug), (32, rowC r.bugs), (33, .int .i64 r.bugs.length), (34, .int .i64 p.i), (61, rowI (r.bugs.getD p.i c0).sch), (62, .int .i64 (r.bugs.getD p.i c0).sch.length), (63, .int .i64 i)], [(1, .cell 24 repSh (encR r))]⟩, μ := fun i => (r.bugs.getD p.i c0).sch.length - i, ok := fun i => i ≤ (r.bugs.getD p.i c0).sch.length ∧ ∀ j, j < i → okV ((r.bugs.getD p.i c0).sch.getD j 0) = true } }
  | false => none
noncomputable def g12v (r : Rp) : Prop := fnVc { vr 75 (inv12 r) with invP := inv12P r } Tryd.f12 [.mc repSh (encR r)] (.bool (validR r))
def inv13v (r : Rp) (k : Nat) : Option Inv := match Nat.beq k 3 with
  | true => some { ι := Nat, S := fun i => ⟨[(1, .ptr 1 []), (3, .own 16 4), (4, .int .i64 i)], [(1, .cell 24 repSh (encR r)), (16, .row 3 .leaf 4 fun i => .int .i64 (nums r i))]⟩, μ := fun i => 4 - i, ok := fun i => i ≤ 4 ∧ ∀ j, j < i → okN (nums r j) = true }
  | false => match Nat.beq k 8 with
    | true => some { ι := Nat, S := fun i => ⟨[(1, .ptr 1 []), (5, .int .i64 i)], [(1, .cell 24 repSh (encR r))]⟩, μ := fun i => r.bugs.length - i, ok := fun i => i ≤ r.bugs.length ∧ ∀ j, j < i → bugOK r.bugs j = true }
    | false => none
def inv13P (r : Rp) (k : Nat) : Option InvP := match Nat.beq k 14 with
  | true => some { π := P12, I := fun p => { ι := Nat, S := fun i => ⟨[(1, .ptr 1 []), (5, .int .i64 p.i), (6, .ptr 6 []), (7, .int .i64 i)], [(1, .cell 24 repSh (encR r)), (6, .cell 49 cexSh (encC (r.bugs.getD p.i c0)))]⟩, μ := fun i => (r.bugs.getD p.i c0).sch.length - i, ok := fun i => i ≤ (r.bugs.getD p.i c0).sch.length ∧ ∀ j, j < i → okV ((r.bugs.getD p.i c0).sch.getD j 0) = true } }
  | false => none
noncomputable def g13v (r : Rp) : Prop := fnVc { vr 98 (inv13v r) with invP := inv13P r } Tryd.f13 [.mc repSh (encR r)] (.bool (validR r))
def inv20s (l : List Int) (k : Nat) : Option Inv := match Nat.beq k 3 with
  | true => some { ι := Nat, S := fun i => ⟨[(3, .own 16 i), (6, rowI l), (7, .int .i64 l.length), (8, .int .i64 i)], [(16, .row 9 .leaf i fun j => .str ((l.map fmt).getD j []))]⟩, μ := fun i => l.length - i, ok := fun i => i ≤ l.length }
  | false => none
noncomputable def g20s (l : List Int) : Prop := fnVc (vr 20 (inv20s l)) Tryd.f20 [rowI l] (.str (sched l))
def inv21s (l : List Int) (k : Nat) : Option Inv := match Nat.beq k 3 with
  | true => some { ι := Nat, S := fun i => ⟨[(0, rowI l), (3, .str (schTo l i)), (4, .int .i64 i)], []⟩, μ := fun i => l.length - i, ok := fun i => i ≤ l.length }
  | false => none
noncomputable def g21s (l : List Int) : Prop := fnVc (vr 23 (inv21s l)) Tryd.f21 [rowI l] (.str (sched l))
def inv10t (r : Rp) (k : Nat) : Option Inv := match Nat.beq k 5 with
  | true => some { ι := Nat, S := fun i => ⟨[(1, .ptr 1 []), (4, .str (txTo r i)), (31, rowC r.bugs), (32, .int .i64 r.bugs.length), (33, .int .i64 i)], [(1, .cell 24 repSh (encR r))]⟩, μ := fun i => r.bugs.length - i, ok := fun i => i ≤ r.bugs.length }
  | false => none
noncomputable def g10t (r : Rp) : Prop := fnVc (vr 60 (inv10t r)) Tryd.f10 [.mc repSh (encR r)] (.tup [.str (textR r).1, .int .i64 (textR r).2])
def inv11t (r : Rp) (k : Nat) : Option Inv := match Nat.beq k 5 with
  | true => some { ι := Nat, S := fun i => ⟨[(1, .ptr 1 []), (4, .str (txTo r i)), (5, .int .i64 i)], [(1, .cell 24 repSh (encR r))]⟩, μ := fun i => r.bugs.length - i, ok := fun i => i ≤ r.bugs.length }
  | false => none
noncomputable def g11t (r : Rp) : Prop := fnVc (vr 70 (inv11t r)) Tryd.f11 [.mc repSh (encR r)] (.tup [.str (textR r).1, .int .i64 (textR r).2])
def inv16 (a b : Rp) (k : Nat) : Option Inv := match Nat.beq k 4 with
  | true => some { ι := Nat, S := fun i => ⟨[(2, .ptr 2 []), (3, .ptr 3 []), (5, .int .i64 i)], [(2, .cell 24 repSh (encR a)), (3, .cell 24 repSh (encR b))]⟩, μ := fun i => a.bugs.length - i, ok := fun i => i ≤ a.bugs.length ∧ ∀ j, j < i → a.bugs.getD j c0 = b.bugs.getD j c0 }
  | false => none
noncomputable def g16 (a b : Rp) : Prop := fnVc (vr 77 (inv16 a b)) Tryd.f16 [.mc repSh (encR a), .mc repSh (encR b)] (.bool (a == b))
structure Pn where
  i : Nat
  out : List Int
def inv17p (s : List UInt8) (k : Nat) : Option Inv := match Nat.beq k 8 with
  | true => some { ι := Pn, S := fun p => ⟨[(17, rowS (splitW s)), (18, .int .i64 (splitW s).length), (19, .int .i64 p.i), (5, .own 34 p.out.length)], [(34, .row 3 .leaf p.out.length fun j => .int .i64 (p.out.getD j 0))]⟩, μ := fun p => (splitW s).length - p.i, ok := fun p => p.i ≤ (splitW s).length ∧ p.out.length = p.i ∧ pnums ((splitW s).drop p.i) p.out = pnums (splitW s) [] }
  | false => none
noncomputable def g17p (G : List (Nat × AV)) (s : List UInt8) : Prop := fnVc (vg G 37 (inv17p s)) Tryd.f17 [.str s] (.tup [rowI (psch s).1, .int .i64 (psch s).2])
def rowAt (l : List (List UInt8)) : BoxC := .row 9 .leaf l.length fun j => .str (l.getD j [])
def inv18p (s : List UInt8) (k : Nat) : Option Inv := match Nat.beq k 5 with
  | true => some { ι := Nat, S := fun i => ⟨[(0, .str s), (4, .own 12 (splitW (s.take i)).length), (5, .int .i64 i)], [(12, rowAt (splitW (s.take i)))]⟩, μ := fun i => s.length - i, ok := fun i => i ≤ s.length }
  | false => match Nat.beq k 14 with
    | true => some { ι := Pn, S := fun p => ⟨[(4, .own 12 (splitW s).length), (7, .int .i64 p.i), (6, .own 66 p.out.length)], [(12, rowAt (splitW s)), (66, .row 3 .leaf p.out.length fun j => .int .i64 (p.out.getD j 0))]⟩, μ := fun p => (splitW s).length - p.i, ok := fun p => p.i ≤ (splitW s).length ∧ p.out.length = p.i ∧ pnums ((splitW s).drop p.i) p.out = pnums (splitW s) [] }
    | false => none
noncomputable def g18p (s : List UInt8) : Prop := fnVc (vr 68 (inv18p s)) Tryd.f18 [.str s] (.tup [rowI (psch s).1, .int .i64 (psch s).2])
def inv8f (r : Rp) (k : Nat) : Option Inv := match Nat.beq k 4 with
  | true => some { ι := Nat, S := fun i => ⟨[(1, .ptr 1 []), (10, rowC r.bugs), (11, .int .i64 r.bugs.length), (12, .int .i64 i)], [(1, .cell 24 repSh (encR r))]⟩, μ := fun i => r.bugs.length - i, ok := fun i => i ≤ r.bugs.length ∧ ∀ j, j < i → (!(decide (30 < (r.bugs.getD j c0).sch.length) && decide ((r.bugs.getD j c0).sch.length ≤ 512))) = true }
  | false => none
noncomputable def g8f (r : Rp) : Prop := fnVc (vr 27 (inv8f r)) Tryd.f8 [.mc repSh (encR r)] (.bool (fewR r))
def invKind (s : List UInt8) (k : Nat) : Option Inv := match Nat.beq k 2 with
  | true => some { ι := Nat, S := fun i => ⟨[(0, .str s), (4, .int .i64 ((i : Int) + 1))], []⟩, μ := fun i => 4 - i, ok := fun i => i ≤ 4 ∧ ∀ j : Nat, j < i → ¬ nm ((j : Int) + 1) = s }
  | false => none
noncomputable def gKind (s : List UInt8) : Prop := fnVc (vr 14 (invKind s)) Tryd.f49 [.str s] (.tup [.int .i64 (codeB s), .bool (codeB s != 0)])
end Go.Proofs.S52
