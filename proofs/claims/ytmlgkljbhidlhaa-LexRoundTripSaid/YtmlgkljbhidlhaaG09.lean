import Derived.Test.YtmlgkljbhidlhaaS09a
namespace Go.Proofs.S09
open Go Go.AV Go.Proofs.Dec
noncomputable def v0 (n : Nat) : VCtx := vx n fun _ => none
noncomputable def g29 (n : Int) : Prop := fnVc (v0 17) Try.f29 [.int .u8 n] (.bool (isLet n))
noncomputable def g36 (n : Int) : Prop := fnVc (v0 17) Try.f36 [.int .u8 n] (.bool (isLet n))
noncomputable def g31 (n : Int) : Prop := fnVc (v0 9) Try.f31 [.int .u8 n] (.bool (dig n))
noncomputable def g37 (n : Int) : Prop := fnVc (v0 9) Try.f37 [.int .u8 n] (.bool (dig n))
noncomputable def g30 (n : Int) : Prop := fnVc (v0 13) Try.f30 [.int .u8 n] (.bool (inW n))
noncomputable def g35 (n : Int) : Prop := fnVc (v0 13) Try.f35 [.int .u8 n] (.bool (inW n))
noncomputable def g17 (n : Int) : Prop := fnVc (v0 5) Try.f17 [.int .u8 n] (.bool (notNl n))
noncomputable def g49 (l : List UInt8) (n : Int) : Prop := fnVc (v0 8) Try.f49 [.str l, .int .u8 n] (.int .i64 (idxByte l n.toNat.toUInt8))
noncomputable def g45 (l : List UInt8) (n : Int) : Prop := fnVc (v0 8) Try.f45 [.str l, .int .u8 n] (.int .i64 (idxByte l n.toNat.toUInt8))
noncomputable def g33 (n : Int) : Prop := fnVc (v0 6) Try.f33 [.int .u8 n] (.bool (isSym n))
def inv34 (c : Int) (k : Nat) : Option Inv := match Nat.beq k 2 with
  | true => some { ι := Nat, S := fun i => ⟨[(0, .int .u8 c), (3, .int .i64 i)], []⟩, μ := fun i => 8 - i, ok := fun i => i ≤ 8 ∧ ∀ j, j < i → ¬ ((syms.getD j 0).toNat : Int) = c }
  | false => none
noncomputable def g34 (n : Int) : Prop := fnVc (vx 12 (inv34 n)) Try.f34 [.int .u8 n] (.bool (isSym n))
def inv18 (p : Int → Bool) (f : Nat) (l : List UInt8) (a : Nat) (k : Nat) : Option Inv := match Nat.beq k 1 with
  | true => some { ι := Nat, S := fun i => ⟨[(0, .str l), (1, .int .i64 i), (2, .clo f [])], []⟩, μ := fun i => l.length - i, ok := fun i => endOf p l i = endOf p l a }
  | false => none
noncomputable def g18w (l : List UInt8) (a : Nat) : Prop := fnVc (vx 21 (inv18 inW 30 l a)) Try.f18 [.str l, .int .i64 a, .clo 30 []] (.int .i64 (endOf inW l a))
noncomputable def g18c (l : List UInt8) (a : Nat) : Prop := fnVc (vx 21 (inv18 notNl 17 l a)) Try.f18 [.str l, .int .i64 a, .clo 17 []] (.int .i64 (endOf notNl l a))
noncomputable def g19 (l : List UInt8) (a : Nat) : Prop := fnVc (v0 67) Try.f19 [.str l, .int .i64 a] (.tup [.mc tokSh (encT (tok l a).1), .int .i64 (tok l a).2])
def inv20 (l : List UInt8) (k : Nat) : Option Inv := match Nat.beq k 7 with
  | true => some { ι := Nat, S := fun i => ⟨[(0, .str l), (2, .ptr 2 []), (3, .int .i64 0), (4, .int .u8 (ch l 0)), (5, .int .i64 i)], [(2, .cell 33 tokSh (encT ⟨0, [], 0, 0⟩))]⟩, μ := fun i => l.length - i, ok := fun i => 1 ≤ i ∧ i ≤ l.length ∧ endOf inW l i = endOf inW l 1 }
  | false => none
noncomputable def g20 (l : List UInt8) : Prop := fnVc (vx 59 (inv20 l)) Try.f20 [.str l] (.tup [.mc tokSh (encT (tok l 0).1), .int .i64 (tok l 0).2])
def inv11 (a b : List Tok) (k : Nat) : Option Inv := match Nat.beq k 4 with
  | true => some { ι := Nat, S := fun i => ⟨[(0, rowT a), (1, rowT b), (5, .int .i64 i)], []⟩, μ := fun i => a.length - i, ok := fun i => i ≤ a.length ∧ ∀ j, j < i → a.getD j ⟨0, [], 0, 0⟩ = b.getD j ⟨0, [], 0, 0⟩ }
  | false => none
noncomputable def g11 (a b : List Tok) : Prop := fnVc (vx 26 (inv11 a b)) Try.f11 [rowT a, rowT b] (.bool (a == b))
structure Sc where
  pos : Nat
  out : List Tok
  fuel : Nat
  at0 : Nat
def scOK (l : List UInt8) (s : Sc) : Prop := s.pos ≤ l.length ∧ l.length - s.pos ≤ s.fuel ∧ scanN l s.fuel s.pos s.out = scanN l l.length 0 [] ∧ s.out.length ≤ s.pos
def inv8 (l : List UInt8) (k : Nat) : Option Inv := match Nat.beq k 7 with
  | true => some { ι := Sc, S := fun s => ⟨[(0, .str l), (3, .ptr 3 []), (4, .own 35 s.out.length), (5, .ptr 5 []), (6, .clo 17 []), (7, .int .i64 s.pos)], [(3, .cell 25 fltSh (encF 0 0)), (5, .cell 25 fltSh (encF 0 0)), (35, .row 33 tokSh s.out.length fun i => encT (s.out.getD i ⟨0, [], 0, 0⟩))]⟩, μ := fun s => l.length - s.pos, ok := fun s => scOK l s }
  | false => none
noncomputable def g8 (l : List UInt8) : Prop := fnVc (vx 54 (inv8 l)) Try.f8 [.str l] (.tup [rowT (scan l).1, .mc fltSh (encF (scan l).2.1 (scan l).2.2)])
def inv10 (l : List UInt8) (k : Nat) : Option Inv := match Nat.beq k 5 with
  | true => some { ι := Sc, S := fun s => ⟨[(0, .str l), (3, .ptr 3 []), (4, .own 61 s.out.length), (5, .int .i64 s.pos)], [(3, .cell 25 fltSh (encF 0 0)), (61, .row 33 tokSh s.out.length fun i => encT (s.out.getD i ⟨0, [], 0, 0⟩))]⟩, μ := fun s => l.length - s.pos, ok := fun s => scOK l s }
  | false => none
def inv10P (l : List UInt8) (k : Nat) : Option InvP := match Nat.beq k 9 with
  | true => some { π := Sc, I := fun s => { ι := Nat, S := fun i => ⟨[(0, .str l), (3, .ptr 3 []), (4, .own 61 s.out.length), (5, .int .i64 i)], [(3, .cell 25 fltSh (encF 0 0)), (61, .row 33 tokSh s.out.length fun i => encT (s.out.getD i ⟨0, [], 0, 0⟩))]⟩, μ := fun i => l.length - i, ok := fun i => endOf notNl l i = endOf notNl l s.pos } }
  | false => none
noncomputable def g10 (l : List UInt8) : Prop := fnVc { vx 69 (inv10 l) with invP := inv10P l } Try.f10 [.str l] (.tup [rowT (scan l).1, .mc fltSh (encF (scan l).2.1 (scan l).2.2)])
def toks1 : List Tok := [⟨1, [120, 49], 0, 0⟩, ⟨3, [61], 0, 3⟩, ⟨2, [45, 51], -3, 4⟩, ⟨3, [59], 0, 6⟩]
def orc9 : Nat → Nat → FuncId → List AV → Option AV
  | _, _, 11, _ => some (.bool true)
  | 1, _, _, _ => some (.tup [rowT toks1, .mc fltSh (encF 0 0)])
  | 3, _, _, _ => some (.tup [rowT [], .mc fltSh (encF 16 2)])
  | _, _, _, _ => some (.tup [rowT [], .mc fltSh (encF 14 0)])
noncomputable def v9 : VCtx := { C := cfg 43, CC := Known Try.prog [], orc := orc9, inv := fun _ => none }
noncomputable def g9 : Prop := fnVc v9 Try.f9 [] (.bool true)
noncomputable def g3 (l : List UInt8) : Prop := fnVc (v0 42) Try.f3 [.str l] (.bool true)
def inv44 (l : List UInt8) (k : Nat) : Option Inv := match Nat.beq k 8 with
  | true => some { ι := Nat, S := fun i => ⟨[(0, .str (strip l)), (28, .int .i64 (strip l).length), (29, .int .i64 i)], []⟩, μ := fun i => (strip l).length - i, ok := fun i => i ≤ (strip l).length ∧ ∀ j, j < i → isDig ((strip l).getD j 0) = true }
  | false => none
noncomputable def g44 (l : List UInt8) : Prop := fnVc (vx 43 (inv44 l)) Try.f44 [.str l] (.bool (notat l))
def inv46 (l : List UInt8) (k : Nat) : Option Inv := match Nat.beq k 8 with
  | true => some { ι := Nat, S := fun i => ⟨[(0, .str (strip l)), (3, .int .i64 i)], []⟩, μ := fun i => (strip l).length - i, ok := fun i => i ≤ (strip l).length ∧ ∀ j, j < i → isDig ((strip l).getD j 0) = true }
  | false => none
noncomputable def g46 (l : List UInt8) : Prop := fnVc (vx 39 (inv46 l)) Try.f46 [.str l] (.bool (notat l))
def inv32 (l : List UInt8) (k : Nat) : Option Inv := match Nat.beq k 10 with
  | true => some { ι := Nat, S := fun i => ⟨[(0, .str (strip l)), (4, .bool (decide ((l.getD 0 0).toNat = 45))), (5, .int .i64 (numN (strip l) i)), (20, .int .i64 (strip l).length), (21, .int .i64 i)], []⟩, μ := fun i => (strip l).length - i, ok := fun i => i ≤ (strip l).length }
  | false => none
noncomputable def g32 (l : List UInt8) : Prop := fnVc (vx 43 (inv32 l)) Try.f32 [.str l] (.tup [.int .i64 (parse l).1, .int .i64 (parse l).2])
def inv38 (l : List UInt8) (k : Nat) : Option Inv := match Nat.beq k 7 with
  | true => some { ι := Nat, S := fun i => ⟨[(0, .str l), (4, .int .i64 (numR l i)), (5, .int .i64 i)], []⟩, μ := fun i => l.length - i, ok := fun i => i ≤ l.length }
  | false => none
noncomputable def g38 (l : List UInt8) : Prop := fnVc (vx 42 (inv38 l)) Try.f38 [.str l] (.tup [.int .i64 (parse l).1, .int .i64 (parse l).2])
end Go.Proofs.S09
