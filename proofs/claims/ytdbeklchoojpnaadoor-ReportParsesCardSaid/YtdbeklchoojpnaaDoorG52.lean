import Derived.Test.YtdbeklchoojpnaaDoorS52a
namespace Go.Proofs.S52
open Go Go.AV Go.Proofs.Dec
noncomputable def v0 (n : Nat) : VCtx := vx n fun _ => none
noncomputable def g29 (n : Int) : Prop := fnVc (v0 17) Tryd.f60 [.int .u8 n] (.bool (isLet n))
noncomputable def g36 (n : Int) : Prop := fnVc (v0 17) Tryd.f58 [.int .u8 n] (.bool (isLet n))
noncomputable def g31 (n : Int) : Prop := fnVc (v0 9) Tryd.f62 [.int .u8 n] (.bool (dig n))
noncomputable def g37 (n : Int) : Prop := fnVc (v0 9) Tryd.f59 [.int .u8 n] (.bool (dig n))
noncomputable def g30 (n : Int) : Prop := fnVc (v0 13) Tryd.f61 [.int .u8 n] (.bool (inW n))
noncomputable def g35 (n : Int) : Prop := fnVc (v0 13) Tryd.f57 [.int .u8 n] (.bool (inW n))
noncomputable def g17 (n : Int) : Prop := fnVc (v0 5) Tryd.f41 [.int .u8 n] (.bool (notNl n))
noncomputable def g49 (l : List UInt8) (n : Int) : Prop := fnVc (v0 8) Tryd.f76 [.str l, .int .u8 n] (.int .i64 (idxByte l n.toNat.toUInt8))
noncomputable def g45 (l : List UInt8) (n : Int) : Prop := fnVc (v0 8) Tryd.f69 [.str l, .int .u8 n] (.int .i64 (idxByte l n.toNat.toUInt8))
noncomputable def g33 (n : Int) : Prop := fnVc (v0 6) Tryd.f63 [.int .u8 n] (.bool (isSym n))
def inv34 (c : Int) (k : Nat) : Option Inv := match Nat.beq k 2 with
  | true => some { ι := Nat, S := fun i => ⟨[(0, .int .u8 c), (3, .int .i64 i)], []⟩, μ := fun i => 8 - i, ok := fun i => i ≤ 8 ∧ ∀ j, j < i → ¬ ((syms.getD j 0).toNat : Int) = c }
  | false => none
noncomputable def g34 (n : Int) : Prop := fnVc (vx 12 (inv34 n)) Tryd.f56 [.int .u8 n] (.bool (isSym n))
def inv18 (p : Int → Bool) (f : Nat) (l : List UInt8) (a : Nat) (k : Nat) : Option Inv := match Nat.beq k 1 with
  | true => some { ι := Nat, S := fun i => ⟨[(0, .str l), (1, .int .i64 i), (2, .clo f [])], []⟩, μ := fun i => l.length - i, ok := fun i => endOf p l i = endOf p l a }
  | false => none
noncomputable def g18w (l : List UInt8) (a : Nat) : Prop := fnVc (vx 21 (inv18 inW 61 l a)) Tryd.f42 [.str l, .int .i64 a, .clo 61 []] (.int .i64 (endOf inW l a))
noncomputable def g18c (l : List UInt8) (a : Nat) : Prop := fnVc (vx 21 (inv18 notNl 41 l a)) Tryd.f42 [.str l, .int .i64 a, .clo 41 []] (.int .i64 (endOf notNl l a))
noncomputable def g19 (l : List UInt8) (a : Nat) : Prop := fnVc (v0 67) Tryd.f43 [.str l, .int .i64 a] (.tup [.mc tokSh (encT (tok l a).1), .int .i64 (tok l a).2])
def inv20 (l : List UInt8) (k : Nat) : Option Inv := match Nat.beq k 7 with
  | true => some { ι := Nat, S := fun i => ⟨[(0, .str l), (2, .ptr 2 []), (3, .int .i64 0), (4, .int .u8 (ch l 0)), (5, .int .i64 i)], [(2, .cell 68 tokSh (encT ⟨0, [], 0, 0⟩))]⟩, μ := fun i => l.length - i, ok := fun i => 1 ≤ i ∧ i ≤ l.length ∧ endOf inW l i = endOf inW l 1 }
  | false => none
noncomputable def g20 (l : List UInt8) : Prop := fnVc (vx 59 (inv20 l)) Tryd.f39 [.str l] (.tup [.mc tokSh (encT (tok l 0).1), .int .i64 (tok l 0).2])
structure Sc where
  pos : Nat
  out : List Tok
  fuel : Nat
  at0 : Nat
def scOK (l : List UInt8) (s : Sc) : Prop := s.pos ≤ l.length ∧ l.length - s.pos ≤ s.fuel ∧ scanN l s.fuel s.pos s.out = scanN l l.length 0 [] ∧ s.out.length ≤ s.pos
def inv8 (l : List UInt8) (k : Nat) : Option Inv := match Nat.beq k 7 with
  | true => some { ι := Sc, S := fun s => ⟨[(0, .str l), (3, .ptr 3 []), (4, .own 35 s.out.length), (5, .ptr 5 []), (6, .clo 41 []), (7, .int .i64 s.pos)], [(3, .cell 31 fltSh (encF 0 0)), (5, .cell 31 fltSh (encF 0 0)), (35, .row 68 tokSh s.out.length fun i => encT (s.out.getD i ⟨0, [], 0, 0⟩))]⟩, μ := fun s => l.length - s.pos, ok := fun s => scOK l s }
  | false => none
noncomputable def g8 (l : List UInt8) : Prop := fnVc (vx 54 (inv8 l)) Tryd.f28 [.str l] (.tup [rowT (scan l).1, .mc fltSh (encF (scan l).2.1 (scan l).2.2)])
def inv10 (l : List UInt8) (k : Nat) : Option Inv := match Nat.beq k 5 with
  | true => some { ι := Sc, S := fun s => ⟨[(0, .str l), (3, .ptr 3 []), (4, .own 61 s.out.length), (5, .int .i64 s.pos)], [(3, .cell 31 fltSh (encF 0 0)), (61, .row 68 tokSh s.out.length fun i => encT (s.out.getD i ⟨0, [], 0, 0⟩))]⟩, μ := fun s => l.length - s.pos, ok := fun s => scOK l s }
  | false => none
def inv10P (l : List UInt8) (k : Nat) : Option InvP := match Nat.beq k 9 with
  | true => some { π := Sc, I := fun s => { ι := Nat, S := fun i => ⟨[(0, .str l), (3, .ptr 3 []), (4, .own 61 s.out.length), (5, .int .i64 i)], [(3, .cell 31 fltSh (encF 0 0)), (61, .row 68 tokSh s.out.length fun i => encT (s.out.getD i ⟨0, [], 0, 0⟩))]⟩, μ := fun i => l.length - i, ok := fun i => endOf notNl l i = endOf notNl l s.pos } }
  | false => none
noncomputable def g10 (l : List UInt8) : Prop := fnVc { vx 69 (inv10 l) with invP := inv10P l } Tryd.f22 [.str l] (.tup [rowT (scan l).1, .mc fltSh (encF (scan l).2.1 (scan l).2.2)])
def inv44 (l : List UInt8) (k : Nat) : Option Inv := match Nat.beq k 8 with
  | true => some { ι := Nat, S := fun i => ⟨[(0, .str (strip l)), (28, .int .i64 (strip l).length), (29, .int .i64 i)], []⟩, μ := fun i => (strip l).length - i, ok := fun i => i ≤ (strip l).length ∧ ∀ j, j < i → isDig ((strip l).getD j 0) = true }
  | false => none
noncomputable def g44 (l : List UInt8) : Prop := fnVc (vx 43 (inv44 l)) Tryd.f51 [.str l] (.bool (notat l))
def inv46 (l : List UInt8) (k : Nat) : Option Inv := match Nat.beq k 8 with
  | true => some { ι := Nat, S := fun i => ⟨[(0, .str (strip l)), (3, .int .i64 i)], []⟩, μ := fun i => (strip l).length - i, ok := fun i => i ≤ (strip l).length ∧ ∀ j, j < i → isDig ((strip l).getD j 0) = true }
  | false => none
noncomputable def g46 (l : List UInt8) : Prop := fnVc (vx 39 (inv46 l)) Tryd.f52 [.str l] (.bool (notat l))
def inv32 (l : List UInt8) (k : Nat) : Option Inv := match Nat.beq k 10 with
  | true => some { ι := Nat, S := fun i => ⟨[(0, .str (strip l)), (4, .bool (decide ((l.getD 0 0).toNat = 45))), (5, .int .i64 (numN (strip l) i)), (20, .int .i64 (strip l).length), (21, .int .i64 i)], []⟩, μ := fun i => (strip l).length - i, ok := fun i => i ≤ (strip l).length }
  | false => none
noncomputable def g32 (l : List UInt8) : Prop := fnVc (vx 43 (inv32 l)) Tryd.f36 [.str l] (.tup [.int .i64 (parse l).1, .int .i64 (parse l).2])
def inv38 (l : List UInt8) (k : Nat) : Option Inv := match Nat.beq k 7 with
  | true => some { ι := Nat, S := fun i => ⟨[(0, .str l), (4, .int .i64 (numR l i)), (5, .int .i64 i)], []⟩, μ := fun i => l.length - i, ok := fun i => i ≤ l.length }
  | false => none
noncomputable def g38 (l : List UInt8) : Prop := fnVc (vx 42 (inv38 l)) Tryd.f37 [.str l] (.tup [.int .i64 (parse l).1, .int .i64 (parse l).2])
end Go.Proofs.S52
