/- Layer 9: Join: what it computes; its goals. -/
import Derived.Test.YtmlgkljbhidlhaaS09b
namespace Go.Proofs.S09
open Go Go.AV Go.Proofs.Dec

def t0 : Tok := ⟨0, [], 0, 0⟩
def strip (t : Tok) : Tok := { t with pos := 0 }
def tokOK (t : Tok) : Bool := ((tok t.text 0).2 == 0 && (tok t.text 0).1.kind == t.kind && (tok t.text 0).1.text == t.text && (tok t.text 0).1.num == t.num)
def validT (t : Tok) : Bool := !(t.text == []) && tokOK t
def sep (l : List Tok) (i : Nat) : List UInt8 := if 0 < i ∧ (l.getD i t0).kind ≠ 4 ∧ (l.getD (i - 1) t0).kind ≠ 4 then [32] else []
def joinTo (l : List Tok) : Nat → List UInt8
  | 0 => []
  | i + 1 => joinTo l i ++ sep l i ++ (l.getD i t0).text
def joinL (l : List Tok) : List UInt8 × Int := if l.all validT = true then if 16384 < (joinTo l l.length).length then ([], 4) else (joinTo l l.length, 0) else ([], 14)
def alike (a b : List Tok) : Bool := a.map strip == b.map strip

def sp2 : FuncId → List AV → Option AV
  | 21, [.mc _ x] | 26, [.mc _ x] => some (.bool (validT (decT x)))
  | 12, [x] | 13, [x] => some (.tup [.str (joinL (decR x)).1, .int .i64 (joinL (decR x)).2])
  | 14, [x, y] => some (.bool (alike (decR x) (decR y)))
  | f, l => sp f l
noncomputable def vx2 (n : Nat) (inv : Nat → Option Inv) : VCtx := { C := cfgB n, CC := Known Try.prog [], orc := fun _ _ => sp2, inv := inv }
noncomputable def v2 (n : Nat) : VCtx := vx2 n fun _ => none
noncomputable def g21 (t : Tok) : Prop := fnVc (v2 37) Try.f21 [.mc tokSh (encT t)] (.bool (validT t))
noncomputable def g26 (t : Tok) : Prop := fnVc (v2 37) Try.f26 [.mc tokSh (encT t)] (.bool (validT t))
def inv12 (l : List Tok) (k : Nat) : Option Inv := match Nat.beq k 2 with
  | true => some { ι := Nat, S := fun i => ⟨[(0, rowT l), (9, rowT l), (10, .int .i64 l.length), (11, .int .i64 i)], []⟩, μ := fun i => l.length - i, ok := fun i => i ≤ l.length ∧ ∀ j, j < i → validT (l.getD j t0) = true }
  | false => none
def peel12 (l : List Tok) (k : Nat) : Option Inv := match Nat.beq k 9 with
  | true => some { ι := Nat, S := fun i => ⟨[(0, rowT l), (6, .ptr 6 []), (19, rowT l), (20, .int .i64 l.length), (21, .int .i64 i)], [(6, .cell 51 bSh (.agg [.ptr 6 [], .own 188416 (joinTo l i).length])), (188416, .row 5 .leaf (joinTo l i).length (strRow (joinTo l i)))]⟩, μ := fun i => l.length - i, ok := fun i => 1 ≤ i ∧ i ≤ l.length ∧ (joinTo l i).length ≤ 16384 }
  | false => none
noncomputable def g12 (l : List Tok) : Prop := fnVc { vx2 50 (inv12 l) with peel := peel12 l } Try.f12 [rowT l] (.tup [.str (joinL l).1, .int .i64 (joinL l).2])
def inv13 (l : List Tok) (k : Nat) : Option Inv := match Nat.beq k 2 with
  | true => some { ι := Nat, S := fun i => ⟨[(0, rowT l), (4, .int .i64 i)], []⟩, μ := fun i => l.length - i, ok := fun i => i ≤ l.length ∧ ∀ j, j < i → validT (l.getD j t0) = true }
  | false => match Nat.beq k 8 with
    | true => some { ι := Nat, S := fun i => ⟨[(0, rowT l), (5, .str (joinTo l i)), (6, .int .i64 i)], []⟩, μ := fun i => l.length - i, ok := fun i => i ≤ l.length ∧ (joinTo l i).length ≤ 16384 }
    | false => none
noncomputable def g13 (l : List Tok) : Prop := fnVc (vx2 57 (inv13 l)) Try.f13 [rowT l] (.tup [.str (joinL l).1, .int .i64 (joinL l).2])
def inv14 (a b : List Tok) (k : Nat) : Option Inv := match Nat.beq k 4 with
  | true => some { ι := Nat, S := fun i => ⟨[(0, rowT a), (1, rowT b), (5, .int .i64 i)], []⟩, μ := fun i => a.length - i, ok := fun i => i ≤ a.length ∧ ∀ j, j < i → strip (a.getD j t0) = strip (b.getD j t0) }
  | false => none
noncomputable def g14 (a b : List Tok) : Prop := fnVc (vx2 54 (inv14 a b)) Try.f14 [rowT a, rowT b] (.bool (alike a b))
noncomputable def g5 (l : List Tok) : Prop := fnVc (v2 32) Try.f5 [rowT l] (.bool true)
structure V6 where
  t : List UInt8
  e : Int
  again : List Tok
  f : Int
  fa : Int
  q : Bool
  a : List Tok
  h : Int
  ha : Int
  u : List UInt8
  g : Int
  b : List Tok
  k : Int
  ka : Int
  r : Bool
def orc6 (v : V6) : Nat → Nat → FuncId → List AV → Option AV
  | 3, _, _, _ => some (.tup [.str v.t, .int .i64 v.e])
  | 5, _, _, _ => some (.tup [rowT v.again, .mc fltSh (encF v.f v.fa)])
  | 6, _, _, _ => some (.bool v.q)
  | 8, _, _, _ => some (.tup [rowT v.a, .mc fltSh (encF v.h v.ha)])
  | 11, _, _, _ => some (.tup [.str v.u, .int .i64 v.g])
  | 12, _, _, _ => some (.tup [rowT v.b, .mc fltSh (encF v.k v.ka)])
  | 13, _, 14, _ => some (.bool v.r)
  | _, _, 9, _ => some (.bool true)
  | _, _, _, _ => none
noncomputable def g6 (s : List UInt8) (l : List Tok) (v : V6) : Prop := fnVc { v2 94 with orc := orc6 v } Try.f6 [.str s, rowT l] (.bool true)
end Go.Proofs.S09
