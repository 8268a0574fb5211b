import Derived.Test.YtdbeklchoojpnaaDoorP52x
namespace Go.Proofs.S52
open Go Go.AV Go.Proofs.Dec
noncomputable def gL3 (G : List (Nat × AV)) (r : Rp) : Prop := fnVc (vg G 39 fun _ => none) Tryd.f3 [.mc repSh (encR r)] (.bool true)
def orcL4 (A B : Rp) (e1 a1 e2 a2 : Int) (q : Bool) : Nat → Nat → FuncId → List AV → Option AV
  | _, _, 14, _ => some (.tup [.mc repSh (encR A), .mc fltSh (encF e1 a1)])
  | _, _, 15, _ => some (.tup [.mc repSh (encR B), .mc fltSh (encF e2 a2)])
  | _, _, 16, _ => some (.bool q)
  | _, _, 9, _ => some (.bool true)
  | _, _, _, _ => none
noncomputable def gL4 (G : List (Nat × AV)) (s : List UInt8) (A B : Rp) (e1 a1 e2 a2 : Int) (q : Bool) : Prop := fnVc { vg G 37 (fun _ => none) with orc := orcL4 A B e1 a1 e2 a2 q } Tryd.f4 [.str s] (.bool true)
def orcL5 (a b : List Int) (e f : Int) (q : Bool) (u v : List UInt8) : Nat → Nat → FuncId → List AV → Option AV
  | _, _, 17, _ => some (.tup [rowI a, .int .i64 e])
  | _, _, 18, _ => some (.tup [rowI b, .int .i64 f])
  | _, _, 19, _ => some (.bool q)
  | _, _, 20, _ => some (.str u)
  | _, _, 21, _ => some (.str v)
  | _, _, 9, _ => some (.bool true)
  | _, _, _, _ => none
noncomputable def gL5 (G : List (Nat × AV)) (l : List Int) (s : List UInt8) (a b : List Int) (e f : Int) (q : Bool) (u v : List UInt8) : Prop := fnVc { vg G 46 (fun _ => none) with orc := orcL5 a b e f q u v } Tryd.f5 [rowI l, .str s] (.bool true)
structure V6 where
  q : Bool
  t : List UInt8
  e : Int
  back : Rp
  fe : Int
  fa : Int
  q2 : Bool
  q3 : Bool
  x : Rp
  ge : Int
  ga : Int
  u : List UInt8
  h : Int
  a : List Tok
  ie : Int
  ia : Int
  b : List Tok
  je : Int
  ja : Int
  q4 : Bool
def orcL6 (v : V6) : Nat → Nat → FuncId → List AV → Option AV
  | 1, _, _, _ => some (.bool v.q)
  | 3, _, _, _ => some (.tup [.str v.t, .int .i64 v.e])
  | 5, _, _, _ => some (.tup [.mc repSh (encR v.back), .mc fltSh (encF v.fe v.fa)])
  | 6, _, 16, _ => some (.bool v.q2)
  | 6, _, 12, _ => some (.bool v.q3)
  | 8, _, _, _ => some (.tup [.mc repSh (encR v.x), .mc fltSh (encF v.ge v.ga)])
  | 11, _, _, _ => some (.tup [.str v.u, .int .i64 v.h])
  | 12, _, _, _ => some (.tup [rowT v.a, .mc fltSh (encF v.ie v.ia)])
  | 13, _, _, _ => some (.tup [rowT v.b, .mc fltSh (encF v.je v.ja)])
  | 14, _, 23, _ => some (.bool v.q4)
  | _, _, 9, _ => some (.bool true)
  | _, _, _, _ => none
noncomputable def gL6 (G : List (Nat × AV)) (r : Rp) (s : List UInt8) (v : V6) : Prop := fnVc { vg G 107 (fun _ => none) with orc := orcL6 v } Tryd.f6 [.mc repSh (encR r), .str s] (.bool true)
def rightTo (l : List Int) : Nat → Bool
  | 0 => decide (l.length ≤ 512)
  | i + 1 => rightTo l i && okV (l.getD i 0)
def invL7 (l : List Int) (s : List UInt8) (k : Nat) : Option Inv := match Nat.beq k 5 with
  | true => some { ι := Nat, S := fun i => ⟨[(0, rowI l), (1, .str s), (5, .bool (rightTo l i)), (24, rowI l), (25, .int .i64 l.length), (26, .int .i64 i)], []⟩, μ := fun i => l.length - i, ok := fun i => i ≤ l.length }
  | false => none
def orcL7 (t : List UInt8) (a : List Int) (e : Int) (q : Bool) (b : List Int) (f : Int) (u : List UInt8) : Nat → Nat → FuncId → List AV → Option AV
  | 9, _, 20, _ => some (.str t)
  | 9, _, 17, _ => some (.tup [rowI a, .int .i64 e])
  | 10, _, 19, _ => some (.bool q)
  | 12, _, 17, _ => some (.tup [rowI b, .int .i64 f])
  | 14, _, 20, _ => some (.str u)
  | _, _, 9, _ => some (.bool true)
  | _, _, _, _ => none
noncomputable def gL7 (G : List (Nat × AV)) (l : List Int) (s : List UInt8) (t : List UInt8) (a : List Int) (e : Int) (q : Bool) (b : List Int) (f : Int) (u : List UInt8) : Prop := fnVc { vg G 85 (invL7 l s) with orc := orcL7 t a e q b f u } Tryd.f7 [rowI l, .str s] (.bool true)
end Go.Proofs.S52
