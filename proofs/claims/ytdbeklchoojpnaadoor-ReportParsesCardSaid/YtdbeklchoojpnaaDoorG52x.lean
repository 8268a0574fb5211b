import Derived.Test.YtdbeklchoojpnaaDoorP52j
namespace Go.Proofs.S52
open Go Go.AV Go.Proofs.Dec
def exR : Rp := ⟨6, 0, 0, 0, [⟨2, [0, 1]⟩]⟩
def exT : List UInt8 := (textR exR).1
def exA : List UInt8 := [48, 32, 45, 49, 32, 49, 50]
def exB : List UInt8 := [48, 32, 32, 49]
def exC : List UInt8 := [116, 114, 97, 99, 101, 115, 32, 49, 10, 98, 108, 111, 99, 107, 101, 100, 32, 45, 49, 10]
def orc9 (T : List UInt8) (R : Rp) (x a : Int) (l l2 : List Int) (R2 : Rp) (b1 b2 : Bool) (e g h y c : Int) (N : List UInt8) : Nat → Nat → FuncId → List AV → Option AV
  | 2, _, _, _ => some (.tup [.str T, .int .i64 e])
  | 3, _, _, _ => some (.tup [.mc repSh (encR R), .mc fltSh (encF x a)])
  | 4, _, _, _ => some (.tup [rowI l, .int .i64 g])
  | 5, _, _, _ => some (.tup [rowI l2, .int .i64 h])
  | 6, _, _, _ => some (.tup [.mc repSh (encR R2), .mc fltSh (encF y c)])
  | 9, _, 24, _ => some (.str N)
  | 9, _, 16, _ => some (.bool b1)
  | 9, _, 19, _ => some (.bool b2)
  | _, _, _, _ => none
noncomputable def gEx (G : List (Nat × AV)) (T : List UInt8) (R : Rp) (x a : Int) (l l2 : List Int) (R2 : Rp) (b1 b2 : Bool) (e g h y c : Int) (N : List UInt8) : Prop := fnVc { vg G 73 (fun _ => none) with orc := orc9 T R x a l l2 R2 b1 b2 e g h y c N } Tryd.f9 [] (.bool true)
end Go.Proofs.S52
