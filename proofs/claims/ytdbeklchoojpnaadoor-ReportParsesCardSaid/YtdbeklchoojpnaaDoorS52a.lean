/- Layer 9: its data, what its functions answer, the types. -/
import Derived.Test.YtdbeklchoojpnaaDoorDec
import Derived.Test.YtdbeklchoojpnaaDoorProg
import Derived.KernelRfl
namespace Go.Proofs.S52
open Go Go.AV Go.Proofs.Dec

structure Tok where
  kind : Int
  text : List UInt8
  num : Int
  pos : Int
  deriving Inhabited, DecidableEq

def tokSh : Shape := .agg [.leaf, .leaf, .leaf, .leaf]
def fltSh : Shape := .agg [.leaf, .leaf]
def encT (t : Tok) : AV := .agg [.int .i64 t.kind, .str t.text, .int .i64 t.num, .int .i64 t.pos]
def rowT (l : List Tok) : AV := .seq tokSh l.length fun i => encT (l.getD i ⟨0, [], 0, 0⟩)
def encF (e a : Int) : AV := .agg [.int .i64 e, .int .i64 a]
def decT : AV → Tok
  | .agg [.int _ k, .str t, .int _ n, .int _ p] => ⟨k, t, n, p⟩
  | _ => ⟨0, [], 0, 0⟩
def decR : AV → List Tok
  | .seq _ n f | .seqc _ n f => (List.range n).map fun i => decT (f i)
  | _ => []
theorem map_getD {α : Type} (l : List α) (d : α) : (List.range l.length).map (fun i => l.getD i d) = l := by
  apply List.ext_getElem (by simp)
  intro i h1 h2
  simp at h1
  simp [h1]
@[simp] theorem decR_row (l : List Tok) : decR (rowT l) = l := map_getD l _

/-- The byte at a place, as a number. -/
def ch (l : List UInt8) (i : Nat) : Int := ((l.getD i 0).toNat : Int)
def isLet (n : Int) : Bool := (decide (97 ≤ n) && decide (n ≤ 122)) || (decide (65 ≤ n) && decide (n ≤ 90))
def dig (n : Int) : Bool := decide (48 ≤ n) && decide (n ≤ 57)
def inW (n : Int) : Bool := (isLet n || dig n) || n == 95
def syms : List UInt8 := [40, 41, 123, 125, 44, 59, 61, 58]
def isSym (n : Int) : Bool := decide (0 ≤ idxByte syms n.toNat.toUInt8)
def notNl (n : Int) : Bool := n != 10
/-- Where the bytes from a place on that satisfy p end. -/
def endOf (p : Int → Bool) (l : List UInt8) (i : Nat) : Nat := i + ((l.drop i).takeWhile fun c => p (c.toNat : Int)).length
def cut (l : List UInt8) (a b : Nat) : List UInt8 := (l.drop a).take (b - a)

def tok (l : List UInt8) (i : Nat) : Tok × Int :=
  if isLet (ch l i) = true then (⟨1, cut l i (endOf inW l i), 0, i⟩, 0)
  else if ch l i = 45 ∨ dig (ch l i) = true then
    if (parse (cut l i (endOf inW l (i + 1)))).2 = 0 then (⟨2, cut l i (endOf inW l (i + 1)), (parse (cut l i (endOf inW l (i + 1)))).1, i⟩, 0)
    else (⟨0, [], 0, 0⟩, (parse (cut l i (endOf inW l (i + 1)))).2)
  else if isSym (ch l i) = true then (⟨3, cut l i (i + 1), 0, i⟩, 0)
  else if ch l i = 10 then (⟨4, [10], 0, i⟩, 0)
  else (⟨0, [], 0, 0⟩, 14)

def scanN (l : List UInt8) : Nat → Nat → List Tok → List Tok × Int × Int
  | 0, _, out => (out, 0, 0)
  | k + 1, i, out => if i < l.length then
      if ch l i = 32 ∨ ch l i = 9 then scanN l k (i + 1) out
      else if ch l i = 35 then scanN l k (endOf notNl l i) out
      else if (tok l i).2 = 0 then scanN l k (i + (tok l i).1.text.length) (out ++ [(tok l i).1])
      else ([], (tok l i).2, i)
    else (out, 0, 0)
def scan (l : List UInt8) : List Tok × Int × Int := if 16384 < l.length then ([], 4, 0) else scanN l l.length 0 []

def sp : FuncId → List AV → Option AV
  | 60, [.int _ n] | 58, [.int _ n] => some (.bool (isLet n))
  | 62, [.int _ n] | 59, [.int _ n] => some (.bool (dig n))
  | 61, [.int _ n] | 57, [.int _ n] => some (.bool (inW n))
  | 63, [.int _ n] | 56, [.int _ n] => some (.bool (isSym n))
  | 41, [.int _ n] => some (.bool (notNl n))
  | 69, [.str l, .int _ n] | 76, [.str l, .int _ n] | 81, [.str l, .int _ n] => some (.int .i64 (idxByte l n.toNat.toUInt8))
  | 42, [.str l, .int _ i, .clo 61 _] => some (.int .i64 (endOf inW l i.toNat))
  | 42, [.str l, .int _ i, .clo 41 _] => some (.int .i64 (endOf notNl l i.toNat))
  | 43, [.str l, .int _ i] => some (.tup [.mc tokSh (encT (tok l i.toNat).1), .int .i64 (tok l i.toNat).2])
  | 39, [.str l] => some (.tup [.mc tokSh (encT (tok l 0).1), .int .i64 (tok l 0).2])
  | 28, [.str l] | 22, [.str l] => some (.tup [rowT (scan l).1, .mc fltSh (encF (scan l).2.1 (scan l).2.2)])
  | 999911, [x, y] => some (.bool (decR x == decR y))
  | 36, [.str l] | 37, [.str l] => some (.tup [.int .i64 (parse l).1, .int .i64 (parse l).2])
  | 51, [.str l] | 52, [.str l] => some (.bool (notat l))
  | 99999, [] => some (.bool true)
  | _, _ => none

def TT : List (Nat × TyE) := [
  (3, ⟨.leaf, .int .i64 0, 8, .int .i64, false⟩),
  (4, ⟨.leaf, .bool false, 1, .bool, false⟩),
  (5, ⟨.leaf, .int .u8 0, 1, .int .u8, false⟩),
  (9, ⟨.leaf, .str [], 16, .string, false⟩),
  (42, ⟨.leaf, .nils, 24, .slice 68, false⟩),
  (27, ⟨.leaf, .int .i64 0, 8, .int .i64, false⟩),
  (31, ⟨fltSh, .agg [.int .i64 0, .int .i64 0], 16, .struct [27, 3], true⟩),
  (66, ⟨.leaf, .int .i64 0, 8, .int .i64, false⟩),
  (68, ⟨tokSh, .agg [.int .i64 0, .str [], .int .i64 0, .int .i64 0], 40, .struct [66, 9, 3, 3], true⟩)]

noncomputable def cfg (n : Nat) : Cfg := { P := Tryd.prog, T := TT, G := [], wraps := false, ntmps := n }
theorem cfg_ok (n : Nat) : TysOK (cfg n) := tys_ok (by kernel_rfl)
noncomputable def vx (n : Nat) (inv : Nat → Option Inv) : VCtx := { C := cfg n, CC := Known Tryd.prog [], orc := fun _ _ => sp, inv := inv }
end Go.Proofs.S52
