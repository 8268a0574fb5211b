/- Layer 24: what is owed for the bodies that BufferPuts reaches. -/
import Derived.Test.YtihfplgdpbcieaaP24q
namespace Go.Proofs.S24
open Go Go.AV

def fewB (l : List Buf) : Bool := decide (l.length ≤ 20) && l.all fun b => decide (b.entries.length ≤ 60)
def findN (l : List Buf) (t : Int) : Nat → Int × Bool
  | 0 => (0, false)
  | k + 1 => if (l.getD (l.length - (k + 1)) default).thread = t then (((l.length - (k + 1) : Nat) : Int), true) else findN l t k
def findB (l : List Buf) (t : Int) : Int × Bool := findN l t l.length
def putB (l : List Buf) (b : Buf) : List Buf := if (findB l b.thread).2 then l.set (findB l b.thread).1.toNat b else l
def encN (N : Nat → Prop) (b : Buf) : AV := .agg [.int .i64 b.thread, .int .i64 b.first, .nseq N entSh b.entries.length fun i => encE (b.entries.getD i default)]
def rowN (N : Nat → Prop) (l : List Buf) : AV := .seq bufSh l.length fun i => encN N (l.getD i default)
def GN (N : Nat → Prop) : List (Nat × AV) := [(keyN, .cov N)]

/-- What the functions answer to Clone and Put: what is made anew is the caller's own. -/
def spC (enc : Buf → AV) : FuncId → List AV → Option AV
  | 31, [.mc _ (.agg [.int _ t, .int _ f, r])] | 32, [.mc _ (.agg [.int _ t, .int _ f, r])] => some (.mc bufSh (.agg [.int .i64 t, .int .i64 f, .own 0 (decRow r).length]))
  | 27, [x] | 28, [x] => some (.own 0 (decBs x).length)
  | 22, [x, .int _ t] | 23, [x, .int _ t] => some (.tup [.int .i64 (findB (decBs x) t).1, .bool (findB (decBs x) t).2])
  | _, _ => none
def frC (enc : Buf → AV) : FuncId → List AV → Option (List BoxC)
  | 31, [.mc _ (.agg [.int _ _, .int _ _, r])] | 32, [.mc _ (.agg [.int _ _, .int _ _, r])] => some [.row 30 entSh (decRow r).length fun i => encE ((decRow r).getD i default)]
  | 27, [x] | 28, [x] => some [.row 24 bufSh (decBs x).length fun i => enc ((decBs x).getD i default)]
  | _, _ => none
noncomputable def cfgN (G : List (Nat × AV)) (told : Bool) (enc : Buf → AV) (n : Nat) : Cfg := { P := Try.prog, T := TT, G := G, wraps := false, ntmps := n, fresh := frC enc, CCF := KnownF Try.prog G, told := told }
theorem cfgN_ok (G : List (Nat × AV)) (told : Bool) (enc : Buf → AV) (n : Nat) : TysOK (cfgN G told enc n) := tys_ok (by kernel_rfl)
noncomputable def vN (N : Nat → Prop) (n : Nat) (inv : Nat → Option Inv) : VCtx := { C := cfgN (GN N) true (encN N) n, CC := Known Try.prog (GN N), orc := fun _ _ => spC (encN N), inv := inv }
noncomputable def vP (n : Nat) (inv : Nat → Option Inv) : VCtx := { C := cfgN [] false encB n, CC := Known Try.prog [], orc := fun _ _ => spC encB, inv := inv }

noncomputable def g32F (b : Buf) : Prop := fnVcF (vx 15 fun _ => none) Try.f32 [vB b] (.mc bufSh (.agg [.int .i64 b.thread, .int .i64 b.first, .own 0 b.entries.length])) [.row 30 entSh b.entries.length fun i => encE (b.entries.getD i default)]

def inv27 (enc : Buf → AV) (l : List Buf) (k : Nat) : Option Inv := match Nat.beq k 3 with
  | true => some { ι := Nat, S := fun i => ⟨[(3, .own 8 i), (9, rowB l), (10, .int .i64 l.length), (11, .int .i64 i)], [(8, .row 24 bufSh i fun j => enc (l.getD j default))]⟩, μ := fun i => l.length - i, ok := fun i => i ≤ l.length }
  | false => none
noncomputable def g27F (N : Nat → Prop) (l : List Buf) : Prop := fnVcF (vN N 22 (inv27 (encN N) l)) Try.f27 [rowB l] (.own 0 l.length) [.row 24 bufSh l.length fun i => encN N (l.getD i default)]
noncomputable def g27 (N : Nat → Prop) (l : List Buf) : Prop := fnVc (vN N 22 (inv27 (encN N) l)) Try.f27 [rowB l] (rowN N l)
def inv28 (enc : Buf → AV) (l : List Buf) (k : Nat) : Option Inv := match Nat.beq k 3 with
  | true => some { ι := Nat, S := fun i => ⟨[(0, rowB l), (3, .own 18 i), (4, .int .i64 i)], [(18, .row 24 bufSh i fun j => enc (l.getD j default))]⟩, μ := fun i => l.length - i, ok := fun i => i ≤ l.length }
  | false => none
noncomputable def g28F (l : List Buf) : Prop := fnVcF (vP 20 (inv28 encB l)) Try.f28 [rowB l] (.own 0 l.length) [.row 24 bufSh l.length fun i => encB (l.getD i default)]
noncomputable def g28 (l : List Buf) : Prop := fnVc (vP 20 (inv28 encB l)) Try.f28 [rowB l] (rowB l)
def inv22 (l : List Buf) (t : Int) (k : Nat) : Option Inv := match Nat.beq k 2 with
  | true => some { ι := Nat, S := fun i => ⟨[(1, .int .i64 t), (8, rowB l), (9, .int .i64 l.length), (10, .int .i64 i)], []⟩, μ := fun i => l.length - i, ok := fun i => i ≤ l.length ∧ findB l t = findN l t (l.length - i) }
  | false => none
noncomputable def g22 (l : List Buf) (t : Int) : Prop := fnVc (vP 21 (inv22 l t)) Try.f22 [rowB l, .int .i64 t] (.tup [.int .i64 (findB l t).1, .bool (findB l t).2])
def inv23 (l : List Buf) (t : Int) (k : Nat) : Option Inv := match Nat.beq k 2 with
  | true => some { ι := Nat, S := fun i => ⟨[(0, rowB l), (1, .int .i64 t), (6, .int .i64 i)], []⟩, μ := fun i => l.length - i, ok := fun i => i ≤ l.length ∧ findB l t = findN l t (l.length - i) }
  | false => none
noncomputable def g23 (l : List Buf) (t : Int) : Prop := fnVc (vP 21 (inv23 l t)) Try.f23 [rowB l, .int .i64 t] (.tup [.int .i64 (findB l t).1, .bool (findB l t).2])
noncomputable def g25 (N : Nat → Prop) (l : List Buf) (b : Buf) : Prop := fnVc (vN N 24 fun _ => none) Try.f25 [rowB l, vB b] (rowN N (putB l b))
noncomputable def g25F (N : Nat → Prop) (l : List Buf) (b : Buf) : Prop := fnVcF (vN N 24 fun _ => none) Try.f25 [rowB l, vB b] (.own 0 (putB l b).length) [.row 24 bufSh (putB l b).length fun i => encN N ((putB l b).getD i default)]
noncomputable def g27P (l : List Buf) : Prop := fnVc (vP 22 (inv27 encB l)) Try.f27 [rowB l] (rowB l)
noncomputable def g27PF (l : List Buf) : Prop := fnVcF (vP 22 (inv27 encB l)) Try.f27 [rowB l] (.own 0 l.length) [.row 24 bufSh l.length fun i => encB (l.getD i default)]
noncomputable def g25P (l : List Buf) (b : Buf) : Prop := fnVc (vP 24 fun _ => none) Try.f25 [rowB l, vB b] (rowB (putB l b))
noncomputable def g26 (l : List Buf) (b : Buf) : Prop := fnVc (vP 24 fun _ => none) Try.f26 [rowB l, vB b] (rowB (putB l b))
def inv21 (l : List Buf) (k : Nat) : Option Inv := match Nat.beq k 4 with
  | true => some { ι := Nat, S := fun i => ⟨[(8, rowB l), (9, .int .i64 l.length), (10, .int .i64 i)], []⟩, μ := fun i => l.length - i, ok := fun i => i ≤ l.length ∧ ∀ j, j < i → (l.getD j default).entries.length ≤ 60 }
  | false => none
noncomputable def g21 (l : List Buf) : Prop := fnVc (vP 19 (inv21 l)) Try.f21 [rowB l] (.bool (fewB l))
def spE : FuncId → List AV → Option AV
  | 37, [x, y] => some (.bool (decide (decRow x = decRow y)))
  | 36, [.mc _ (.agg [.int _ t, .int _ f, r]), .mc _ (.agg [.int _ t', .int _ f', r'])] => some (.bool (decide ((⟨t, f, decRow r⟩ : Buf) = ⟨t', f', decRow r'⟩)))
  | 35, [x, y, _] => some (.bool (decide (decBs x = decBs y)))
  | _, _ => none
noncomputable def vE' (n : Nat) (inv : Nat → Option Inv) : VCtx := { C := cfgN [] false encB n, CC := Known Try.prog [], orc := fun _ _ => spE, inv := inv }
def inv37 (a b : List Entry) (k : Nat) : Option Inv := match Nat.beq k 4 with
  | true => some { ι := Nat, S := fun i => ⟨[(0, rowE a), (1, rowE b), (12, .int .i64 a.length), (13, .int .i64 i)], []⟩, μ := fun i => a.length - i, ok := fun i => i ≤ a.length ∧ a.length = b.length ∧ ∀ j, j < i → a.getD j default = b.getD j default }
  | false => none
noncomputable def g37 (a b : List Entry) : Prop := fnVc (vE' 26 (inv37 a b)) Try.f37 [rowE a, rowE b] (.bool (decide (a = b)))
noncomputable def g36 (a b : Buf) : Prop := fnVc (vE' 24 fun _ => none) Try.f36 [vB a, vB b] (.bool (decide (a = b)))
def inv35 (a b : List Buf) (k : Nat) : Option Inv := match Nat.beq k 4 with
  | true => some { ι := Nat, S := fun i => ⟨[(1, rowB b), (2, .clo 36 []), (15, rowB a), (16, .int .i64 a.length), (17, .int .i64 i)], []⟩, μ := fun i => a.length - i, ok := fun i => i ≤ a.length ∧ a.length = b.length ∧ ∀ j, j < i → a.getD j default = b.getD j default }
  | false => none
noncomputable def g35 (a b : List Buf) : Prop := fnVc (vE' 32 (inv35 a b)) Try.f35 [rowB a, rowB b, .clo 36 []] (.bool (decide (a = b)))
noncomputable def g30 (a b : List Buf) : Prop := fnVc (vE' 8 fun _ => none) Try.f30 [rowB a, rowB b] (.bool (decide (a = b)))
structure V7 where
  q : Bool
  q' : Bool
  i : Int
  is : Bool
  p : List Buf
  eq : Bool
def orc7 (l : List Buf) (b : Buf) (v : V7) : Nat → Nat → FuncId → List AV → Option AV
  | 1, 1, 21, _ => some (.bool v.q)
  | 1, _, 21, _ => some (.bool v.q')
  | _, _, 22, _ | _, _, 23, _ => some (.tup [.int .i64 v.i, .bool v.is])
  | 5, _, 25, _ | 5, _, 26, _ => some (rowB v.p)
  | 5, _, 24, _ => some (.bool true)
  | 5, _, 27, _ => some (rowB l)
  | 7, _, 28, _ => some (rowB l)
  | 8, _, 28, _ => some (rowB [b])
  | 11, _, 24, _ => some (.bool true)
  | 13, 2, 30, _ | 13, _, 24, _ => some (.bool v.eq)
  | 13, _, 30, _ => some (.bool true)
  | _, _, 8, _ => some (.bool true)
  | _, _, _, _ => none
noncomputable def g7 (l : List Buf) (b : Buf) (o : List Buf) (v : V7) : Prop := fnVc { vP 105 (fun _ => none) with orc := orc7 l b v } Try.f7 [rowB l, vB b, rowB o] (.bool true)
end Go.Proofs.S24
