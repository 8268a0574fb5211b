/- Layer 52: reports: data, and what its functions answer. -/
import Derived.Test.YtdbeklchoojpnaaDoorP52d
namespace Go.Proofs.S52
open Go Go.AV Go.Proofs.Dec

structure Cex where
  bug : Int
  sch : List Int
  deriving Inhabited, DecidableEq
structure Rp where
  t : Int
  b : Int
  u : Int
  o : Int
  bugs : List Cex
  deriving Inhabited, DecidableEq
def t0 : Tok := ⟨0, [], 0, 0⟩
def c0 : Cex := ⟨0, []⟩
def r0 : Rp := ⟨0, 0, 0, 0, []⟩
def rowI (l : List Int) : AV := .seq .leaf l.length fun i => .int .i64 (l.getD i 0)
def rowS (l : List (List UInt8)) : AV := .seq .leaf l.length fun i => .str (l.getD i [])
def encC (c : Cex) : AV := .agg [.int .i64 c.bug, rowI c.sch]
def rowC (l : List Cex) : AV := .seq cexSh l.length fun i => encC (l.getD i c0)
def encR (r : Rp) : AV := .agg [.int .i64 r.t, .int .i64 r.b, .int .i64 r.u, .int .i64 r.o, rowC r.bugs]
def decI : AV → Int
  | .int _ n => n
  | _ => 0
def decS : AV → List UInt8
  | .str l => l
  | _ => []
def decL : AV → List Int
  | .seq _ n f => (List.range n).map fun i => decI (f i)
  | _ => []
def decSs : AV → List (List UInt8)
  | .seq _ n f => (List.range n).map fun i => decS (f i)
  | _ => []
def decC : AV → Cex
  | .agg [.int _ b, x] => ⟨b, decL x⟩
  | _ => c0
def decCs : AV → List Cex
  | .seq _ n f => (List.range n).map fun i => decC (f i)
  | _ => []
def decRp : AV → Rp
  | .agg [.int _ a, .int _ b, .int _ c, .int _ d, x] => ⟨a, b, c, d, decCs x⟩
  | _ => r0
@[simp] theorem decL_row (l : List Int) : decL (rowI l) = l := map_getD l _
@[simp] theorem decSs_row (l : List (List UInt8)) : decSs (rowS l) = l := map_getD l _
@[simp] theorem decC_enc (c : Cex) : decC (encC c) = c := by
  show Cex.mk c.bug (decL (rowI c.sch)) = c
  rw [decL_row]
@[simp] theorem decCs_row (l : List Cex) : decCs (rowC l) = l := by
  show (List.range l.length).map (fun i => decC (encC (l.getD i c0))) = l
  simp only [decC_enc]
  exact map_getD l _
@[simp] theorem decRp_enc (r : Rp) : decRp (encR r) = r := by
  show Rp.mk r.t r.b r.u r.o (decCs (rowC r.bugs)) = r
  rw [decCs_row]

/-- The name of a kind of bug; the kind with a name. -/
def nm (b : Int) : List UInt8 := if b = 1 then [97, 115, 115, 101, 114, 116] else if b = 2 then [100, 101, 97, 100, 108, 111, 99, 107] else if b = 3 then [108, 111, 115, 116] else if b = 4 then [114, 97, 99, 101] else []
def codeB (s : List UInt8) : Int := if s = nm 1 then 1 else if s = nm 2 then 2 else if s = nm 3 then 3 else if s = nm 4 then 4 else 0
def tokOnly (t : Tok) : Tok := { t with pos := 0 }
def alike (a b : List Tok) : Bool := a.map tokOnly == b.map tokOnly
def okN (n : Int) : Bool := decide (0 ≤ n) && decide (n ≤ 2147483647)
def okV (n : Int) : Bool := decide (-2147483648 ≤ n) && decide (n ≤ 2147483647)
def prevB (l : List Cex) (i : Nat) : Int := if i = 0 then 0 else (l.getD (i - 1) c0).bug
def cexOK (last : Int) (c : Cex) : Bool := decide (last < c.bug) && decide (1 ≤ c.bug) && decide (c.bug ≤ 4) && decide (c.sch.length ≤ 512) && c.sch.all okV
def bugOK (l : List Cex) (i : Nat) : Bool := cexOK (prevB l i) (l.getD i c0)
def validR (r : Rp) : Bool := okN r.t && okN r.b && okN r.u && okN r.o && (List.range r.bugs.length).all (bugOK r.bugs)
def sched (l : List Int) : List UInt8 := [32].intercalate (l.map fmt)
def schTo (l : List Int) : Nat → List UInt8
  | 0 => []
  | i + 1 => schTo l i ++ (if 0 < i then [32] else []) ++ fmt (l.getD i 0)
def txHead (r : Rp) : List UInt8 := [116, 114, 97, 99, 101, 115, 32] ++ fmt r.t ++ [10, 98, 108, 111, 99, 107, 101, 100, 32] ++ fmt r.b ++ [10, 116, 114, 117, 110, 99, 97, 116, 101, 100, 32] ++ fmt r.u ++ [10, 111, 117, 116, 99, 111, 109, 101, 115, 32] ++ fmt r.o ++ [10]
def txLine (c : Cex) : List UInt8 := [98, 117, 103, 32] ++ nm c.bug ++ (if 0 < c.sch.length then [32] ++ sched c.sch else []) ++ [10]
def txTo (r : Rp) : Nat → List UInt8
  | 0 => txHead r
  | i + 1 => txTo r i ++ txLine (r.bugs.getD i c0)
def textR (r : Rp) : List UInt8 × Int := if validR r = true then if 16384 < (txTo r r.bugs.length).length then ([], 4) else (txTo r r.bugs.length, 0) else ([], 1)
def splitW : List UInt8 → List (List UInt8)
  | [] => [[]]
  | c :: l => if c = 32 then [] :: splitW l else match splitW l with
    | [] => [[c]]
    | x :: m => (c :: x) :: m
def pnums : List (List UInt8) → List Int → List Int × Int
  | [], out => (out, 0)
  | w :: l, out => if (parse w).2 = 0 then pnums l (out ++ [(parse w).1]) else ([], (parse w).2)
def psch (s : List UInt8) : List Int × Int := if s = [] then ([], 0) else if 512 < (splitW s).length then ([], 4) else pnums (splitW s) []
def fewR (r : Rp) : Bool := decide (r.bugs.length ≤ 10) && r.bugs.all fun c => !(decide (30 < c.sch.length) && decide (c.sch.length ≤ 512))
def in64 (n : Int) : Prop := -9223372036854775808 ≤ n ∧ n ≤ 9223372036854775807

def spR : FuncId → List AV → Option AV
  | 26, [.int _ b] | 24, [.int _ b] => some (.str (nm b))
  | 19, [x, y] | 34, [x, y] => some (.bool (decL x == decL y))
  | 23, [x, y] => some (.bool (alike (decR x) (decR y)))
  | 12, [.mc _ x] | 13, [.mc _ x] => some (.bool (validR (decRp x)))
  | 20, [x] | 21, [x] => some (.str (sched (decL x)))
  | 17, [.str s] | 18, [.str s] => some (.tup [rowI (psch s).1, .int .i64 (psch s).2])
  | 10, [.mc _ x] | 11, [.mc _ x] => some (.tup [.str (textR (decRp x)).1, .int .i64 (textR (decRp x)).2])
  | 16, [.mc _ x, .mc _ y] => some (.bool (decRp x == decRp y))
  | 49, [.str s] => some (.tup [.int .i64 (codeB s), .bool (codeB s != 0)])
  | 8, [.mc _ x] => some (.bool (fewR (decRp x)))
  | 9, [] => some (.bool true)
  | 38, [x, .str s] => some (.str (s.intercalate (decSs x)))
  | 35, [.str s, .str _] => some (rowS (splitW s))
  | f, l => spF f l
noncomputable def cfgG (G : List (Nat × AV)) (n : Nat) : Cfg := { cfgD n with G := G }
theorem cfgG_ok (G : List (Nat × AV)) (n : Nat) : TysOK (cfgG G n) := tys_ok (C := cfgG G n) (by kernel_rfl)
noncomputable def vr (n : Nat) (inv : Nat → Option Inv) : VCtx := { C := cfgD n, CC := Known Tryd.prog [], orc := fun _ _ => spR, inv := inv }
noncomputable def vg (G : List (Nat × AV)) (n : Nat) (inv : Nat → Option Inv) : VCtx := { C := cfgG G n, CC := Known Tryd.prog G, orc := fun _ _ => spR, inv := inv }
end Go.Proofs.S52
