import Derived.Test.YtgcpdfihjmmggaaGreatDoorXx
namespace Go.Proofs.S25
open Go Go.AV
open Go.IntKind renaming i64 -> j6
open Go.AV.Shape (leaf)
noncomputable section
def scS (s : SState) : SState := { s with bufs := [] }
def effM (m : Mem) (t : Thr) (i : Inst) (e : Ev) : Mem × Int × Int :=
  if e.kind = 5 then ((zy m e.obj e.wrote).1, if i.op = 12 then 1 else e.read, (zy m e.obj e.wrote).2)
  else if e.kind = 2 then ((zy m e.obj e.wrote).1, 0, (zy m e.obj e.wrote).2)
  else if e.kind = 1 ∨ e.kind = 8 then (m, e.read, 0)
  else if e.kind = 11 then (if e.read = 0 then (m, 0, 0) else ((ownM m e.obj t.id (-1) t.id).1, 1, (ownM m e.obj t.id (-1) t.id).2))
  else if e.kind = 9 then ((ownM m e.obj t.id (-1) t.id).1, 0, (ownM m e.obj t.id (-1) t.id).2)
  else if e.kind = 10 then ((ownM m e.obj t.id t.id (-1)).1, 0, (ownM m e.obj t.id t.id (-1)).2)
  else if e.kind = 12 then (if (ownM m e.mutex t.id t.id (-1)).2 = 0 then ((enqM (ownM m e.mutex t.id t.id (-1)).1 e.obj t.id).1, 0, (enqM (ownM m e.mutex t.id t.id (-1)).1 e.obj t.id).2) else ((ownM m e.mutex t.id t.id (-1)).1, 0, (ownM m e.mutex t.id t.id (-1)).2))
  else if e.kind = 13 then ((zo8 m t.id).1, 0, (zo8 m t.id).2)
  else if e.kind = 14 then ((z4y m e.obj 1).1, 0, (z4y m e.obj 1).2.2)
  else if e.kind = 15 then ((z4y m e.obj (zm2 m.queues)).1, 0, (z4y m e.obj (zm2 m.queues)).2.2)
  else if e.kind = 16 then (m, e.obj, 0)
  else (m, 0, 0)
def posT (l : List Thr) (id : Int) : Nat := (l.takeWhile fun t => decide (t.id < id)).length
def insT (l : List Thr) (c : Thr) (n : Nat) : List Thr := l.take n ++ (c :: l.drop n)
def zyl (p : PProg) (b : Int) (s : SState) (id fn arg : Int) : SState × Int :=
  if 0 <= fid s.thr id then (c0st, 30) else if (newT p b id fn arg).2 ≠ 0 then (c0st, 30) else ({ s with thr := insT s.thr (newT p b id fn arg).1 (posT s.thr id) }, 0)
def zoo (p : PProg) (b : Int) (s : SState) (a : Int) : SState × Ev × Int :=
  if stdE p b ≠ 0 then (c0st, c0ev, stdE p b) else if valS p b s = false then (c0st, c0ev, 1)
  else if (runS p s a).2.2 = false ∨ z4z s (runS p s a).1 (runS p s a).2.1 = false then (c0st, c0ev, 19)
  else
    let t := (runS p s a).1
    let i := (runS p s a).2.1
    let e := labE s t i
    let f := effM s.mem t i e
    if f.2.2 ≠ 0 then (c0st, c0ev, 30) else
    let o : SState × Int := if e.kind = 16 then zyl p b { s with mem := f.1 } e.obj i.obj (regD t i.b) else ({ s with mem := f.1 }, 0)
    if o.2 ≠ 0 then (c0st, c0ev, o.2) else
    if (z16 p b t f.2.1).2 ≠ 0 then (c0st, c0ev, (z16 p b t f.2.1).2) else
    ({ o.1 with thr := o.1.thr.set (fid o.1.thr a).toNat (z16 p b t f.2.1).1 }, e, 0)
def z4m (s : SState) (k : Nat) (v : Int) : Int × Int :=
  if (z3m (s.bufs.getD k c0b) v).2.2 then ((z3m (s.bufs.getD k c0b) v).1, (z3m (s.bufs.getD k c0b) v).2.1) else ((z31 s.mem v).1, -1)
def tLab (p : PProg) (s : SState) (k : Nat) : Ev × Bool :=
  let t := s.thr.getD k c0t
  let b := s.bufs.getD k c0b
  let i := zu p t
  if z3l p t = false then (c0ev, false)
  else if i.op = 8 ∨ i.op = 14 then (⟨t.id, t.steps, if i.op = 14 then 8 else 1, i.obj, -1, (z4m s k i.obj).2, i.ord, (z4m s k i.obj).1, 0⟩, true)
  else if i.op = 9 then (⟨t.id, t.steps, 3, i.obj, -1, b.first + b.entries.length, i.ord, 0, regD t i.b⟩, true)
  else labS p (scS s) t.id
def tFlu (s : SState) (k : Nat) : Ev × Bool :=
  let t := s.thr.getD k c0t
  let b := s.bufs.getD k c0b
  if b.entries.length = 0 then (c0ev, false) else (⟨fluE t.id, b.first, 4, (b.entries.getD 0 c0e).var, -1, b.first, 0, 0, (b.entries.getD 0 c0e).val⟩, true)
def tOn (p : PProg) (s : SState) (k : Nat) (on : List Int) : Bool :=
  let t := s.thr.getD k c0t
  let b := s.bufs.getD k c0b
  let i := zu p t
  if z3l p t = false then false else if i.op = 8 ∨ i.op = 9 then true
  else if i.op = 14 then (app i.fn (z4m s k i.obj).1 (regD t i.b)).2 == 0 && (app i.fn (z4m s k i.obj).1 (regD t i.b)).1 != 0
  else if (z6d i.op && decide (0 < b.entries.length)) || !hasI on t.id then false
  else if i.op = 22 then decide (0 <= fib s.bufs (regD t i.b)) && (s.bufs.getD (fib s.bufs (regD t i.b)).toNat c0b).entries.length == 0
  else true
def fluR (l : List Buf) (n : Nat) : List Int := (((l.drop n).filter fun b => decide (0 < b.entries.length)).map fun b => fluE b.thread).reverse
def onTR (p : PProg) (s : SState) (n : Nat) : List Int := ((List.range n).filter fun k => tOn p s k (onS p (scS s))).map fun k => (s.thr.getD k c0t).id
def agsT (p : PProg) (s : SState) : List Int := fluR s.bufs 0 ++ onTR p s s.thr.length
def zgu (p : PProg) (t : Thr) (b : Buf) : Bool := vldB b && (b.thread == t.id && b.entries.all fun e => decide (e.var < p.vars.length))
def z4a (p : PProg) (b : Int) (s : SState) : Bool := z2c p s.mem && (s.bufs.length == s.thr.length && (zof p b s.thr && (List.range s.thr.length).all fun j => zgu p (s.thr.getD j c0t) (s.bufs.getD j c0b)))
def enTs (p : PProg) (s : SState) : List Int := if z4a p 32 s then agsT p s else []
def zh (p : PProg) (s : SState) (a : Int) : Ev × Bool :=
  if fid s.thr (thrE a) < 0 then (c0ev, false) else if a < 0 then tFlu s (fid s.thr (thrE a)).toNat else tLab p s (fid s.thr (thrE a)).toNat
def z2w (p : PProg) (s : SState) (a : Int) : Ev × Bool := if z4a p 32 s = false then (c0ev, false) else zh p s a
def z1p (p : PProg) (b : Int) (s : SState) (k : Nat) (e : Ev) : SState × Int :=
  let t := s.thr.getD k c0t
  let u := s.bufs.getD k c0b
  if e.kind = 4 then
    if (popB u).2.2.2 ≠ 0 then (c0st, 30) else if (zy s.mem e.obj e.wrote).2 ≠ 0 then (c0st, 30)
    else ({ s with bufs := s.bufs.set k (popB u).1, mem := (zy s.mem e.obj e.wrote).1 }, 0)
  else if e.kind = 3 then
    if (z1v u e.obj e.wrote).2.2 ≠ 0 then (c0st, 30) else if (z16 p b t e.read).2 ≠ 0 then (c0st, 30)
    else ({ s with bufs := s.bufs.set k (z1v u e.obj e.wrote).1, thr := s.thr.set k (z16 p b t e.read).1 }, 0)
  else if (z16 p b t e.read).2 ≠ 0 then (c0st, 30) else ({ s with thr := s.thr.set k (z16 p b t e.read).1 }, 0)
def z48 (p : PProg) (b : Int) (s : SState) (a : Int) : SState × Ev × Int :=
  if (zoo p b (scS s) a).2.2 ≠ 0 then (c0st, c0ev, (zoo p b (scS s) a).2.2) else (zdu (zoo p b (scS s) a).1 s.bufs, (zoo p b (scS s) a).2.1, 0)
def ownK (e : Ev) : Bool := e.kind == 1 || (e.kind == 8 || (e.kind == 3 || e.kind == 4))
def z14 (p : PProg) (b : Int) (s : SState) (a : Int) : SState × Ev × Int :=
  if (zb p).1 ≠ 0 then (c0st, c0ev, (zb p).1) else if b < 1 ∨ 32 < b then (c0st, c0ev, 2) else if z4a p b s = false then (c0st, c0ev, 1)
  else if hasI (agsT p s) a = false then (c0st, c0ev, 19)
  else if ownK (zh p s a).1 then
    (if (z1p p b s (fid s.thr (thrE a)).toNat (zh p s a).1).2 ≠ 0 then (c0st, c0ev, (z1p p b s (fid s.thr (thrE a)).toNat (zh p s a).1).2) else ((z1p p b s (fid s.thr (thrE a)).toNat (zh p s a).1).1, (zh p s a).1, 0))
  else z48 p b s a
def plSh : Shape := .agg [stSh, .leaf]
def zym (s : SState) (k : Int) : AV := .agg [z15 s, .int .i64 k]
def vTP (s : SState) (k : Int) : AV := .mc plSh (zym s k)
def oTo (p : PProg) (s : SState) (k : Nat) (e : Ev) : FuncId -> List AV -> Option AV
  | 117, [_] => some (vStn s)
  | 125, [_] => some (.tup [vT (s.thr.getD k c0t), vB (s.bufs.getD k c0b)])
  | 179, [_, .int _ v] => some (.tup [.int .i64 (z4m s k v).1, .int .i64 (z4m s k v).2])
  | 177, [_, _] => some (.tup [vI (zu p (s.thr.getD k c0t)), .bool (z3l p (s.thr.getD k c0t))])
  | 184, [_, _, .int _ a] => some (.tup [vEv (labS p (scS s) a).1, .bool (labS p (scS s) a).2])
  | 116, [_, _] => some (rowI (onS p (scS s)))
  | 113, [_, .int _ b, .mc _ t] => some (.bool (z9n p b (dT t)))
  | 112, [_, _] => some (.bool (z2c p s.mem))
  | 111, [_] => some (.bool ((zb p).1 == 0))
  | 51, [_] => some (.tup [.int .i64 (zb p).1, .int .i64 (zb p).2.1, .int .i64 (zb p).2.2])
  | 229, [_, .int _ x] => some (.tup [.int .i64 (z3m (s.bufs.getD k c0b) x).1, .int .i64 (z3m (s.bufs.getD k c0b) x).2.1, .bool (z3m (s.bufs.getD k c0b) x).2.2])
  | 227, [_, .int _ x] => some (.tup [.int .i64 (z31 s.mem x).1, .int .i64 (z31 s.mem x).2])
  | 127, [_, .int _ x, .int _ v] => some (.tup [vM (zy s.mem x v).1, .int .i64 (zy s.mem x v).2])
  | 126, [_] => some (.tup [vB (popB (s.bufs.getD k c0b)).1, vEn (popB (s.bufs.getD k c0b)).2.1, .int .i64 (popB (s.bufs.getD k c0b)).2.2.1, .int .i64 (popB (s.bufs.getD k c0b)).2.2.2])
  | 128, [_, .int _ x, .int _ v] => some (.tup [vB (z1v (s.bufs.getD k c0b) x v).1, .int .i64 (z1v (s.bufs.getD k c0b) x v).2.1, .int .i64 (z1v (s.bufs.getD k c0b) x v).2.2])
  | 129, [_, .int _ b, _, .int _ r] => some (.tup [vT (z16 p b (s.thr.getD k c0t) r).1, .int .i64 (z16 p b (s.thr.getD k c0t) r).2])
  | 132, [_, .int _ t] => some (.tup [.int .i64 (max (fib s.bufs t) 0), .bool (decide (0 <= fib s.bufs t))])
  | 120, [_, .int _ t] => some (.tup [.int .i64 (max (fid s.thr t) 0), .bool (decide (0 <= fid s.thr t))])
  | 52, [_, .int _ b, _] => some (.bool (z4a p b s))
  | 123, [_, _] => some (.tup [vEv (tLab p s k).1, .bool (tLab p s k).2])
  | 122, [_] => some (.tup [vEv (tFlu s k).1, .bool (tFlu s k).2])
  | 119, [.mc _ (.agg [_, .int _ k]), _, _] => some (.bool (tOn p s k.toNat (onS p (scS s))))
  | 54, [_, _] => some (rowI (agsT p s))
  | 22, [_, _] => some (rowI (enTs p s))
  | 55, [_, .int _ a] => some (.tup [vTP s (max (fid s.thr (thrE a)) 0), .bool (decide (0 <= fid s.thr (thrE a)))])
  | 56, [_, _, .int _ a] => some (.tup [vEv (zh p s a).1, .bool (zh p s a).2])
  | 26, [_, _, .int _ a] => some (.tup [vEv (z2w p s a).1, .bool (z2w p s a).2])
  | 57, [_, _, .int _ b, _] => some (.tup [vSt (z1p p b s k e).1, .int .i64 (z1p p b s k e).2])
  | 58, [_, _, .int _ b, .int _ a] => some (.tup [vSt (z48 p b s a).1, vEv (z48 p b s a).2.1, .int .i64 (z48 p b s a).2.2])
  | 21, [_, .int _ b, _, .int _ a] => some (.tup [vSt (z14 p b s a).1, vEv (z14 p b s a).2.1, .int .i64 (z14 p b s a).2.2])
  | 124, [_] => some (zmp s)
  | f, l => spB4 f l
def frTo (s : SState) : FuncId -> List AV -> Option (List BoxC)
  | 124, [_] => some (zgt s)
  | f, l => frM f l
noncomputable def zyn (s : SState) (n : Nat) : Cfg := { cfgM n fun _ _ => false with fresh := frTo s }
theorem z21 (s : SState) (n : Nat) : z12 (zyn s n) := z74 (by kernel_rfl)
noncomputable def vTo (p : PProg) (s : SState) (k : Nat) (e : Ev) (n : Nat) (inv : Nat -> Option Inv) : VCtx := { C := zyn s n, CC := Known Tryz.prog GG, orc := fun _ _ => oTo p s k e, inv := inv }
abbrev zyo (s : SState) (k : Int) : BoxC := .cell 102 plSh (zym s k)
def InS (s : SState) (k : Nat) : Prop := k < s.thr.length /\ k < s.bufs.length
noncomputable def gTsc (s : SState) (k : Int) : Prop := fnVc (vTo c0p s k.toNat c0ev 10 fun _ => none) Tryz.f117 [vTP s k] (vStn s)
noncomputable def zyp (s : SState) (k : Nat) : Prop := fnVc (vTo c0p s k c0ev 18 fun _ => none) Tryz.f125 [vTP s k] (.tup [vT (s.thr.getD k c0t), vB (s.bufs.getD k c0b)])
noncomputable def zqu (s : SState) (k : Nat) (v : Int) : Prop := fnVc (vTo c0p s k c0ev 37 fun _ => none) Tryz.f179 [vTP s k, .int .i64 v] (.tup [.int .i64 (z4m s k v).1, .int .i64 (z4m s k v).2])
def zyq (p : PProg) (b : Int) (s : SState) (k : Nat) : Option Inv := match Nat.beq k 4 with
  | true => some { ι := Nat, S := fun i => ⟨[(1, .int .i64 b), (3, .ptr 3 []), (5, .ptr 5 []), (32, rowT s.thr), (33, .int .i64 s.thr.length), (34, .int .i64 i)], [(3, z6j p), (5, z3z s)]⟩, μ := fun i => s.thr.length - i, ok := fun i => i <= s.thr.length /\ z2c p s.mem = true /\ s.bufs.length = s.thr.length /\ ∀ j, j < i -> z93 p b s.thr j /\ zgu p (s.thr.getD j c0t) (s.bufs.getD j c0b) = true }
  | false => none
def zqv (p : PProg) (b : Int) (s : SState) (k : Nat) : Option InvP := match Nat.beq k 10 with
  | true => some { π := Nat, I := fun k => { ι := Nat, S := fun i => ⟨[(1, .int .i64 b), (3, .ptr 3 []), (5, .ptr 5 []), (32, rowT s.thr), (33, .int .i64 s.thr.length), (34, .int .i64 k), (78, rowE (s.bufs.getD k c0b).entries), (79, .int .i64 (s.bufs.getD k c0b).entries.length), (80, .int .i64 i)], [(3, z6j p), (5, z3z s)]⟩, μ := fun i => (s.bufs.getD k c0b).entries.length - i, ok := fun i => i <= (s.bufs.getD k c0b).entries.length /\ k < s.thr.length /\ z2c p s.mem = true /\ s.bufs.length = s.thr.length /\ (∀ j, j < k -> z93 p b s.thr j /\ zgu p (s.thr.getD j c0t) (s.bufs.getD j c0b) = true) /\ z93 p b s.thr k /\ vldB (s.bufs.getD k c0b) = true /\ (s.bufs.getD k c0b).thread = (s.thr.getD k c0t).id /\ ∀ j, j < i -> ((s.bufs.getD k c0b).entries.getD j c0e).var < p.vars.length } }
  | false => none
noncomputable def zyr (p : PProg) (b : Int) (s : SState) : Prop := fnVc { vTo p s 0 c0ev 92 (zyq p b s) with invP := zqv p b s } Tryz.f52 [vP p, .int .i64 b, vSt s] (.bool (z4a p b s))
noncomputable def zys (p : PProg) (s : SState) (k : Nat) : Prop := fnVc (vTo p s k c0ev 79 fun _ => none) Tryz.f123 [vTP s k, vP p] (.tup [vEv (tLab p s k).1, .bool (tLab p s k).2])
noncomputable def zyt (s : SState) (k : Nat) : Prop := fnVc (vTo c0p s k c0ev 34 fun _ => none) Tryz.f122 [vTP s k] (.tup [vEv (tFlu s k).1, .bool (tFlu s k).2])
noncomputable def gTon (p : PProg) (s : SState) (k : Nat) (on : List Int) : Prop := fnVc (vTo p s k c0ev 112 fun _ => none) Tryz.f119 [vTP s k, vP p, rowI on] (.bool (tOn p s k on))
def agL (p : PProg) (s : SState) (i : Nat) : List Int := fluR s.bufs 0 ++ onTR p s i
def zyu (p : PProg) (s : SState) (k : Nat) : Option Inv := match Nat.beq k 4 with
  | true => some { ι := Nat, S := fun i => ⟨[(2, .ptr 2 []), (3, .ptr 3 []), (5, rowI (onS p (scS s))), (6, .own 40 (fluR s.bufs i).length), (7, .int .i64 ((i : Int) - 1))], [(2, z6j p), (3, z3z s), (40, iBox (fluR s.bufs i))]⟩, μ := fun i => i, ok := fun i => i <= s.bufs.length }
  | false => match Nat.beq k 9 with
    | true => some { ι := Nat, S := fun i => ⟨[(2, .ptr 2 []), (3, .ptr 3 []), (5, rowI (onS p (scS s))), (6, .own 40 (agL p s i).length), (42, rowT s.thr), (43, .int .i64 s.thr.length), (44, .int .i64 i)], [(2, z6j p), (3, z3z s), (40, iBox (agL p s i))]⟩, μ := fun i => s.thr.length - i, ok := fun i => i <= s.thr.length }
    | false => none
noncomputable def gTag (p : PProg) (s : SState) : Prop := fnVc (vTo p s 0 c0ev 62 (zyu p s)) Tryz.f54 [vP p, vSt s] (rowI (agsT p s))
noncomputable def gTen (p : PProg) (s : SState) : Prop := fnVc (vTo p s 0 c0ev 12 fun _ => none) Tryz.f22 [vP p, vSt s] (rowI (enTs p s))
noncomputable def zyv (s : SState) (a : Int) : Prop := fnVc (vTo c0p s 0 c0ev 20 fun _ => none) Tryz.f55 [vSt s, .int .i64 a] (.tup [vTP s (max (fid s.thr (thrE a)) 0), .bool (decide (0 <= fid s.thr (thrE a)))])
noncomputable def zqw (p : PProg) (s : SState) (a : Int) : Prop := fnVc (vTo p s (fid s.thr (thrE a)).toNat c0ev 30 fun _ => none) Tryz.f56 [vP p, vSt s, .int .i64 a] (.tup [vEv (zh p s a).1, .bool (zh p s a).2])
noncomputable def zmq (p : PProg) (s : SState) (a : Int) : Prop := fnVc (vTo p s 0 c0ev 19 fun _ => none) Tryz.f26 [vP p, vSt s, .int .i64 a] (.tup [vEv (z2w p s a).1, .bool (z2w p s a).2])
noncomputable def zyw (p : PProg) (b : Int) (s : SState) (k : Nat) (e : Ev) : Prop := fnVc (vTo p s k e 107 fun _ => none) Tryz.f57 [vTP s k, vP p, .int .i64 b, vEv e] (.tup [vSt (z1p p b s k e).1, .int .i64 (z1p p b s k e).2])
def zyx (p : PProg) (b : Int) (s : SState) (a : Int) (k : Nat) : Option Inv := match Nat.beq k 17 with
  | true => some { ι := Bool, S := fun q => ⟨[(1, .int .i64 b), (3, .int .i64 a), (4, .ptr 4 []), (8, .ptr 8 []), (9, .ptr 9 []), (14, .ptr 14 []), (16, .ptr 16 []), (69, .bool q)], [(4, z6j p), (8, z3z c0st), (9, zx3 c0ev), (14, zyo s (max (fid s.thr (thrE a)) 0)), (16, zx3 (zh p s a).1)]⟩, μ := fun _ => 0, ok := fun q => ((zb p).1 = 0 /\ (1 <= b /\ b <= 32) /\ z4a p b s = true /\ hasI (agsT p s) a = true) /\ q = ownK (zh p s a).1 }
  | false => none
noncomputable def zqx (p : PProg) (b : Int) (s : SState) (a : Int) : Prop := fnVc { vTo p s (fid s.thr (thrE a)).toNat (zh p s a).1 97 (fun _ => none) with cut := zyx p b s a } Tryz.f21 [vP p, .int .i64 b, vSt s, .int .i64 a] (.tup [vSt (z14 p b s a).1, vEv (z14 p b s a).2.1, .int .i64 (z14 p b s a).2.2])
end
end Go.Proofs.S25
