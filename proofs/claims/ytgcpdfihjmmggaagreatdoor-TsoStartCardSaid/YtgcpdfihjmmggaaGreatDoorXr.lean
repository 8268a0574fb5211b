import Derived.Test.YtgcpdfihjmmggaaGreatDoorXq
namespace Go.Proofs.S25
open Go Go.AV
open Go.IntKind renaming i64 -> j6
open Go.AV.Shape (leaf)
noncomputable section
open Go.IntKind renaming i64 -> j6
open Go.AV.Shape (leaf)
noncomputable section
theorem tq {n : Int} (h : 0 <= n) : n.tdiv 8 = n / 8 := Int.tdiv_eq_ediv_of_nonneg h
theorem tr {n : Int} (h : 0 <= n) : n.tmod 8 = n % 8 := Int.tmod_eq_emod_of_nonneg h
def bdI : Nat -> Int
  | 0 => 0
  | k + 1 => 8 * bdI k + 16
theorem zlf : ∀ (k : Nat) (id : Int), 0 <= id -> 0 <= depR id k -> id <= bdI k /\ 0 <= bdI k
  | 0, id, _, h => absurd (show (0 : Int) <= -1 from h) (by decide)
  | k + 1, id, h0, h => by
    have hb : ∀ k, 0 <= bdI k := by
      intro k
      induction k with
      | zero => exact Int.le_refl _
      | succ k ih => simp only [bdI]; omega
    have := hb k
    simp only [depR] at h
    simp only [bdI]
    split at h
    . omega
    . split at h
      . omega
      . rename_i h1 h2
        rw [tq h0] at h
        have := (zlf k (id / 8 - 1) (by omega) h).1
        omega
theorem zdm {id : Int} (h : 0 <= depI id) : 0 <= id /\ id <= 74896 := by
  unfold depI at h
  split at h
  . omega
  . have := (zlf 5 id (by omega) h).1
    exact ⟨by omega, by simpa [bdI] using this⟩
section
variable (n:Int)
def qt1:Int:=n.tdiv (8:Int) - (1:Int)
end
theorem zvs (n:Int):zpv n=((8:Int)≠(0:Int)/\InR j6 (n.tdiv (8:Int))/\InR j6 (qt1 n)/\(8:Int)≠(0:Int)/\InR j6 (n.tmod (8:Int))/\RI (qt1 n)/\RI (n.tmod (8:Int))/\True):=by kernel_rfl
theorem zvt (n : Int) (h0 : 0 <= n) (h1 : n <= 9223372036854775807) : Known Tryz.prog GG 201 [.int .i64 n] (.tup [.int .i64 (n.tdiv 8 - 1), .int .i64 (n.tmod 8)])  := by
  refine Known.of (V := vT2 9 fun _ => none) (fn := Tryz.f201) Tryz.func201 (by kernel_rfl) (zn _) rfl ?_
  show zpv n
  rw [zvs]; try delta qt1
  simp only [SB]
  rw [tq h0, tr h0]
  exact ⟨by decide, zg (by omega) (by omega), zg (by omega) (by omega), by decide, zg (by omega) (by omega)⟩
section
variable (n:Int)
def qfk:=RR j6/\-1=depI n
def qt2:=decide (n < 0)
variable (x0:Nat × Int)
def q18:Nat:=5 - x0.fst
variable (x1:Nat × Int)
def qfl:=x1.fst<=5/\0<=x1.snd/\x1.snd<=9223372036854775807/\depI n=depR x1.snd (q18 x1)
def q6q:=decide (x0.snd < 8)
def q2j:Int:=x0.snd.tdiv (8:Int) - (1:Int)
def q6r:=decide ((7:Int)<=x0.snd.tmod (8:Int))
def q2k:Int:=↑x0.fst + 1
def qt3:=decide (↑x0.fst < (5:Int))
end
theorem eDep (n:Int):gDep n=((qt2 n=true->qfk n)/\(qt2 n=false->(∃ i,qfl n i/\((RR j6/\n=i.snd)/\(RR j6/\(0:Int)=↑i.fst)/\True)/\True)/\∀ i:Nat × Int,qfl n i->(qt3 i=true->(q6q i=true->RR j6/\↑i.fst=depI n)/\(q6q i=false->KN 201 [AV.int j6 i.snd] (AV.tup [AV.int j6 (q2j i),AV.int j6 (i.snd.tmod (8:Int))])/\(q6r i=true->qfk n)/\(q6r i=false->InR j6 (q2k i)/\(∃ j,qfl n j/\q18 j < q18 i/\((RR j6/\q2j i=j.snd)/\(RR j6/\q2k i=↑j.fst)/\True)/\True))))/\(qt3 i=false->qfk n))):=by kernel_rfl
theorem kDep (n : Int) (h1 : n <= 9223372036854775807) : Known Tryz.prog GG 137 [.int .i64 n] (.int .i64 (depI n))  := by
  refine Known.of (V := vT2 23 (zpw n)) (fn := Tryz.f137) Tryz.func137 (by kernel_rfl) (zn _) rfl ?_
  show gDep n
  rw [eDep]; try delta qfk qt2 q18 qfl q6q q2j q6r q2k qt3
  simp only [SB]
  refine ⟨fun h => ?_, fun h => ⟨⟨(0, n), ⟨by simp, by show 0 <= n; omega, h1, ?_⟩, rfl, rfl⟩, fun i hi => ⟨fun hlt => ⟨fun h8 => ?_, fun h8 => ⟨zvt _ hi.2.1 hi.2.2.1, fun h7 => ?_, fun h7 => ⟨zg (by omega) (by omega), (i.1 + 1, i.2.tdiv 8 - 1), ⟨by show i.1 + 1 <= 5; omega, ?_, ?_, ?_⟩, by show 5 - (i.1 + 1) < 5 - i.1; omega, rfl, rfl⟩⟩⟩, fun hge => ?_⟩⟩⟩
  . unfold depI; rw [if_pos h]
  . unfold depI; rw [if_neg h]; rfl
  all_goals obtain ⟨a1, a2, a3, a4⟩ := hi
  . obtain ⟨k, hk⟩ : ∃ k, 5 - i.1 = k + 1 := ⟨5 - i.1 - 1, by omega⟩
    rw [a4, hk, depR, if_pos h8]; omega
  . obtain ⟨k, hk⟩ : ∃ k, 5 - i.1 = k + 1 := ⟨5 - i.1 - 1, by omega⟩
    rw [a4, hk, depR, if_neg h8, if_pos h7]
  . show 0 <= i.2.tdiv 8 - 1; rw [tq a2]; omega
  . show i.2.tdiv 8 - 1 <= _; rw [tq a2]; omega
  . show depI n = depR (i.2.tdiv 8 - 1) (5 - (i.1 + 1))
    obtain ⟨k, hk⟩ : ∃ k, 5 - i.1 = k + 1 := ⟨5 - i.1 - 1, by omega⟩
    rw [a4, hk, depR, if_neg h8, if_neg h7, show 5 - (i.1 + 1) = k from by omega]
  . rw [a4, show 5 - i.1 = 0 from by omega]; rfl
section
variable (t:Thr)
def qag:=decide (depI t.id < 0)
def qfm:=(!qag t)=true
def q4s:=qfm t->qfm t
def qt4:=qag t||depI t.id == 4
def qt5:=(!qt4 t)=true
def qfn:=qt5 t->qt5 t
def qt6:=qt4 t||decide (t.kids < 0)
def qt7:=(!qt6 t)=true
def qfo:=qt7 t->qt7 t
def qt8:=qt6 t||decide (7<=t.kids)
def qah:Int:=t.id + 1
def qai:Int:=8 * qah t
def q6s:Int:=qai t + t.kids
end
theorem zvu (t:Thr):zpx t=(KN 137 [AV.int j6 t.id] (AV.int j6 (depI t.id))/\q4s t/\q4s t/\qfn t/\qfn t/\qfn t/\qfo t/\qfo t/\qfo t/\(qt8 t=true->(RR j6/\0=z3d t)/\false=chB2 t/\True)/\(qt8 t=false->InR j6 (qah t)/\InR j6 (qai t)/\InR j6 (q6s t)/\(RR j6/\q6s t=z3d t)/\true=chB2 t/\True)):=by kernel_rfl
theorem zq1 (t : Thr) (_ : t.regs.length = 8) (h1 : t.id <= 9223372036854775807) : Known Tryz.prog GG 235 [vT t] (.tup [.int .i64 (z3d t), .bool (chB2 t)])  := by
  refine Known.of (V := vT2 31 fun _ => none) (fn := Tryz.f235) Tryz.func235 (by kernel_rfl) (zn _) rfl ?_
  show zpx t
  rw [zvu]; try delta qag qfm q4s qt4 qt5 qfn qt6 qt7 qfo qt8 qah qai q6s
  simp only [SB]
  refine ⟨kDep _ h1, fun h => ?_, fun h => ?_⟩
  . have e : chB2 t = false := by unfold chB2; simp only [Bool.not_eq_false', Bool.or_eq_true, decide_eq_true_eq, beq_iff_eq]; exact h
    unfold z3d; rw [e]; exact ⟨rfl, rfl⟩
  . have e : chB2 t = true := by unfold chB2; simp only [Bool.not_eq_true', Bool.or_eq_false_iff, decide_eq_false_iff_not, beq_eq_false_iff_ne]; exact h
    have := zdm (id := t.id) (by omega)
    unfold z3d; rw [e]
    exact ⟨zg (by omega) (by omega), zg (by omega) (by omega), zg (by omega) (by omega), rfl, rfl⟩
theorem zvv (t:Thr) (id:Int):zpy t id=(RR (t.id == id)):=by kernel_rfl
theorem zvw (t : Thr) (id : Int)  : Known Tryz.prog GG 183 [vT t, .rptr .leaf (.int .i64 id)] (.bool (t.id == id))  := by
  refine Known.of (V := vT2 8 fun _ => none) (fn := Tryz.f183) Tryz.func183 (by kernel_rfl) (zn _) rfl ?_
  show zpy t id
  rw [zvv]; try delta RR; try rfl
theorem zq2 (l : List Thr) (id : Int) (i : Nat) (hi : i < l.length) : fidR l id (l.length - i) = if (l.getD i c0t).id = id then (i : Int) else fidR l id (l.length - (i + 1)) := by
  obtain ⟨k, hk⟩ : ∃ k, l.length - i = k + 1 := ⟨l.length - i - 1, by omega⟩
  rw [hk, fidR, show l.length - (k + 1) = i from by omega, show k = l.length - (i + 1) from by omega]
def zo3 (l : List Thr) : Prop := ∀ i, (l.getD i c0t).regs.length = 8
section
variable (l:List Thr) (id:Int) (x2:Nat)
def qfp:=x2<=l.length/\fid l id=fidR l id (l.length - x2)
def qt9:=RR (AV.clo 183 [AV.rptr leaf (AV.int j6 id)])
def qfq:=(l.getD (↑x2:Int).toNat c0t).id == id
variable (x1:Nat)
def qta:=decide ((↑x1:Int) < (↑l.length:Int))
end
theorem eFid (l:List Thr) (id:Int):gFid l id=(↑l.length<=(9223372036854775807:Int)/\(∃ i,qfp l id i/\((RW zd l.length fun i=>encT (l.getD i c0t))/\qt9 id/\RI ↑l.length/\(RR j6/\(0:Int)=↑i)/\True)/\True)/\∀ i:Nat,qfp l id i->(qta l i=true->inIx (↑i) l.length/\KN 183 [AV.mc zd (encT (l.getD (↑i:Int).toNat c0t)),AV.rptr leaf (AV.int j6 id)] (AV.bool (qfq l id i))/\(qfq l id i=true->RR j6/\↑i=fid l id)/\(qfq l id i=false->InR j6 (q8 i)/\(∃ j,qfp l id j/\l.length - j < l.length - i/\((RW zd l.length fun i=>encT (l.getD i c0t))/\qt9 id/\RI ↑l.length/\(RR j6/\q8 i=↑j)/\True)/\True)))/\(qta l i=false->RR j6/\-1=fid l id)):=by kernel_rfl
theorem kFid (l : List Thr) (id : Int) (hl : l.length <= 1000000) : Known Tryz.prog GG 182 [rowT l, .clo 183 [.rptr .leaf (.int .i64 id)]] (.int .i64 (fid l id))  := by
  refine Known.of (V := vT2 19 (zpz l id)) (fn := Tryz.f182) Tryz.func182 (by kernel_rfl) (zn _) rfl ?_
  show gFid l id
  rw [eFid]; try delta qfp qt9 qfq q8 qta
  simp only [SB, inIx]
  refine ⟨by omega, ⟨0, ⟨by omega, by rw [Nat.sub_zero]; rfl⟩, rfl⟩, fun i hi => ⟨fun hlt => ⟨hlt, zvw _ id, fun h => ?_, fun h => ⟨zg (by omega) (by omega), i + 1, ⟨by omega, ?_⟩, by omega, by omega⟩⟩, fun hge => ?_⟩⟩
  . rw [hi.2, zq2 l id i hlt, if_pos h]
  . rw [hi.2, zq2 l id i hlt, if_neg h]
  . rw [hi.2, show l.length - i = 0 from by omega]; rfl
theorem zlg {l : List Thr} (h8 : zo3 l) : dR dT (rowT l) = l := by
  show (List.range l.length).map _ = l
  apply List.ext_getElem (by simp)
  intro i h1 h2
  have := h8 i
  simp only [List.getElem_map, List.getElem_range]
  rw [z2u _ this, List.getD_eq_getElem?_getD, List.getElem?_eq_getElem h2]; rfl
theorem zvx (l:List Thr) (id:Int):zq0 l id=(KN 182 [rowT l,AV.clo (183:Nat) [AV.rptr leaf (AV.int j6 id)]] (AV.int j6 (fid (dR dT (rowT l)) id))/\(RR j6/\(if fid (dR dT (rowT l)) id < 0 then 0 else fid (dR dT (rowT l)) id)=max (fid l id) 0)/\decide (0<=fid (dR dT (rowT l)) id)=decide (0<=fid l id)/\True):=by kernel_rfl
theorem zlh (l : List Thr) (id : Int) (hl : l.length <= 1000000) (h8 : zo3 l) : Known Tryz.prog GG 120 [rowT l, .int .i64 id] (.tup [.int .i64 (max (fid l id) 0), .bool (decide (0 <= fid l id))])  := by
  refine Known.of (V := vT2 14 fun _ => none) (fn := Tryz.f120) Tryz.func120 (by kernel_rfl) (zn _) rfl ?_
  show zq0 l id
  rw [zvx]
  simp only [SB]
  have e : fid (dR dT (rowT l)) id = fid l id := by rw [zlg h8]
  simp only [e]
  refine ⟨kFid l id hl, ?_, trivial⟩
  split <;> omega
section
variable (p:PProg) (t:Thr)
def qtb:=decide (↑(p.funs.getD t.fn.toNat c0f).code.length<=t.pc)
def q2l:Inst:=(p.funs.getD t.fn.toNat c0f).code.getD t.pc.toNat c0i
end
theorem eAt (p:PProg) (t:Thr):gAt p t=(inIx t.fn p.funs.length/\↑(p.funs.getD t.fn.toNat c0f).code.length<=(9223372036854775807:Int)/\(qtb p t=true->(RR zt/\(RR j6/\0=(atI p t).op)/\(RR j6/\0=(atI p t).a)/\(RR j6/\0=(atI p t).b)/\(RR j6/\0=(atI p t).c)/\(RR j6/\0=(atI p t).obj)/\(RR j6/\0=(atI p t).n)/\(RR j6/\0=(atI p t).fn)/\(RR j6/\0=(atI p t).ord)/\True)/\false=atB p t/\True)/\(qtb p t=false->inIx t.pc (p.funs.getD t.fn.toNat c0f).code.length/\(RR zt/\(RR j6/\(q2l p t).op=(atI p t).op)/\(RR j6/\(q2l p t).a=(atI p t).a)/\(RR j6/\(q2l p t).b=(atI p t).b)/\(RR j6/\(q2l p t).c=(atI p t).c)/\(RR j6/\(q2l p t).obj=(atI p t).obj)/\(RR j6/\(q2l p t).n=(atI p t).n)/\(RR j6/\(q2l p t).fn=(atI p t).fn)/\(RR j6/\(q2l p t).ord=(atI p t).ord)/\True)/\true=atB p t/\True)):=by kernel_rfl
theorem kAt (p : PProg) (t : Thr) (hf : 0 <= t.fn /\ t.fn < p.funs.length) (hpc : 0 <= t.pc) (hp : PSm p) : Known Tryz.prog GG 190 [vP p, vT t] (.tup [vI (atI p t), .bool (atB p t)])  := by
  refine Known.of (V := vT2 25 fun _ => none) (fn := Tryz.f190) Tryz.func190 (by kernel_rfl) (zn _) rfl ?_
  show gAt p t
  rw [eAt]; try delta qtb q2l
  simp only [SB, inIx]
  have h1 := hp.code t.fn.toNat
  refine ⟨hf, by omega, fun h => ?_, fun h => ?_⟩
  . have e : atB p t = false := by unfold atB; rw [decide_eq_false_iff_not]; omega
    unfold atI; rw [e]; exact ⟨⟨rfl, rfl, rfl, rfl, rfl, rfl, rfl, rfl⟩, rfl⟩
  . have e : atB p t = true := by unfold atB; rw [decide_eq_true_eq]; omega
    unfold atI; rw [e]; exact ⟨⟨hpc, by omega⟩, ⟨rfl, rfl, rfl, rfl, rfl, rfl, rfl, rfl⟩, rfl⟩
section
variable (p:PProg)
def qo:=(zb (dP (encP p))).fst != 0
variable (b:Int)
def q4t:=decide (b < 1)
def q4u:=(!q4t b)=true
def qt:=q4u b->q4u b
def qu:=q4t b||decide (32 < b)
end
theorem eStd (p:PProg) (b:Int):gStd p b=(KN 51 [AV.mc za (encP p)] (AV.tup [AV.int j6 (zb (dP (encP p))).fst,AV.int j6 (zb (dP (encP p))).snd.fst,AV.int j6 (zb (dP (encP p))).snd.snd])/\(qo p=true->RR j6/\(zb (dP (encP p))).fst=stdE p b)/\(qo p=false->qt b/\qt b/\(qu b=true->RR j6/\2=stdE p b)/\(qu b=false->RR j6/\0=stdE p b))):=by kernel_rfl
theorem kStd (p : PProg) (b : Int) (hp : PSm p) : Known Tryz.prog GG 136 [vP p, .int .i64 b] (.int .i64 (stdE p b))  := by
  refine Known.of (V := vT2 23 fun _ => none) (fn := Tryz.f136) Tryz.func136 (by kernel_rfl) (zn _) rfl ?_
  show gStd p b
  rw [eStd]; try delta qo q4t q4u qt qu
  simp only [SB]
  refine ⟨zbc p hp, fun h => ?_, fun h => ⟨fun h2 => ?_, fun h2 => ?_⟩⟩
  . unfold stdE; rw [if_pos (by simpa using h)]
  . unfold stdE; rw [if_neg (by simp [h]), if_pos h2]
  . unfold stdE; rw [if_neg (by simp [h]), if_neg (by omega)]
theorem eEnd (t:Thr) (s e:Int):gEnd t s e=(RR zd/\RI t.id/\RI t.fn/\RI t.pc/\(RR 8/\∀ i:Nat,RR (AV.int j6 (t.regs.getD i 0)))/\RI t.steps/\RI t.kids/\RI t.phase/\RI s/\RI e/\(RW leaf t.held.length fun i=>AV.int j6 (t.held.getD i 0))/\True):=by kernel_rfl
theorem kEnd (t : Thr) (s e : Int)  : Known Tryz.prog GG 202 [vT t, .int .i64 s, .int .i64 e] (vT (endT t s e))  := by
  refine Known.of (V := vT2 12 fun _ => none) (fn := Tryz.f202) Tryz.func202 (by kernel_rfl) (zn _) rfl ?_
  show gEnd t s e
  rw [eEnd]
  simp only [SB]
end
end
end Go.Proofs.S25
namespace Go.Proofs.S25
open Go Go.AV
open Go.IntKind renaming i64 -> j6
open Go.AV.Shape (leaf)
noncomputable section
structure TOK (t : Thr) : Prop where
  regs : t.regs.length = 8
  id : t.id <= 9223372036854775807
  pc : t.pc < 9223372036854775807
  held : t.held.length <= 1000
def obsE (t : Thr) (i : Inst) : Int :=
  if t.phase ≠ 0 then 0
  else if i.op = 16 ∨ i.op = 18 then (if hasI t.held (if i.op = 18 then i.n else i.obj) then 0 else 27)
  else if i.op = 21 then (if chB2 t then 0 else 28)
  else 0
def fmA (p : PProg) (t : Thr) : Bool := !(decide (depI t.id < 0) || decide (t.fn < 0) || decide ((p.funs.length : Int) <= t.fn) || decide (t.pc < 0) || decide (((p.funs.getD t.fn.toNat c0f).code.length : Int) < t.pc))
def fmR (t : Thr) : Bool := t.regs.all fun r => wr r == r
def fmS (b : Int) (t : Thr) : Bool := !(decide (t.steps < 0) || decide (b < t.steps) || decide (t.kids < 0) || decide (7 < t.kids) || (depI t.id == 4 && t.kids != 0) || !z5p t.held)
def fmH (p : PProg) (t : Thr) : Bool := t.held.all fun m => !(decide (m < 0) || decide ((p.muts.length : Int) <= m))
def fmP (p : PProg) (t : Thr) : Bool := t.phase == 0 || ((t.phase == 1 || t.phase == 2) && atB p t && (atI p t).op == 18 && !hasI t.held (atI p t).n)
def z3y (p : PProg) (b : Int) (t : Thr) : Bool := fmA p t && (fmR t && (fmS b t && (fmH p t && fmP p t)))
def spO : FuncId -> List AV -> Option AV
  | 204, [.mc _ t, .mc _ i] => some (.int .i64 (obsE (dT t) (dIn i)))
  | 226, [.mc _ p, .int _ b, .mc _ t] => some (.bool (z3y (dP p) b (dT t)))
  | f, l => spT f l
noncomputable def vO2 (n : Nat) (inv : Nat -> Option Inv) : VCtx := { C := cfgS n, CC := Known Tryz.prog GG, orc := fun _ _ => spO, inv := inv }
noncomputable def gObs (t : Thr) (i : Inst) : Prop := fnVc (vO2 35 fun _ => none) Tryz.f204 [vT t, vI i] (.int .i64 (obsE t i))
def zli (p : PProg) (b : Int) (t : Thr) (k : Nat) : Option Inv := match Nat.beq k 5 with
  | true => some { ι := Nat, S := fun i => ⟨[(1, .int .i64 b), (3, .ptr 3 []), (5, .ptr 5 []), (7, .int .i64 (depI t.id)), (51, .mc (.arr 8 .leaf) (arr8 t.regs)), (52, .int .i64 i)], [(3, .cell 27 za (encP p)), (5, .cell 51 zd (encT t))]⟩, μ := fun i => 8 - i, ok := fun i => i <= 8 /\ ∀ j, j < i -> wr (t.regs.getD j 0) = t.regs.getD j 0 }
  | false => match Nat.beq k 13 with
    | true => some { ι := Nat, S := fun i => ⟨[(3, .ptr 3 []), (5, .ptr 5 []), (95, rowI t.held), (96, .int .i64 t.held.length), (97, .int .i64 i)], [(3, .cell 27 za (encP p)), (5, .cell 51 zd (encT t))]⟩, μ := fun i => t.held.length - i, ok := fun i => i <= t.held.length /\ ∀ j, j < i -> 0 <= t.held.getD j 0 /\ t.held.getD j 0 < (p.muts.length : Int) }
    | false => none
noncomputable def zvy (p : PProg) (b : Int) (t : Thr) : Prop := fnVc (vO2 144 (zli p b t)) Tryz.f226 [vP p, .int .i64 b, vT t] (.bool (z3y p b t))
end
end Go.Proofs.S25
namespace Go.Proofs.S25
open Go Go.AV
open Go.IntKind renaming i64 -> j6
open Go.AV.Shape (leaf)
noncomputable section
open Go.IntKind renaming i64 -> j6
open Go.AV.Shape (leaf)
noncomputable section

section
variable (t:Thr) (i:Inst)
def q1z:=RR j6/\0=obsE t i
def q20:List Int:=z1b t.held.length fun i=>AV.int j6 (t.held.getD i 0)
def q6t:=hasI (q20 t) i.n
def qtc:=RR j6/\27=obsE t i
def qtd:=!q6t t i
def q6u:=hasI (q20 t) i.obj
def qte:=!q6u t i
end
theorem eObs (t:Thr) (i:Inst):gObs t i=(((t.phase != 0)=true->q1z t i)/\((t.phase != 0)=false->((i.op == 18)=true->KN 244 [rowI t.held,AV.int j6 i.n] (AV.bool (q6t t i))/\(qtd t i=true->qtc t i)/\(qtd t i=false->q1z t i))/\((i.op == 18)=false->((i.op == 16)=true->KN 244 [rowI t.held,AV.int j6 i.obj] (AV.bool (q6u t i))/\(qte t i=true->qtc t i)/\(qte t i=false->q1z t i))/\((i.op == 16)=false->((i.op == 21)=true->KN 235 [AV.mc zd (encT t)] (AV.tup [AV.int j6 (z3d (dT (encT t))),AV.bool (chB2 (dT (encT t)))])/\((!chB2 (dT (encT t)))=true->RR j6/\28=obsE t i)/\((!chB2 (dT (encT t)))=false->q1z t i))/\((i.op == 21)=false->q1z t i))))):=by kernel_rfl
theorem kObs (t : Thr) (i : Inst) (ht : TOK t) : Known Tryz.prog GG 204 [vT t, vI i] (.int .i64 (obsE t i))  := by
  refine Known.of (V := vO2 35 fun _ => none) (fn := Tryz.f204) Tryz.func204 (by kernel_rfl) (zv _) rfl ?_
  show gObs t i
  rw [eObs]; try delta q1z q20 q6t qtc qtd q6u qte
  simp only [SB]
  have e : dT (encT t) = t := z2u t ht.regs
  have hh := ht.held
  simp only [e, oR]
  refine ⟨fun h => ?_, fun h0 => ⟨fun h18 => ⟨zsr _ _ (by omega), fun h => ?_, fun h => ?_⟩, fun n18 => ⟨fun h16 => ⟨zsr _ _ (by omega), fun h => ?_, fun h => ?_⟩, fun n16 => ⟨fun h21 => ⟨?_, fun h => ?_, fun h => ?_⟩, fun n21 => ?_⟩⟩⟩⟩
  . unfold obsE; rw [if_pos h]
  . unfold obsE; rw [if_neg (by simp [h0]), if_pos (.inr h18), if_pos h18, h]; rfl
  . unfold obsE; rw [if_neg (by simp [h0]), if_pos (.inr h18), if_pos h18, h]; rfl
  . unfold obsE; rw [if_neg (by simp [h0]), if_pos (.inl h16), if_neg n18, h]; rfl
  . unfold obsE; rw [if_neg (by simp [h0]), if_pos (.inl h16), if_neg n18, h]; rfl
  . exact zq1 t ht.regs ht.id
  . unfold obsE; rw [if_neg (by simp [h0]), if_neg (by omega), if_pos h21, h]; rfl
  . unfold obsE; rw [if_neg (by simp [h0]), if_neg (by omega), if_pos h21, h]; rfl
  . unfold obsE; rw [if_neg (by simp [h0]), if_neg (by omega), if_neg n21]
theorem fm1 {p : PProg} {b : Int} {t : Thr} (h : fmA p t = false) : false = z3y p b t := by unfold z3y; rw [h]; rfl
theorem fm2 {p : PProg} {b : Int} {t : Thr} (h : fmR t = false) : false = z3y p b t := by unfold z3y; rw [h]; simp
theorem fm3 {p : PProg} {b : Int} {t : Thr} (h : fmS b t = false) : false = z3y p b t := by unfold z3y; rw [h]; simp
theorem fm4 {p : PProg} {b : Int} {t : Thr} (h : fmH p t = false) : false = z3y p b t := by unfold z3y; rw [h]; simp
theorem fm5 {p : PProg} {b : Int} {t : Thr} (h1 : fmA p t = true) (h2 : fmR t = true) (h3 : fmS b t = true) (h4 : fmH p t = true) : z3y p b t = fmP p t := by unfold z3y; rw [h1, h2, h3, h4]; simp
section
variable (t:Thr)
def qtf:=qag t||decide (t.fn < 0)
def qfr:=(!qtf t)=true
def q4v:=qfr t->qfr t
end
section
variable (p:PProg) (t:Thr)
def qtg:=qtf t||decide (↑p.funs.length<=t.fn)
def qth:=(!qtg p t)=true
def qfs:=qth p t->qth p t
def qti:=qtg p t||decide (t.pc < 0)
def qaj:=(!qti p t)=true
def q19:=qaj p t->qaj p t
def qtj:=qti p t||decide (↑(p.funs.getD t.fn.toNat c0f).code.length < t.pc)
variable (x1:Nat)
def qft:=x1<=8/\∀ j:Nat,j < x1->wr (t.regs.getD j 0)=t.regs.getD j 0
def qtk:=RR 8/\∀ (i:Nat),RR (AV.int j6 (t.regs.getD i 0))
def qtl:=RR (Shape.arr 8 leaf)/\qtk t
def qak:Nat->AV:=fun i=>AV.int j6 (t.held.getD i 0)
def qfu:=RW leaf t.held.length (qak t)
def qtm:=RR zd/\RI t.id/\RI t.fn/\RI t.pc/\qtk t/\RI t.steps/\RI t.kids/\RI t.phase/\RI t.status/\RI t.fault/\qfu t/\True
def qfv:Int:=t.regs.getD (↑x1:Int).toNat 0
def qtn:Int:=wr (qfv t x1)
def qto:=qtn t x1 != qfv t x1
variable (x0:Nat)
def qtp:Nat:=8 - x0
def qfw:=(RR (27:TypeId)/\qa p)/\(RR (51:TypeId)/\qtm t)/\True
def qtq:=decide (↑x0 < (8:Int))
def qtr:=decide (t.steps < 0)
def qts:=(!qtr t)=true
def qal:=qts t->qts t
end
section
variable (b:Int) (t:Thr)
def qtt:=qtr t||decide (b < t.steps)
def qtu:=(!qtt b t)=true
def qfx:=qtu b t->qtu b t
def qtv:=qtt b t||decide (t.kids < 0)
def qtw:=(!qtv b t)=true
def qfy:=qtw b t->qtw b t
def qtx:=qtv b t||decide (7 < t.kids)
def qty:=!qtx b t
def qfz:=qty b t=true
def qam:=qfz b t->qfz b t
def qg0:=depI t.id == 4
def qg1:=(qty b t&&qg0 t)=true
def qtz:=qg1 b t->qg1 b t
def qu0:=qtx b t||qg0 t&&t.kids != 0
def qg2:=(!qu0 b t)=true
def qan:=qg2 b t->qg2 b t
def q6v:List Int:=z1b t.held.length (qak t)
def qu1:=z5p (q6v t)
def qu2:=qu0 b t||!qu1 t
end
section
variable (p:PProg) (t:Thr) (x2:Nat)
def qg3:=x2<=t.held.length/\∀ j:Nat,j < x2->0<=t.held.getD j 0/\t.held.getD j 0 < ↑p.muts.length
variable (x1:Nat)
def qu3:=decide (t.held.getD (↑x1:Int).toNat 0 < 0)
def qg4:=(!qu3 t x1)=true
def q6w:=qg4 t x1->qg4 t x1
def qu4:=qu3 t x2||decide ((↑p.muts.length:Int)<=t.held.getD (↑x2:Int).toNat 0)
def qu5:=decide ((↑x1:Int) < (↑t.held.length:Int))
def qu6:=(!t.phase == 1)=true
def qg5:=qu6 t->qu6 t
def qu7:=t.phase == 1||t.phase == 2
def qu8:=qu7 t=true
def qu9:=qu7 t&&atB (dP (encP p)) (dT (encT t))
def qua:=qu9 p t=true
def qg6:=qua p t->qua p t
def qub:=qu9 p t&&(atI (dP (encP p)) (dT (encT t))).op == 18
def qg7:=qub p t=true
def q4w:=qg7 p t->qg7 p t
def quc:=hasI (q6v t) (atI (dP (encP p)) (dT (encT t))).n
end
theorem z10o (p:PProg) (b:Int) (t:Thr):zvy p b t=(KN 137 [AV.int j6 t.id] (AV.int j6 (depI t.id))/\q4s t/\q4s t/\q4s t/\q4v t/\q4v t/\q4v t/\(qfr t->↑p.funs.length<=(9223372036854775807:Int))/\q4v t/\q4v t/\q4v t/\qfs p t/\qfs p t/\qfs p t/\q19 p t/\q19 p t/\q19 p t/\q19 p t/\q19 p t/\(qaj p t->inIx t.fn p.funs.length)/\q19 p t/\q19 p t/\q19 p t/\(qaj p t->↑(p.funs.getD t.fn.toNat c0f).code.length<=(9223372036854775807:Int))/\q19 p t/\q19 p t/\q19 p t/\(qtj p t=true->false=z3y p b t)/\(qtj p t=false->(∃ i,qft t i/\(RI b/\RR (AV.ptr (3:Nat) [])/\RR (AV.ptr (5:Nat) [])/\RI (depI t.id)/\qtl t/\qc i)/\((27:Nat)=(27:TypeId)/\qa p)/\((51:Nat)=(51:TypeId)/\qtm t)/\True)/\∀ i:Nat,qft t i->(qtq i=true->inIx (↑i) 8/\KN 138 [AV.int j6 (qfv t i)] (AV.int j6 (qtn t i))/\(qto t i=true->false=z3y p b t)/\(qto t i=false->q9 i/\(∃ j,qft t j/\qtp j < qtp i/\(RI b/\RR (AV.ptr 3 [])/\RR (AV.ptr 5 [])/\RI (depI t.id)/\qtl t/\qd i j)/\qfw p t)))/\(qtq i=false->qal t/\qal t/\qal t/\qal t/\qfx b t/\qfx b t/\qfx b t/\qfy b t/\qfy b t/\qfy b t/\qam b t/\qam b t/\qtz b t/\qtz b t/\qam b t/\(qfz b t->qg0 t=true->qg1 b t)/\qam b t/\qan b t/\qan b t/\(qg2 b t->KN 224 [rowI t.held] (AV.bool (qu1 t)))/\qan b t/\qan b t/\(qu2 b t=true->false=z3y p b t)/\(qu2 b t=false->↑t.held.length<=(9223372036854775807:Int)/\(∃ i,qg3 p t i/\(RR (AV.ptr 3 [])/\RR (AV.ptr 5 [])/\qfu t/\RI ↑t.held.length/\qc i)/\qfw p t)/\∀ (i:Nat),qg3 p t i->(qu5 t i=true->inIx (↑i) t.held.length/\q6w t i/\q6w t i/\(qg4 t i->↑p.muts.length<=(9223372036854775807:Int))/\q6w t i/\q6w t i/\q6w t i/\(qu4 p t i=true->false=z3y p b t)/\(qu4 p t i=false->q9 i/\∃ j,qg3 p t j/\t.held.length - j < t.held.length - i/\(RR (AV.ptr (3:Nat) [])/\RR (AV.ptr (5:Nat) [])/\qfu t/\RI ↑t.held.length/\qd i j)/\qfw p t))/\(qu5 t i=false->((t.phase == (0:Int))=true->true=z3y p b t)/\((t.phase == (0:Int))=false->KN 190 [AV.mc za (encP p),AV.mc zd (encT t)] (AV.tup [AV.mc zt (encI (atI (dP (encP p)) (dT (encT t)))),AV.bool (atB (dP (encP p)) (dT (encT t)))])/\qg5 t/\qg5 t/\qg5 t/\(qu8 t->qu8 t)/\qg6 p t/\qg6 p t/\qg6 p t/\q4w p t/\q4w p t/\q4w p t/\q4w p t/\(qg7 p t->KN 244 [rowI t.held,AV.int j6 (atI (dP (encP p)) (dT (encT t))).n] (AV.bool (quc p t)))/\q4w p t/\q4w p t/\(qub p t&&!quc p t)=z3y p b t)))))):=by kernel_rfl
theorem z10p (p : PProg) (b : Int) (t : Thr) (hp : PSm p) (ht : TOK t) : Known Tryz.prog GG 226 [vP p, .int .i64 b, vT t] (.bool (z3y p b t))  := by
  refine Known.of (V := vO2 144 (zli p b t)) (fn := Tryz.f226) Tryz.func226 (by kernel_rfl) (zv _) rfl ?_
  show zvy p b t
  rw [z10o]; try delta qag qfm q4s qtf qfr q4v qtg qth qfs qti qaj q19 qtj qft qtk qtl qc qa qak qfu qtm qfv qtn qto q8 q9 qtp qd qfw qtq qtr qts qal qtt qtu qfx qtv qtw qfy qtx qty qfz qam qg0 qg1 qtz qu0 qg2 qan q6v qu1 qu2 qg3 qu3 qg4 q6w qu4 qu5 qu6 qg5 qu7 qu8 qu9 qua qg6 qub qg7 q4w quc
  simp only [SB, inIx]
  have e : dT (encT t) = t := z2u t ht.regs
  have hh := ht.held
  have hr := ht.regs
  have c1 := hp.funs
  have c2 := hp.code t.fn.toNat
  have c3 := hp.muts
  simp only [e, oR]
  refine ⟨kDep _ ht.id, fun _ => by omega, fun h => by omega, fun h => by omega, fun h => fm1 ?_, fun hA => ?_⟩
  . unfold fmA; simp only [Bool.not_eq_false', Bool.or_eq_true, decide_eq_true_eq]; exact h
  have gA : fmA p t = true := by unfold fmA; simp only [Bool.not_eq_true', Bool.or_eq_false_iff, decide_eq_false_iff_not]; exact hA
  refine ⟨⟨0, ⟨by omega, fun j hj => by omega⟩, rfl⟩, fun i hi => ⟨fun hlt => ⟨by omega, zb4 _, fun h => fm2 ?_, fun h => ⟨zg (by omega) (by omega), i + 1, ⟨by omega, fun j hj => ?_⟩, by omega, by omega⟩⟩, fun hge => ?_⟩⟩
  . cases hv : fmR t with
    | false => rfl
    | true =>
      have := (z1u _ _ 0).1 hv i (by omega)
      exact absurd (by simpa using this) h
  . by_cases e2 : j = i
    . subst e2; exact h
    . exact hi.2 j (by omega)
  have gR : fmR t = true := (z1u _ _ 0).2 fun j hj => by simpa using hi.2 j (by omega)
  refine ⟨fun _ => zvr _ (by omega), fun h => fm3 ?_, fun hS => ?_⟩
  . unfold fmS; simp only [Bool.not_eq_false', Bool.or_eq_true, decide_eq_true_eq, Bool.and_eq_true, beq_iff_eq, bne_iff_ne, Bool.not_eq_true']; exact h
  have gS : fmS b t = true := by
    unfold fmS; simp only [Bool.not_eq_true', Bool.or_eq_false_iff, decide_eq_false_iff_not, Bool.and_eq_false_iff, beq_eq_false_iff_ne, bne_eq_false_iff_eq, Bool.not_eq_false']; exact hS
  refine ⟨by omega, ⟨0, ⟨by omega, fun j hj => by omega⟩, rfl⟩, fun i hi => ⟨fun hlt => ⟨hlt, fun _ => by omega, fun h => fm4 ?_, fun h => ⟨zg (by omega) (by omega), i + 1, ⟨by omega, fun j hj => ?_⟩, by omega, by omega⟩⟩, fun hge => ?_⟩⟩
  . cases hv : fmH p t with
    | false => rfl
    | true =>
      have := (z1u _ _ 0).1 hv i hlt
      simp only [Bool.not_eq_true', Bool.or_eq_false_iff, decide_eq_false_iff_not] at this
      omega
  . by_cases e2 : j = i
    . subst e2; omega
    . exact hi.2 j (by omega)
  have gH : fmH p t = true := (z1u _ _ 0).2 fun j hj => by
    have := hi.2 j (by omega)
    simp only [Bool.not_eq_true', Bool.or_eq_false_iff, decide_eq_false_iff_not]; omega
  rw [fm5 gA gR gS gH]
  refine ⟨fun h => ?_, fun h => ⟨kAt p t (by omega) (by omega) hp, fun _ => zsr _ _ (by omega), ?_⟩⟩
  . unfold fmP; rw [h]; rfl
  . have : (t.phase == 0) = false := by simpa using h
    unfold fmP; rw [this, Bool.false_or]
end
end
end Go.Proofs.S25
namespace Go.Proofs.S25
open Go Go.AV
open Go.IntKind renaming i64 -> j6
open Go.AV.Shape (leaf)
noncomputable section
def setR (l : List Int) (a : Int) (v : Int) : List Int := l.set a.toNat v
def regT (t : Thr) (a : Int) : Int := t.regs.getD a.toNat 0
def locP (t : Thr) (i : Inst) : Thr × Bool :=
  if i.op = 1 then ({ t with regs := setR t.regs i.a i.n, pc := t.pc + 1 }, true)
  else if i.op = 2 then ({ t with regs := setR t.regs i.a (regT t i.b), pc := t.pc + 1 }, true)
  else if i.op = 3 then (if (app i.fn (regT t i.b) (regT t i.c)).2 = 0 then { t with regs := setR t.regs i.a (app i.fn (regT t i.b) (regT t i.c)).1, pc := t.pc + 1 } else { t with pc := t.pc + 1 }, true)
  else if i.op = 5 then ({ t with pc := if regT t i.b = 0 then t.pc + 1 else i.n }, true)
  else if i.op = 4 then ({ t with pc := i.n }, true)
  else if i.op = 6 then (if regT t i.b = 0 then (endT t 3 26, false) else ({ t with pc := t.pc + 1 }, true))
  else if i.op = 7 then (endT t 2 0, false)
  else ({ t with pc := t.pc + 1 }, true)
def spL : FuncId -> List AV -> Option AV
  | 205, [.mc _ t, .mc _ i] => some (.tup [vT (locP (dT t) (dIn i)).1, .bool (locP (dT t) (dIn i)).2])
  | 155, [.mc _ t, .mc _ i] => some (vT (locP (dT t) (dIn i)).1)
  | f, l => spO f l
noncomputable def vL2 (n : Nat) (inv : Nat -> Option Inv) : VCtx := { C := cfgS n, CC := Known Tryz.prog GG, orc := fun _ _ => spL, inv := inv }
noncomputable def gLoc (t : Thr) (i : Inst) : Prop := fnVc (vL2 87 fun _ => none) Tryz.f205 [vT t, vI i] (.tup [vT (locP t i).1, .bool (locP t i).2])
noncomputable def zvz (t : Thr) (i : Inst) : Prop := fnVc (vL2 72 fun _ => none) Tryz.f155 [vT t, vI i] (vT (locP t i).1)
end
end Go.Proofs.S25
namespace Go.Proofs.S25
open Go Go.AV
open Go.IntKind renaming i64 -> j6
open Go.AV.Shape (leaf)
noncomputable section
open Go.IntKind renaming i64 -> j6
open Go.AV.Shape (leaf)
noncomputable section

structure IReg (i : Inst) : Prop where
  a : z1l i.op 0 = true -> 0 <= i.a /\ i.a < 8
  b : z1l i.op 1 = true -> 0 <= i.b /\ i.b < 8
  c : z1l i.op 2 = true -> 0 <= i.c /\ i.c < 8
theorem zht (l : List Int) (a v : Int) (h : l.length = 8) (ha : 0 <= a /\ a < 8) (j : Nat) : (if j = a.toNat then AV.int .i64 v else AV.int .i64 (l.getD j 0)) = AV.int .i64 ((setR l a v).getD j 0) := by
  unfold setR
  rw [List.getD_eq_getElem?_getD (l := l.set _ _), List.getElem?_set]
  by_cases e : a.toNat = j
  . subst e
    rw [if_pos rfl, if_pos rfl, if_pos (by omega)]; rfl
  . rw [if_neg (fun h => e h.symm), if_neg e, List.getD_eq_getElem?_getD]
section
variable (t:Thr)
def q39:Int:=t.pc + 1
variable (i:Inst)
def qw:=RR j6/\t.id=(locP t i).fst.id
def qx:=RR j6/\t.fn=(locP t i).fst.fn
def q21:=RR j6/\q39 t=(locP t i).fst.pc
variable (x2:Nat)
def q1k:=AV.int j6 ((locP t i).fst.regs.getD x2 0)
def qg8:=RR j6/\t.steps=(locP t i).fst.steps
def qg9:=RR j6/\t.kids=(locP t i).fst.kids
def qga:=RR j6/\t.phase=(locP t i).fst.phase
def qud:=AV.int j6 ((locP t i).fst.held.getD x2 0)
def qao:=qg8 t i/\qg9 t i/\qga t i/\(RR j6/\t.status=(locP t i).fst.status)/\(RR j6/\t.fault=(locP t i).fst.fault)/\(RR leaf/\t.held.length=(locP t i).fst.held.length/\∀ (i_1:Nat),i_1 < t.held.length->AV.int j6 (t.held.getD i_1 0)=qud t i i_1)/\True
def q6x:=AV.int j6 (t.regs.getD i.b.toNat 0)
def qap:Int × Int:=app i.fn (t.regs.getD i.b.toNat 0) (t.regs.getD i.c.toNat 0)
def q6y:=AV.int j6 (qap t i).fst
def que:Int:=(qap t i).snd
def quf:=que t i == 0
def qug:=(RR 8/\∀ (i_1:Nat),AV.int j6 (t.regs.getD i_1 0)=q1k t i i_1)/\qao t i
def qaq:=(RR zd/\qw t i/\qx t i/\q21 t i/\qug t i)/\true=(locP t i).snd/\True
def quh:=t.regs.getD i.b.toNat 0 == 0
def qui:=quh t i=true
def quj:=(RR zd/\qw t i/\qx t i/\(RR j6/\i.n=(locP t i).fst.pc)/\qug t i)/\true=(locP t i).snd/\True
def quk:=quh t i=false
variable (x1:Nat)
def qul:=AV.int j6 ((dA dI (AV.arr 8 fun i=>AV.int j6 (t.regs.getD i 0))).getD x1 0)
def qum:=AV.arr 8 fun i=>qul t i
def qun:=RR j6/\t.pc=(locP t i).fst.pc
def qup:=RR 8/\∀ (i_1:Nat),qul t i_1=q1k t i i_1
def quq:=(RR leaf/\(dR dI (rowI t.held)).length=(locP t i).fst.held.length/\∀ (i_1:Nat),i_1 < (dR dI (rowI t.held)).length->AV.int j6 ((dR dI (rowI t.held)).getD i_1 0)=qud t i i_1)/\True
end
theorem eLoc (t:Thr) (i:Inst):gLoc t i=(InR j6 (q39 t)/\((i.op == 1)=true->inIx i.a 8/\(RR zd/\qw t i/\qx t i/\q21 t i/\(RR 8/\∀ (i_1:Nat),(if i_1=i.a.toNat then strip1 (AV.int j6 i.n) else AV.int j6 (t.regs.getD i_1 0))=q1k t i i_1)/\qao t i)/\true=(locP t i).snd/\True)/\((i.op == 1)=false->((i.op == 2)=true->inIx i.b 8/\inIx i.a 8/\(RR zd/\qw t i/\qx t i/\q21 t i/\(RR 8/\∀ (i_1:Nat),(if i_1=i.a.toNat then strip1 (q6x t i) else AV.int j6 (t.regs.getD i_1 0))=q1k t i i_1)/\qao t i)/\true=(locP t i).snd/\True)/\((i.op == 2)=false->((i.op == 3)=true->inIx i.b 8/\inIx i.c 8/\KN 180 [AV.int j6 i.fn,q6x t i,AV.int j6 (t.regs.getD i.c.toNat (0:Int))] (AV.tup [q6y t i,AV.int j6 (que t i)])/\(quf t i=true->inIx i.a 8/\(RR zd/\qw t i/\qx t i/\q21 t i/\(RR 8/\∀ (i_1:Nat),(if i_1=i.a.toNat then strip1 (strip1 (q6y t i)) else AV.int j6 (t.regs.getD i_1 0))=q1k t i i_1)/\qao t i)/\true=(locP t i).snd/\True)/\(quf t i=false->qaq t i))/\((i.op == 3)=false->((i.op == 5)=true->inIx i.b 8/\(qui t i->qaq t i)/\(quk t i->quj t i))/\((i.op == 5)=false->((i.op == 4)=true->quj t i)/\((i.op == 4)=false->((i.op == 6)=true->inIx i.b 8/\(qui t i->KN 202 [AV.mc zd (encT t),AV.int j6 (3:Int),AV.int j6 (26:Int)] (AV.mc zd (AV.agg [AV.int j6 t.id,AV.int j6 t.fn,AV.int j6 t.pc,qum t,AV.int j6 t.steps,AV.int j6 t.kids,AV.int j6 t.phase,AV.int j6 (3:Int),AV.int j6 (26:Int),rowI (dR dI (rowI t.held))]))/\(RR zd/\qw t i/\qx t i/\qun t i/\qup t i/\qg8 t i/\qg9 t i/\qga t i/\(RR j6/\3=(locP t i).fst.status)/\(RR j6/\26=(locP t i).fst.fault)/\quq t i)/\false=(locP t i).snd/\True)/\(quk t i->qaq t i))/\((i.op == 6)=false->((i.op == 7)=true->KN 202 [AV.mc zd (encT t),AV.int j6 (2:Int),AV.int j6 (0:Int)] (AV.mc zd (AV.agg [AV.int j6 t.id,AV.int j6 t.fn,AV.int j6 t.pc,qum t,AV.int j6 t.steps,AV.int j6 t.kids,AV.int j6 t.phase,AV.int j6 (2:Int),AV.int j6 (0:Int),rowI (dR dI (rowI t.held))]))/\(RR zd/\qw t i/\qx t i/\qun t i/\qup t i/\qg8 t i/\qg9 t i/\qga t i/\(RR j6/\2=(locP t i).fst.status)/\(RR j6/\0=(locP t i).fst.fault)/\quq t i)/\false=(locP t i).snd/\True)/\((i.op == 7)=false->qaq t i)))))))):=by kernel_rfl
theorem kLoc (t : Thr) (i : Inst) (ht : TOK t) (hi : IReg i) (hpc : t.pc < 1000000 /\ 0 <= t.pc) : Known Tryz.prog GG 205 [vT t, vI i] (.tup [vT (locP t i).1, .bool (locP t i).2])  := by
  refine Known.of (V := vL2 87 fun _ => none) (fn := Tryz.f205) Tryz.func205 (by kernel_rfl) (zv _) rfl ?_
  show gLoc t i
  rw [eLoc]; try delta q39 qw qx q21 q1k qg8 qg9 qga qud qao q6x qap q6y que quf qug qaq quh qui quj quk qul qum qun qup quq
  simp only [SB, inIx]
  simp only [dA_8 ht.regs]
  have hr := ht.regs
  refine ⟨zg (by omega) (by omega), ?_⟩
  repeat' (first | apply And.intro | intro _)
  all_goals first
    | ((with_reducible show Known _ _ 180 _ _); exact kApp _ _ _)
    | ((with_reducible show Known _ _ 202 _ _); exact kEnd t _ _)
    | omega
    | (have := hi.a (by simp only [*]; rfl); omega)
    | (have := hi.b (by simp only [*]; rfl); omega)
    | (have := hi.c (by simp only [*]; rfl); omega)
    | (simp only [locP, regT, endT, reduceIte, Int.reduceEq, *]; done)
    | (simp only [locP, regT, endT, reduceIte, Int.reduceEq, *]; exact zht _ _ _ hr (hi.a (by simp only [*]; rfl)) _)
theorem zhu {t : Thr} {i : Inst} (h1 : ¬ i.op = 1) (h2 : ¬ i.op = 2) (h3 : ¬ i.op = 3) (h4 : ¬ i.op = 4) (h5 : ¬ i.op = 5) (h7 : i.op ≠ 7) (h6 : i.op ≠ 6 ∨ t.regs.getD i.b.toNat 0 ≠ 0) : locP t i = ({ t with pc := t.pc + 1 }, true) := by
  unfold locP regT
  rw [if_neg h1, if_neg h2, if_neg h3, if_neg h5, if_neg h4]
  split
  . rename_i h
    rw [if_neg (h6.resolve_left (fun q => q h))]
  . rfl
section
variable (t:Thr) (i:Inst)
def qar:=(RR j6/\t.steps=(locP t i).fst.steps)/\(RR j6/\t.kids=(locP t i).fst.kids)/\(RR j6/\t.phase=(locP t i).fst.phase)/\(RR j6/\t.status=(locP t i).fst.status)/\(RR j6/\t.fault=(locP t i).fst.fault)/\(RR leaf/\t.held.length=(locP t i).fst.held.length/\∀ (i_1:Nat),i_1 < t.held.length->AV.int j6 (t.held.getD i_1 0)=AV.int j6 ((locP t i).fst.held.getD i_1 0))/\True
def qur:=(RR 8/\∀ (i_1:Nat),AV.int j6 (t.regs.getD i_1 0)=q1k t i i_1)/\qar t i
def qus:=RR zd/\qw t i/\qx t i/\(RR j6/\i.n=(locP t i).fst.pc)/\qur t i
def qut:=t.regs.getD i.b.toNat 0 != 0
def quu:=RR zd/\qw t i/\qx t i/\q21 t i/\qur t i
end
theorem z10q (t:Thr) (i:Inst):zvz t i=(InR j6 (q39 t)/\((i.op == 1)=true->inIx i.a 8/\RR zd/\qw t i/\qx t i/\q21 t i/\(RR 8/\∀ (i_1:Nat),(if i_1=i.a.toNat then strip1 (AV.int j6 i.n) else AV.int j6 (t.regs.getD i_1 0))=q1k t i i_1)/\qar t i)/\((i.op == 1)=false->((i.op == 2)=true->inIx i.b 8/\inIx i.a 8/\RR zd/\qw t i/\qx t i/\q21 t i/\(RR 8/\∀ (i_1:Nat),(if i_1=i.a.toNat then strip1 (q6x t i) else AV.int j6 (t.regs.getD i_1 0))=q1k t i i_1)/\qar t i)/\((i.op == 2)=false->((i.op == 3)=true->inIx i.b 8/\inIx i.c 8/\KN 150 [AV.int j6 i.fn,q6x t i,AV.int j6 (t.regs.getD i.c.toNat (0:Int))] (AV.tup [q6y t i,AV.int j6 (qap t i).snd])/\inIx i.a 8/\RR zd/\qw t i/\qx t i/\q21 t i/\(RR 8/\∀ (i_1:Nat),(if i_1=i.a.toNat then strip1 (strip1 (q6y t i)) else AV.int j6 (t.regs.getD i_1 0))=q1k t i i_1)/\qar t i)/\((i.op == 3)=false->((i.op == 4)=true->qus t i)/\((i.op == 4)=false->((i.op == 5)=true->inIx i.b 8/\(qut t i=true->qus t i)/\(qut t i=false->quu t i))/\((i.op == 5)=false->quu t i)))))):=by kernel_rfl
theorem z10r (t : Thr) (i : Inst) (ht : TOK t) (hi : IReg i) (hpc : t.pc < 1000000 /\ 0 <= t.pc) (h6 : i.op ≠ 6 ∨ regT t i.b ≠ 0) (h7 : i.op ≠ 7) (h3 : i.op = 3 -> (app i.fn (regT t i.b) (regT t i.c)).2 = 0) : Known Tryz.prog GG 155 [vT t, vI i] (vT (locP t i).1)  := by
  refine Known.of (V := vL2 72 fun _ => none) (fn := Tryz.f155) Tryz.func155 (by kernel_rfl) (zv _) rfl ?_
  show zvz t i
  rw [z10q]; try delta q39 qw qx q21 q1k qar q6x qap q6y qur qus qut quu
  simp only [SB, inIx]
  have hr := ht.regs
  unfold regT at h3 h6
  refine ⟨zg (by omega) (by omega), ?_⟩
  repeat' (first | apply And.intro | intro _)
  all_goals first
    | (rw [zhu (by assumption) (by assumption) (by assumption) (by assumption) (by assumption) h7 h6]; done)
    | (rw [zhu (by assumption) (by assumption) (by assumption) (by assumption) (by assumption) h7 h6]; rfl)
    | ((with_reducible show Known _ _ 150 _ _); exact zzx _ _ _)
    | omega
    | (have := hi.a (by simp only [*]; rfl); omega)
    | (have := hi.b (by simp only [*]; rfl); omega)
    | (have := hi.c (by simp only [*]; rfl); omega)
    | (simp only [locP, regT, endT, reduceIte, Int.reduceEq, *]; done)
    | (simp only [locP, regT, endT, reduceIte, Int.reduceEq, *]; exact zht _ _ _ hr (hi.a (by simp only [*]; rfl)) _)
    | (have h3' := h3 (by assumption); simp only [locP, regT, endT, reduceIte, Int.reduceEq, *]; done)
    | (have h3' := h3 (by assumption); simp only [locP, regT, endT, reduceIte, Int.reduceEq, *]; exact zht _ _ _ hr (hi.a (by simp only [*]; rfl)) _)
end
end
end Go.Proofs.S25
namespace Go.Proofs.S25
open Go Go.AV
open Go.IntKind renaming i64 -> j6
open Go.AV.Shape (leaf)
noncomputable section
def spR0 : FuncId -> List AV -> Option AV
  | 84, [.int _ n] => some (.bool (decide (0 <= depI n)))
  | 213, [.int _ n] => some (.int .i64 (max (depI n) 0))
  | 157, [.mc _ t] => some (.tup [.int .i64 (z3d (dT t)), .bool (chB2 (dT t))])
  | f, l => spL f l
noncomputable def vR0 (n : Nat) (inv : Nat -> Option Inv) : VCtx := { C := cfgS n, CC := Known Tryz.prog GG, orc := fun _ _ => spR0, inv := inv }
def zlj (n : Int) (k : Nat) : Option Inv := match Nat.beq k 2 with
  | true => some { ι := Nat × Int, S := fun i => ⟨[(0, .int .i64 i.2), (3, .int .i64 i.1)], []⟩, μ := fun i => 5 - i.1, ok := fun i => i.1 <= 5 /\ i.2 <= 9223372036854775807 /\ ((i.1 = 0 /\ i.2 = n) ∨ (0 <= i.2 /\ depI n = depR i.2 (5 - i.1))) }
  | false => none
noncomputable def zw0 (n : Int) : Prop := fnVc (vR0 18 (zlj n)) Tryz.f84 [.int .i64 n] (.bool (decide (0 <= depI n)))
def zlk (n : Int) (k : Nat) : Option Inv := match Nat.beq k 4 with
  | true => some { ι := Nat × Int, S := fun i => ⟨[(0, .int .i64 i.2), (3, .int .i64 i.1)], []⟩, μ := fun i => 5 - i.1, ok := fun i => i.1 <= 5 /\ i.2 <= 9223372036854775807 /\ 0 <= i.2 /\ 0 <= depI n /\ depI n = depR i.2 (5 - i.1) }
  | false => none
noncomputable def zw1 (n : Int) : Prop := fnVc (vR0 15 (zlk n)) Tryz.f213 [.int .i64 n] (.int .i64 (max (depI n) 0))
noncomputable def zll (t : Thr) : Prop := fnVc (vR0 31 fun _ => none) Tryz.f157 [vT t] (.tup [.int .i64 (z3d t), .bool (chB2 t)])
end
end Go.Proofs.S25
namespace Go.Proofs.S25
open Go Go.AV
open Go.IntKind renaming i64 -> j6
open Go.AV.Shape (leaf)
noncomputable section
open Go.IntKind renaming i64 -> j6
open Go.AV.Shape (leaf)
noncomputable section

theorem zsu {n : Int} (h : n < 0) : depI n = -1 := if_pos h
theorem zlm {n : Int} (h : 0 <= n) : depI n = depR n 5 := if_neg (by omega)
theorem zf5 {n : Int} {k : Nat} : depR n (k + 1) = if n < 8 then 5 - ((k : Int) + 1) else if 7 <= n.tmod 8 then -1 else depR (n.tdiv 8 - 1) k := rfl
theorem zdn {n : Int} {a : Nat} {b : Int} (h5 : a < 5) (hp : 0 <= b) (a3 : (a = 0 /\ b = n) ∨ (0 <= b /\ depI n = depR b (5 - a))) : ∃ k, 5 - a = k + 1 /\ depI n = depR b (k + 1) := by
  refine ⟨5 - a - 1, by omega, ?_⟩
  rcases a3 with ⟨h, rfl⟩ | ⟨_, h⟩
  . subst h; exact zlm hp
  . rw [h]; congr 1; omega
section
variable (n:Int) (x1:Nat × Int)
def qgb:=x1.fst<=5/\x1.snd<=9223372036854775807/\(x1.fst=0/\x1.snd=n∨0<=x1.snd/\depI n=depR x1.snd (q18 x1))
def q6z:=decide (0<=depI n)
def qgc:=false=q6z n
variable (x0:Nat × Int)
def quv:=decide (x0.snd < 0)
def quw:=decide (↑x0.fst<=(4:Int))
end
theorem z10s (n:Int):zw0 n=((∃ i,qgb n i/\((RR j6/\n=i.snd)/\(RR j6/\(0:Int)=↑i.fst)/\True)/\True)/\∀ i:Nat × Int,qgb n i->(quw i=true->(quv i=true->qgc n)/\(quv i=false->(q6q i=true->true=q6z n)/\(q6q i=false->(8:Int)≠(0:Int)/\InR j6 (i.snd.tmod (8:Int))/\(q6r i=true->qgc n)/\(q6r i=false->(8:Int)≠(0:Int)/\InR j6 (i.snd.tdiv (8:Int))/\InR j6 (q2j i)/\InR j6 (q2k i)/\(∃ j,qgb n j/\q18 j < q18 i/\((RR j6/\q2j i=j.snd)/\(RR j6/\q2k i=↑j.fst)/\True)/\True)))))/\(quw i=false->qgc n)):=by kernel_rfl
theorem zsv (n : Int) (h1 : n <= 9223372036854775807) : Known Tryz.prog GG 84 [.int .i64 n] (.bool (decide (0 <= depI n)))  := by
  refine Known.of (V := vR0 18 (zlj n)) (fn := Tryz.f84) Tryz.func84 (by kernel_rfl) (zv _) rfl ?_
  show zw0 n
  rw [z10s]; try delta q18 qgb q6z qgc quv q6q q6r q2j q2k quw
  simp only [SB]
  refine ⟨⟨(0, n), ⟨by simp, h1, .inl ⟨rfl, rfl⟩⟩, rfl, rfl⟩, fun i hi => ⟨fun hle => ⟨fun hneg => ?_, fun hpos => ⟨fun h8 => ?_, fun h8 => ⟨by omega, by rw [tr (by omega)]; exact zg (by omega) (by omega), fun h7 => ?_, fun h7 => ⟨by omega, by rw [tq (by omega)]; exact zg (by omega) (by omega), by rw [tq (by omega)]; exact zg (by omega) (by omega), zg (by omega) (by omega), (i.1 + 1, i.2.tdiv 8 - 1), ⟨by show i.1 + 1 <= 5; omega, ?_, .inr ⟨?_, ?_⟩⟩, by show 5 - (i.1 + 1) < 5 - i.1; omega, rfl, rfl⟩⟩⟩⟩, fun hgt => ?_⟩⟩
  all_goals obtain ⟨a1, a2, a3⟩ := hi
  . rcases a3 with ⟨_, rfl⟩ | ⟨h, _⟩
    . rw [zsu hneg]; rfl
    . omega
  . obtain ⟨k, hk, e⟩ := zdn (n := n) (show i.1 < 5 by omega) (by omega) a3
    rw [e, zf5, if_pos h8]; symm; rw [decide_eq_true_eq]; omega
  . obtain ⟨k, hk, e⟩ := zdn (n := n) (show i.1 < 5 by omega) (by omega) a3
    rw [e, zf5, if_neg h8, if_pos h7]; rfl
  . show i.2.tdiv 8 - 1 <= _; rw [tq (by omega)]; omega
  . show 0 <= i.2.tdiv 8 - 1; rw [tq (by omega)]; omega
  . obtain ⟨k, hk, e⟩ := zdn (n := n) (show i.1 < 5 by omega) (by omega) a3
    show depI n = depR (i.2.tdiv 8 - 1) (5 - (i.1 + 1))
    rw [e, zf5, if_neg h8, if_neg h7, show 5 - (i.1 + 1) = k from by omega]
  . rcases a3 with ⟨h, rfl⟩ | ⟨_, h⟩
    . omega
    . rw [h, show 5 - i.1 = 0 from by omega]; rfl
section
variable (n:Int)
def qux:=!q6z n
variable (x1:Nat × Int)
def qgd:=x1.fst<=5/\x1.snd<=9223372036854775807/\0<=x1.snd/\0<=depI n/\depI n=depR x1.snd (q18 x1)
variable (x0:Nat × Int)
def quy:=decide (8<=x0.snd)
end
theorem z10t (n:Int):zw1 n=(KN 84 [AV.int j6 n] (AV.bool (q6z n))/\(qux n=true->RR j6/\0=max (depI n) 0)/\(qux n=false->(∃ i,qgd n i/\((RR j6/\n=i.snd)/\(RR j6/\(0:Int)=↑i.fst)/\True)/\True)/\∀ i:Nat × Int,qgd n i->(quy i=true->(8:Int)≠(0:Int)/\InR j6 (i.snd.tdiv (8:Int))/\InR j6 (q2j i)/\InR j6 (q2k i)/\(∃ j,qgd n j/\q18 j < q18 i/\((RR j6/\q2j i=j.snd)/\(RR j6/\q2k i=↑j.fst)/\True)/\True))/\(quy i=false->RR j6/\↑i.fst=max (depI n) 0))):=by kernel_rfl
theorem z10u (n : Int) (h1 : n <= 9223372036854775807) : Known Tryz.prog GG 213 [.int .i64 n] (.int .i64 (max (depI n) 0))  := by
  refine Known.of (V := vR0 15 (zlk n)) (fn := Tryz.f213) Tryz.func213 (by kernel_rfl) (zv _) rfl ?_
  show zw1 n
  rw [z10t]; try delta q6z qux q18 qgd q2j q2k quy
  simp only [SB]
  refine ⟨zsv n h1, fun h => by omega, fun h0 => ⟨⟨(0, n), ⟨by simp, h1, (zdm h0).1, h0, zlm (zdm h0).1⟩, rfl, rfl⟩, fun i hi => ⟨fun h8 => ⟨by omega, by rw [tq (by omega)]; exact zg (by omega) (by omega), by rw [tq (by omega)]; exact zg (by omega) (by omega), zg (by omega) (by omega), (i.1 + 1, i.2.tdiv 8 - 1), ?_, ?_, rfl, rfl⟩, fun h8 => ?_⟩⟩⟩
  all_goals obtain ⟨a1, a2, a3, a4, a5⟩ := hi
  . have h4 : i.1 < 5 := by
      rcases Nat.lt_or_ge i.1 5 with h | h
      . exact h
      . rw [show 5 - i.1 = 0 from by omega] at a5; have : depI n = -1 := a5; omega
    obtain ⟨k, hk⟩ : ∃ k, 5 - i.1 = k + 1 := ⟨5 - i.1 - 1, by omega⟩
    rw [hk, zf5, if_neg (by omega)] at a5
    split at a5
    . omega
    . refine ⟨by show i.1 + 1 <= 5; omega, ?_, ?_, h0, ?_⟩
      . show i.2.tdiv 8 - 1 <= _; rw [tq (by omega)]; omega
      . show 0 <= i.2.tdiv 8 - 1; rw [tq (by omega)]; omega
      . rw [a5]; show _ = depR (i.2.tdiv 8 - 1) (5 - (i.1 + 1)); rw [show 5 - (i.1 + 1) = k from by omega]
  . have h4 : i.1 < 5 := by
      rcases Nat.lt_or_ge i.1 5 with h | h
      . exact h
      . rw [show 5 - i.1 = 0 from by omega] at a5; have : depI n = -1 := a5; omega
    show 5 - (i.1 + 1) < 5 - i.1; omega
  . rcases Nat.lt_or_ge i.1 5 with h | h
    . obtain ⟨k, hk⟩ : ∃ k, 5 - i.1 = k + 1 := ⟨5 - i.1 - 1, by omega⟩
      rw [hk, zf5, if_pos (by omega)] at a5; omega
    . rw [show 5 - i.1 = 0 from by omega] at a5; have : depI n = -1 := a5; omega
section
variable (t:Thr)
def quz:=decide (0<=depI t.id)
def qv0:=!quz t
def qge:=(!qv0 t)=true
def qas:=qge t->qge t
def qv1:=qv0 t||max (depI t.id) 0 == 4
def qv2:=(!qv1 t)=true
def qgf:=qv2 t->qv2 t
def qv3:=qv1 t||decide (t.kids < 0)
def qv4:=(!qv3 t)=true
def qgg:=qv4 t->qv4 t
def qv5:=qv3 t||decide (7<=t.kids)
end
theorem zsw (t:Thr):zll t=(KN 84 [AV.int j6 t.id] (AV.bool (quz t))/\qas t/\qas t/\(qge t->KN 213 [AV.int j6 t.id] (AV.int j6 (max (depI t.id) (0:Int))))/\qas t/\qas t/\qgf t/\qgf t/\qgf t/\qgg t/\qgg t/\qgg t/\(qv5 t=true->(RR j6/\0=z3d t)/\false=chB2 t/\True)/\(qv5 t=false->InR j6 (qah t)/\InR j6 (qai t)/\InR j6 (q6s t)/\(RR j6/\q6s t=z3d t)/\true=chB2 t/\True)):=by kernel_rfl
theorem zsx (t : Thr) (_ : t.regs.length = 8) (h1 : t.id <= 9223372036854775807) : Known Tryz.prog GG 157 [vT t] (.tup [.int .i64 (z3d t), .bool (chB2 t)])  := by
  refine Known.of (V := vR0 31 fun _ => none) (fn := Tryz.f157) Tryz.func157 (by kernel_rfl) (zv _) rfl ?_
  show zll t
  rw [zsw]; try delta quz qv0 qge qas qv1 qv2 qgf qv3 qv4 qgg qv5 qah qai q6s
  simp only [SB]
  refine ⟨zsv _ h1, fun _ => z10u _ h1, fun h => ?_, fun h => ?_⟩
  . have e : chB2 t = false := by unfold chB2; simp only [Bool.not_eq_false', Bool.or_eq_true, decide_eq_true_eq, beq_iff_eq]; omega
    unfold z3d; rw [e]; exact ⟨rfl, rfl⟩
  . have e : chB2 t = true := by unfold chB2; simp only [Bool.not_eq_true', Bool.or_eq_false_iff, decide_eq_false_iff_not, beq_eq_false_iff_ne]; omega
    have := zdm (id := t.id) (by omega)
    unfold z3d; rw [e]
    exact ⟨zg (by omega) (by omega), zg (by omega) (by omega), zg (by omega) (by omega), rfl, rfl⟩
end
end
end Go.Proofs.S25
namespace Go.Proofs.S25
open Go Go.AV
open Go.IntKind renaming i64 -> j6
open Go.AV.Shape (leaf)
noncomputable section
structure POk (p : PProg) : Prop where
  sm : PSm p
  ok : (zb p).1 = 0
theorem zf6 {p : PProg} : ∀ k, k <= p.funs.length -> (z78 p k).1 = 0 -> ∀ i, p.funs.length - k <= i -> i < p.funs.length -> (z2j p (p.funs.getD i c0f)).1 = 0
  | 0, _, _, i, h1, h2 => by omega
  | k + 1, hk, h, i, h1, h2 => by
    simp only [z78] at h
    split at h
    . rename_i hb
      have hb' : (z2j p (p.funs.getD (p.funs.length - (k + 1)) c0f)).1 ≠ 0 := by simpa using hb
      exact absurd h hb'
    . rename_i hb
      have hb' : (z2j p (p.funs.getD (p.funs.length - (k + 1)) c0f)).1 = 0 := by simpa using hb
      by_cases e : i = p.funs.length - (k + 1)
      . subst e; exact hb'
      . exact zf6 k (by omega) h i (by omega) h2
theorem zhv {p : PProg} {f : PFun} : ∀ k, k <= f.code.length -> (z6e p f k).1 = 0 -> ∀ i, f.code.length - k <= i -> i < f.code.length -> z2r p (f.code.getD i c0i) f.code.length = 0
  | 0, _, _, i, h1, h2 => by omega
  | k + 1, hk, h, i, h1, h2 => by
    simp only [z6e] at h
    split at h
    . rename_i hb
      have hb' : z2r p (f.code.getD (f.code.length - (k + 1)) c0i) f.code.length ≠ 0 := by simpa using hb
      exact absurd h hb'
    . rename_i hb
      have hb' : z2r p (f.code.getD (f.code.length - (k + 1)) c0i) f.code.length = 0 := by simpa using hb
      by_cases e : i = f.code.length - (k + 1)
      . subst e; exact hb'
      . exact zhv k (by omega) h i (by omega) h2
theorem zhw {p : PProg} : ∀ k, k <= p.thr.length -> z7o p k = 0 -> ∀ i, p.thr.length - k <= i -> i < p.thr.length -> (0 <= (p.thr.getD i c0s).fn /\ (p.thr.getD i c0s).fn < p.funs.length) /\ valB (p.thr.getD i c0s).arg = true
  | 0, _, _, i, h1, h2 => by omega
  | k + 1, hk, h, i, h1, h2 => by
    simp only [z7o] at h
    split at h
    . omega
    . split at h
      . omega
      . rename_i q1 q2
        by_cases e : i = p.thr.length - (k + 1)
        . subst e; exact ⟨by omega, by simpa using q2⟩
        . exact zhw k (by omega) h i (by omega) h2
theorem zdo {p : PProg} (h : (zb p).1 = 0) : z1s p = 0 /\ (zr p).1 = 0 /\ z1o p = 0 := by
  unfold zb at h
  split at h
  . rename_i q; exact absurd h (by simpa using q)
  . split at h
    . rename_i q; exact absurd h (by simpa using q)
    . rename_i q1
      split at h
      . rename_i q; exact absurd h (by simpa using q)
      . rename_i q2
        exact ⟨by simpa using q1, by simpa using q2, h⟩
theorem POk.code {p : PProg} (h : POk p) {f : Nat} (hf : f < p.funs.length) : (p.funs.getD f c0f).code.length <= 64 /\ ∀ i, i < (p.funs.getD f c0f).code.length -> z2r p ((p.funs.getD f c0f).code.getD i c0i) (p.funs.getD f c0f).code.length = 0 := by
  have h1 := zf6 p.funs.length (Nat.le_refl _) (zdo h.ok).2.1 f (by omega) hf
  unfold z2j at h1
  split at h1
  . exact absurd h1 (by decide)
  . rename_i hl
    exact ⟨by omega, fun i hi => zhv _ (Nat.le_refl _) h1 i (by omega) hi⟩
theorem POk.thr {p : PProg} (h : POk p) : (1 <= p.thr.length /\ p.thr.length <= 8) /\ ∀ i, i < p.thr.length -> (0 <= (p.thr.getD i c0s).fn /\ (p.thr.getD i c0s).fn < p.funs.length) /\ valB (p.thr.getD i c0s).arg = true := by
  have h1 := (zdo h.ok).2.2
  unfold z1o at h1
  split at h1
  . omega
  . exact ⟨by omega, fun i hi => zhw _ (Nat.le_refl _) h1 i (by omega) hi⟩
theorem POk.objs {p : PProg} (h : POk p) : (p.vars.length <= 8 /\ p.muts.length <= 4 /\ p.conds.length <= 4 /\ p.funs.length <= 8) /\ ∀ v ∈ p.vars, valB v.init = true := by
  have h1 := (zdo h.ok).1
  unfold z1s at h1
  split at h1
  . omega
  . rename_i q
    split at h1
    . rename_i q2
      exact ⟨by omega, List.all_eq_true.1 q2⟩
    . omega
theorem z5i {n : Int} : valB n = true ↔ -2147483648 <= n /\ n <= 2147483647 := by unfold valB; simp only [Bool.and_eq_true, decide_eq_true_eq]
theorem zf7 {n : Int} : wr n = n ↔ -2147483648 <= n /\ n <= 2147483647 := by unfold wr; omega
theorem zbe {p : PProg} {i : Inst} {n : Int} (h : z2r p i n = 0) : z13 i = 0 /\ zex p i = false /\ ((i.op = 4 ∨ i.op = 5) -> 0 <= i.n /\ i.n <= n) := by
  unfold z2r at h
  split at h
  . rename_i q; exact absurd h (by simpa using q)
  . rename_i q
    split at h
    . omega
    . rename_i q2
      split at h
      . omega
      . rename_i q3
        refine ⟨by simpa using q, by simpa using q2, fun ho => ?_⟩
        have : ¬ (((i.op = 4 ∨ i.op = 5) /\ (i.n < 0 ∨ n < i.n))) := by simpa [Bool.and_eq_true, Bool.or_eq_true] using q3
        omega
theorem zf8 {i : Inst} (h : z13 i = 0) : IReg i := by
  have hk := zs2 h
  have h3 : ∀ k, k < 3 -> badR i k = false := by
    unfold z13 at h
    split at h
    . omega
    . split at h
      . omega
      . split at h
        . omega
        . rename_i q
          intro k hk
          cases hb : badR i k with
          | false => rfl
          | true => exact absurd (List.any_eq_true.2 ⟨k, List.mem_range.2 hk, hb⟩) q
  have key : ∀ k, k < 3 -> z1l i.op k = true -> 0 <= fldI i k /\ fldI i k < 8 := by
    intro k hk hu
    have := h3 k hk
    unfold badR at this
    rw [hu, Bool.true_and, Bool.or_eq_false_iff, decide_eq_false_iff_not, decide_eq_false_iff_not] at this
    omega
  exact ⟨key 0 (by omega), key 1 (by omega), key 2 (by omega)⟩
theorem zln {f : Int} (h : nameF f ≠ []) : 1 <= f /\ f <= 10 := by
  unfold nameF at h
  split at h
  . exact absurd rfl h
  . omega
theorem zsy {i : Inst} (h : z13 i = 0) : (z1l i.op 6 = true -> 0 <= i.ord /\ i.ord <= 2) /\ (z1l i.op 5 = true -> 1 <= i.fn /\ i.fn <= 10) /\ (i.op = 1 -> -2147483648 <= i.n /\ i.n <= 2147483647) /\ ∀ k, k < 7 -> z1l i.op k = false -> fldI i k = 0 := by
  unfold z13 at h
  split at h
  . omega
  . split at h
    . omega
    . rename_i q7
      split at h
      . omega
      . split at h
        . omega
        . rename_i q1
          split at h
          . omega
          . rename_i q2
            split at h
            . omega
            . rename_i q3
              refine ⟨fun hu => ?_, fun hu => ?_, fun ho => ?_, fun k hk hu => ?_⟩
              . rw [hu, Bool.true_and, Bool.or_eq_true, decide_eq_true_eq, decide_eq_true_eq] at q1; omega
              . rw [hu, Bool.true_and, beq_iff_eq] at q2; exact zln q2
              . rw [ho] at q3; simp only [Bool.and_eq_true, beq_self_eq_true, Bool.or_eq_true, decide_eq_true_eq, true_and] at q3; omega
              . have hb : badF i k = false := by
                  cases hb : badF i k with
                  | false => rfl
                  | true => exact absurd (List.any_eq_true.2 ⟨k, List.mem_range.2 hk, hb⟩) q7
                unfold badF at hb
                rw [hu] at hb
                simpa using hb
theorem zw2 {f a b : Int} (h : 1 <= f /\ f <= 10) : (app f a b).2 = 0 := by
  unfold app
  repeat' split
  all_goals first | rfl | omega
def vsT (b : Int) (t : Thr) (i : Inst) : Thr := if obsE t i ≠ 0 then endT t 3 (obsE t i) else if t.steps = b then endT t 4 0 else t
def z4x (p : PProg) (b : Int) : Nat -> Thr -> Thr
  | 0, t => if atB p t = false then endT t 2 0 else if visB (atI p t).op then vsT b t (atI p t) else endT t 3 29
  | k + 1, t => if atB p t = false then endT t 2 0 else if visB (atI p t).op then vsT b t (atI p t) else
    if (locP t (atI p t)).2 then z4x p b k (locP t (atI p t)).1 else (locP t (atI p t)).1
def setl (p : PProg) (b : Int) (t : Thr) : Thr := z4x p b 256 t
def spSe : FuncId -> List AV -> Option AV
  | 139, [.mc _ p, .int _ b, .mc _ t] | 86, [.mc _ p, .int _ b, .mc _ t] => some (vT (setl (dP p) b (dT t)))
  | 103, [.mc _ p, .mc _ t] => some (z9m ((dP p).funs.getD (dT t).fn.toNat c0f).code)
  | 153, [.mc _ t, .mc _ i] => some (.int .i64 (obsE (dT t) (dIn i)))
  | 154, [.mc _ t, .int _ e] => some (vT (endT (dT t) 3 e))
  | 212, [.seq _ n f, .int _ v] => some (.bool (hasI (z1b n f) v))
  | f, l => spR0 f l
noncomputable def vS2 (n : Nat) (inv : Nat -> Option Inv) : VCtx := { C := cfgS n, CC := Known Tryz.prog GG, orc := fun _ _ => spSe, inv := inv }
structure TWf (p : PProg) (t : Thr) : Prop where
  ok : TOK t
  fn : 0 <= t.fn /\ t.fn < p.funs.length
  pc : 0 <= t.pc /\ t.pc <= ((p.funs.getD t.fn.toNat c0f).code.length : Int)
noncomputable def zq3 (p : PProg) (t : Thr) : Prop := fnVc (vS2 12 fun _ => none) Tryz.f103 [vP p, vT t] (z9m (p.funs.getD t.fn.toNat c0f).code)
noncomputable def zlo (t : Thr) (e : Int) : Prop := fnVc (vS2 9 fun _ => none) Tryz.f154 [vT t, .int .i64 e] (vT (endT t 3 e))
noncomputable def zq4 (l : List Int) (v : Int) : Prop := fnVc (vS2 18 (zlb l v)) Tryz.f212 [rowI l, .int .i64 v] (.bool (hasI l v))
noncomputable def zlp (t : Thr) (i : Inst) : Prop := fnVc (vS2 44 fun _ => none) Tryz.f153 [vT t, vI i] (.int .i64 (obsE t i))
def zlq (p : PProg) (b : Int) (t : Thr) (k : Nat) : Option Inv := match Nat.beq k 4 with
  | true => some { ι := Nat × Thr, S := fun i => ⟨[(1, .int .i64 b), (3, .ptr 3 []), (5, .ptr 5 []), (6, .ptr 6 []), (7, .int .i64 i.1)], [(3, .cell 27 za (encP p)), (5, .cell 51 zd (encT i.2)), (6, .cell 51 zd (encT c0t))]⟩, μ := fun i => 256 - i.1, ok := fun i => i.1 <= 256 /\ TWf p i.2 /\ setl p b t = z4x p b (256 - i.1) i.2 }
  | false => none
noncomputable def zw3 (p : PProg) (b : Int) (t : Thr) : Prop := fnVc { vS2 59 (zlq p b t) with fzL := fun _ => [61440] } Tryz.f139 [vP p, .int .i64 b, vT t] (vT (setl p b t))
def zhx (p : PProg) (b : Int) (t : Thr) (k : Nat) : Option Inv := match Nat.beq k 4 with
  | true => some { ι := Nat × Thr, S := fun i => ⟨[(1, .int .i64 b), (3, .ptr 3 []), (5, .ptr 5 []), (6, .ptr 6 []), (7, .int .i64 i.1)], [(3, .cell 27 za (encP p)), (5, .cell 51 zd (encT i.2)), (6, .cell 51 zd (encT c0t))]⟩, μ := fun i => 256 - i.1, ok := fun i => i.1 <= 256 /\ TWf p i.2 /\ i.2.fault = 0 /\ setl p b t = z4x p b (256 - i.1) i.2 }
  | false => none
noncomputable def zq5 (p : PProg) (b : Int) (t : Thr) : Prop := fnVc { vS2 75 (zhx p b t) with fzL := fun _ => [10] } Tryz.f86 [vP p, .int .i64 b, vT t] (vT (setl p b t))
end
end Go.Proofs.S25
