import Derived.Test.YtgcpdfihjmmggaaGreatDoorXz
import Derived.Test.YtgcpdfihjmmggaaGreatDoorXx
import Derived.Test.YtgcpdfihjmmggaaGreatDoorXk
import Derived.OpenShut
import Derived.ChangeArms
import Derived.DataReads
import Derived.Carry
import Derived.SizedLaws
import Derived.Below
import Derived.ChangeSame
import Derived.WideShapes
namespace Go.Proofs.S25
open Go Go.AV
open Go.IntKind renaming i64 -> j6
open Go.AV.Shape (leaf)
noncomputable section
def Rd (x y : AV) : Prop := ∀ (w : World) (F : Nat -> Prop) (v : Value), RepS w F v x -> RepS w F v y
def RdS (sh : Shape) (x y : AV) : Prop := ∀ j, j < sh.size -> Rd (z6 sh x j) (z6 sh y j)
theorem RdS.refl (sh : Shape) (x : AV) : RdS sh x x := fun _ _ _ _ _ h => h
theorem RdS.leaf {x y : AV} (hx : x.isOne = true) (hy : y.isOne = true) (h : Rd x y) : RdS .leaf x y := fun j _ w F v hv => by
  have hv : RepS w F v (z10 x) := hv
  show RepS w F v (z10 y)
  unfold z10 at *
  rw [hx] at hv
  rw [hy]
  exact h w F v hv
theorem RdS.mc {sh : Shape} {x y : AV} (h : RdS sh x y) : Rd (.mc sh x) (.mc sh y) := fun w F v hv => by
  cases hv with
  | mc cs _ _ hs hr => exact .mc cs _ _ hs fun j hj => h j hj w F _ (hr j hj)
theorem RdS.seq {sh : Shape} {n : Nat} {f g : Nat -> AV} (h : ∀ i, i < n -> RdS sh (f i) (g i)) : Rd (.seq sh n f) (.seq sh n g) := fun w F v hv => by
  cases hv with
  | seq0 => exact .seq0 _ _ _ _
  | seq g o n cap sh f cs h1 h2 h3 h4 => exact .seq g o n cap _ _ cs h1 h2 h3 fun i hi j hj => h i hi j hj w F _ (h4 i hi j hj)
def AllR : List Shape -> List AV -> List AV -> Prop
  | [], _, _ => True
  | s :: ss, x :: xs, y :: ys => RdS s x y /\ AllR ss xs ys
  | _, _, _ => False
theorem zms : ∀ (ss : List Shape) (xs ys : List AV), AllR ss xs ys -> ∀ j, j < Shape.sizes ss -> Rd (zf ss xs j) (zf ss ys j)
  | [], _, _, _, j, hj => absurd hj (Nat.not_lt_zero j)
  | s :: ss, x :: xs, y :: ys, h, j, hj => by
    simp only [zf]
    by_cases q : j < s.size
    . rw [if_pos q, if_pos q]; exact h.1 j q
    . rw [if_neg q, if_neg q]; exact zms ss xs ys h.2 _ (by simp only [Shape.sizes] at hj; omega)
  | _ :: _, [], _, h, _, _ => h.elim
  | _ :: _, _ :: _, [], h, _, _ => h.elim
theorem RdS.agg {ss : List Shape} {xs ys : List AV} (h : AllR ss xs ys) : RdS (.agg ss) (.agg xs) (.agg ys) := fun j hj => zms ss xs ys h j hj
theorem Rd.known {P : Program} {G : List (Nat × AV)} {f : FuncId} {args : List AV} {sh : Shape} {x y : AV} (h : Known P G f args (.mc sh x)) (hr : RdS sh x y) : Known P G f args (.mc sh y) :=
  h.imp fun w F v hv => (RdS.mc hr) w F v hv
theorem seq2 {sh : Shape} {f g : Nat -> AV} (h0 : RdS sh (f 0) (g 0)) (h1 : RdS sh (f 1) (g 1)) : RdS .leaf (.seq sh 2 f) (.seq sh 2 g) :=
  RdS.leaf rfl rfl (RdS.seq fun i hi => match i, hi with
    | 0, _ => h0
    | 1, _ => h1)
def tokB (t : Thr) : Bool := t.regs.length == 8 && (decide (t.id <= 9223372036854775807) && (decide (t.pc < 9223372036854775807) && decide (t.held.length <= 1000)))
def ssmB (s : SState) : Bool := decide (s.thr.length <= 1000) && (s.thr.all tokB && (decide (s.mem.vars.length <= 1000) && (decide (s.mem.owners.length <= 1000) && (decide (s.mem.queues.length <= 1000) && (decide (s.mem.sig.length <= 1000) && (decide ((allI s.mem).length <= 1000) && (decide (s.bufs.length <= 1000) && s.bufs.all fun b => decide (b.entries.length <= 1000))))))))
theorem zu3 {s : SState} (h : ssmB s = true) : SSm s := by
  unfold ssmB at h
  simp only [Bool.and_eq_true, decide_eq_true_eq] at h
  obtain ⟨h1, h2, h3, h4, h5, h6, h7, h8, h9⟩ := h
  refine ⟨by omega, fun j => ?_, ⟨by omega, by omega, by omega, by omega, by omega⟩, by omega, fun j => ?_⟩
  . by_cases hj : j < s.thr.length
    . have := (z1u _ _ c0t).1 h2 j hj
      unfold tokB at this
      simp only [Bool.and_eq_true, decide_eq_true_eq, beq_iff_eq] at this
      exact ⟨this.1, this.2.1, this.2.2.1, this.2.2.2⟩
    . rw [List.getD_eq_getElem?_getD, List.getElem?_eq_none (by omega)]; exact zmm
  . by_cases hj : j < s.bufs.length
    . have := (z1u _ _ c0b).1 h9 j hj
      simp only [decide_eq_true_eq] at this
      omega
    . rw [List.getD_eq_getElem?_getD, List.getElem?_eq_none (by omega)]; exact Nat.zero_le _
def fewE (p : PProg) (i : Nat) : Nat := p.vars.length + p.muts.length + p.conds.length + p.thr.length + ((p.funs.take i).map fun f => f.code.length).sum
def fewB (p : PProg) : Bool := decide (p.funs.length <= 20) && decide (fewE p (min p.funs.length 20) <= 500)
def sl0 (s : SState) : Nat := s.thr.length + s.bufs.length + s.mem.vars.length + s.mem.owners.length + s.mem.queues.length + s.mem.sig.length
def slA (s : SState) (i : Nat) : Nat := sl0 s + ((s.bufs.take i).map fun b => b.entries.length).sum
def slB (s : SState) (i : Nat) : Nat := slA s (min s.bufs.length 50) + ((s.mem.queues.take i).map fun q => q.length).sum
def slC (s : SState) (i : Nat) : Nat := slB s (min s.mem.queues.length 50) + ((s.thr.take i).map fun t => t.held.length).sum
def z7r (s : SState) : Bool := decide (slC s (min s.thr.length 50) <= 300)
structure FitP (p : PProg) : Prop where
  vars : p.vars.length <= 140737488355328
  muts : p.muts.length <= 140737488355328
  conds : p.conds.length <= 140737488355328
  funs : p.funs.length <= 140737488355328
  thr : p.thr.length <= 140737488355328
  code : ∀ i, (p.funs.getD i c0f).code.length <= 140737488355328
structure NmP (p : PProg) : Prop where
  vn : ∀ i, (p.vars.getD i c0v).name.length <= 140737488355328
  mn : ∀ i, (p.muts.getD i []).length <= 140737488355328
  cn : ∀ i, (p.conds.getD i []).length <= 140737488355328
  fn : ∀ i, (p.funs.getD i c0f).name.length <= 140737488355328
structure FitS (s : SState) : Prop where
  thr : s.thr.length <= 140737488355328
  bufs : s.bufs.length <= 140737488355328
  vars : s.mem.vars.length <= 140737488355328
  owners : s.mem.owners.length <= 140737488355328
  queues : s.mem.queues.length <= 140737488355328
  sig : s.mem.sig.length <= 140737488355328
  ents : ∀ i, (s.bufs.getD i c0b).entries.length <= 140737488355328
  q : ∀ i, (s.mem.queues.getD i []).length <= 140737488355328
  held : ∀ i, (s.thr.getD i c0t).held.length <= 140737488355328
def sbP : PProg := ⟨[⟨[120], 0⟩, ⟨[121], 0⟩], [], [], [⟨[102], [⟨9, 0, 0, 0, 0, 0, 0, 0⟩, ⟨8, 1, 0, 0, 1, 0, 0, 0⟩]⟩, ⟨[103], [⟨9, 0, 0, 0, 1, 0, 0, 0⟩, ⟨8, 1, 0, 0, 0, 0, 0, 0⟩]⟩], [⟨0, 1⟩, ⟨1, 1⟩]⟩
def sbR : AV := .agg [rowV sbP.vars, rowS [], rowS [], .seq ze 2 fun i => ([.agg [.str [102], .seq zt 2 fun i => ([encI ⟨9, 0, 0, 0, 0, 0, 0, 0⟩, encI ⟨8, 1, 0, 0, 1, 0, 0, 0⟩] : List AV).getD i .any], .agg [.str [103], .seq zt 2 fun i => ([encI ⟨9, 0, 0, 0, 1, 0, 0, 0⟩, encI ⟨8, 1, 0, 0, 0, 0, 0, 0⟩] : List AV).getD i .any]] : List AV).getD i .any, zde sbP.thr]
def awS : Nat -> SState
  | 0 => (zi sbP 4).1
  | i + 1 => (z14 sbP 4 (awS i) (([0, 0, 1, 1] : List Int).getD i 0)).1
structure AwX where
  q : PProg
  s0 : SState × Int
  stp : SState -> Int -> SState × Ev × Int
  lab : SState -> Int -> Ev × Bool
  en : SState -> List Int
  z : Nat -> SState
def oLa (x : AwX) : FuncId -> List AV -> Option AV
  | 25, [] => some (vP x.q)
  | 12, [_, _] => some (.tup [vSt x.s0.1, .int .i64 x.s0.2])
  | 21, [_, _, .mc _ s, .int _ a] => some (.tup [vSt (x.stp (dSt s) a).1, vEv (x.stp (dSt s) a).2.1, .int .i64 (x.stp (dSt s) a).2.2])
  | 26, [_, .mc _ s, .int _ a] => some (.tup [vEv (x.lab (dSt s) a).1, .bool (x.lab (dSt s) a).2])
  | 22, [_, .mc _ s] => some (rowI (x.en (dSt s)))
  | 15, [.mc _ s] => some (.bool (drnB (dSt s).bufs))
  | 27, [x, y] => some (.bool (decide (dR dI x = dR dI y)))
  | _, _ => none
noncomputable def vLa (x : AwX) (n : Nat) (inv : Nat -> Option Inv) : VCtx := { C := { cfgM n fun _ _ => false with layB := fun d => Nat.beq d 82 }, CC := Known Tryz.prog GG, orc := fun _ _ => oLa x, inv := inv }
def awX : AwX := ⟨sbP, zi sbP 4, z14 sbP 4, z2w sbP, enTs sbP, awS⟩
def zz7 (a b : List Int) (k : Nat) : Option Inv := match Nat.beq k 4 with
  | true => some { ι := Nat, S := fun i => ⟨[(0, rowI a), (1, rowI b), (5, .int .i64 i)], []⟩, μ := fun i => a.length - i, ok := fun i => i <= a.length /\ a.length = b.length /\ ∀ j, j < i -> a.getD j 0 = b.getD j 0 }
  | false => none
noncomputable def zr4 (a b : List Int) : Prop := fnVc (vLa awX 26 (zz7 a b)) Tryz.f27 [rowI a, rowI b] (.bool (decide (a = b)))
def zr5 (p : PProg) (k : Nat) : Option Inv := match Nat.beq k 3 with
  | true => some { ι := Nat, S := fun i => ⟨[(1, .ptr 1 []), (3, .int .i64 (fewE p i)), (4, .int .i64 i)], [(1, z6j p)]⟩, μ := fun i => p.funs.length - i, ok := fun i => i <= p.funs.length /\ i <= 20 }
  | false => none
noncomputable def gFew (p : PProg) : Prop := fnVc (vLa awX 48 (zr5 p)) Tryz.f9 [vP p] (.bool (fewB p))
def zz8 (s : SState) (k : Nat) : Option Inv := match Nat.beq k 3 with
  | true => some { ι := Nat, S := fun i => ⟨[(1, .ptr 1 []), (3, .int .i64 (slA s i)), (4, .int .i64 i)], [(1, z3z s)]⟩, μ := fun i => s.bufs.length - i, ok := fun i => i <= s.bufs.length /\ i <= 50 }
  | false => match Nat.beq k 7 with
    | true => some { ι := Nat, S := fun i => ⟨[(1, .ptr 1 []), (3, .int .i64 (slB s i)), (5, .int .i64 i)], [(1, z3z s)]⟩, μ := fun i => s.mem.queues.length - i, ok := fun i => i <= s.mem.queues.length /\ i <= 50 }
    | false => match Nat.beq k 11 with
      | true => some { ι := Nat, S := fun i => ⟨[(1, .ptr 1 []), (3, .int .i64 (slC s i)), (6, .int .i64 i)], [(1, z3z s)]⟩, μ := fun i => s.thr.length - i, ok := fun i => i <= s.thr.length /\ i <= 50 }
      | false => none
noncomputable def gSl (s : SState) : Prop := fnVc (vLa awX 97 (zz8 s)) Tryz.f10 [vSt s] (.bool (z7r s))
noncomputable def gSb : Prop := fnVc (vLa awX 20 fun _ => none) Tryz.f25 [] (.mc za sbR)
def zz9 (x : AwX) (k : Nat) : Option Inv := match Nat.beq k 5 with
  | true => some { ι := Nat, S := fun i => ⟨[(1, .ptr 1 []), (2, .int .i64 0), (3, .own 19 4), (4, .int .i64 0), (5, .int .i64 i)], [(1, z3z (x.z i)), (19, iBox [0, 0, 1, 1])]⟩, μ := fun i => 4 - i, ok := fun i => i <= 4 }
  | false => none
noncomputable def gAw (x : AwX) : Prop := fnVc (vLa x 90 (zz9 x)) Tryz.f11 [] (.bool true)
end
end Go.Proofs.S25
namespace Go.Proofs.S25
open Go Go.AV
open Go.IntKind renaming i64 -> j6
open Go.AV.Shape (leaf)
noncomputable section
open Go.IntKind renaming i64 -> j6
open Go.AV.Shape (leaf)
noncomputable section

theorem zza (a b:List Int):zr4 a b=(q8e a/\↑b.length<=(9223372036854775807:Int)/\(q8g a b=true->q8f a b)/\(q8g a b=false->(∃ i,q3w a b i/\(q8h a/\q8i b/\(RR j6/\(0:Int)=↑i)/\True)/\True)/\∀ i:Nat,q3w a b i->q8e a/\(q8k a i=true->inIx (↑i) a.length/\inIx (↑i) b.length/\(q8j a b i=true->q8f a b)/\(q8j a b i=false->InR j6 (q8 i)/\(∃ j,q3w a b j/\a.length - j < a.length - i/\(q8h a/\q8i b/\(RR j6/\q8 i=↑j)/\True)/\True)))/\(q8k a i=false->true=decide (a=b)))):=by kernel_rfl
theorem zzb (a b : List Int) (ha : a.length <= 1000000) (hb : b.length <= 1000000) : Known Tryz.prog GG 27 [rowI a, rowI b] (.bool (decide (a = b)))  := by
  refine Known.of (V := vLa awX 26 (zz7 a b)) (fn := Tryz.f27) Tryz.func27 (by kernel_rfl) (z74 (by kernel_rfl)) rfl ?_
  show zr4 a b
  rw [zza]; try delta q8e q8f q8g q3w q8h q8i q8j q8 q8k
  simp only [SB, inIx]
  refine ⟨by omega, by omega, fun h => ?_, fun h => ⟨⟨0, ⟨by omega, by omega, fun j hj => by omega⟩, rfl⟩, fun i hi => ⟨by omega, fun hlt => ⟨hlt, by omega, fun hn => ?_, fun he => ⟨zg (by omega) (by omega), i + 1, ⟨by omega, hi.2.1, fun j hj => ?_⟩, by omega, by omega⟩⟩, fun hge => ?_⟩⟩⟩
  . exact d_no (by rintro rfl; exact h rfl)
  . exact d_no (by rintro rfl; exact hn rfl)
  . by_cases e : j = i
    . subst e; exact he
    . exact hi.2.2 j (by omega)
  . exact zmh (z2q hi.2.1 fun j hj => hi.2.2 j (by omega))
theorem zr6 (p : PProg) (i : Nat) (hi : i < p.funs.length) : fewE p (i + 1) = fewE p i + (p.funs.getD i c0f).code.length := by
  unfold fewE
  rw [List.take_add_one, List.getElem?_eq_getElem hi, List.map_append, List.sum_append, List.getD_eq_getElem?_getD, List.getElem?_eq_getElem hi]
  simp; omega
theorem zmt {p : PProg} (hp : FitP p) : ∀ i, i <= p.funs.length -> fewE p i <= (4 + i) * 140737488355328
  | 0, _ => by have := hp.vars; have := hp.muts; have := hp.conds; have := hp.thr; unfold fewE; simp; omega
  | i + 1, h => by
    rw [zr6 p i (by omega)]
    have := zmt hp i (by omega)
    have := hp.code i
    omega
section
variable (p:PProg)
def q18w:Int:=↑p.vars.length + ↑p.muts.length
def q18x:Int:=q18w p + ↑p.conds.length
def q18y:Int:=q18x p + ↑p.thr.length
variable (x1:Nat)
def ql8:=x1<=p.funs.length/\x1<=20
def q18z:=qr p x1=true
def q190:=q18z p x1->q18z p x1
def q191:Int:=(↑(p.funs.getD (↑x1:Int).toNat c0f).code.length:Int)
def q192:Int:=↑(fewE p x1) + q191 p x1
def q193:=qr p x1&&decide (↑x1 < (20:Int))
def q194:=decide (↑p.funs.length<=(20:Int))
def q195:=q194 p=true
def q196:=q195 p->q195 p
end
theorem eFew (p:PProg):gFew p=(↑p.vars.length<=(9223372036854775807:Int)/\↑p.muts.length<=(9223372036854775807:Int)/\InR j6 (q18w p)/\↑p.conds.length<=(9223372036854775807:Int)/\InR j6 (q18x p)/\↑p.thr.length<=(9223372036854775807:Int)/\InR j6 (q18y p)/\(∃ i,ql8 p i/\(RR (AV.ptr (1:Nat) [])/\(RR j6/\q18y p=↑(fewE p i))/\(RR j6/\(0:Int)=↑i)/\True)/\((27:Nat)=(27:TypeId)/\qa p)/\True)/\∀ i:Nat,ql8 p i->q6n p/\q190 p i/\q190 p i/\(q193 p i=true->inIx (↑i) p.funs.length/\q191 p i<=9223372036854775807/\InR j6 (q192 p i)/\InR j6 (q8 i)/\(∃ j,ql8 p j/\p.funs.length - j < p.funs.length - i/\(RR (AV.ptr (1:Nat) [])/\(RR j6/\q192 p i=↑(fewE p j))/\(RR j6/\q8 i=↑j)/\True)/\(RR (27:TypeId)/\qa p)/\True))/\(q193 p i=false->q6n p/\q196 p/\q196 p/\(q194 p&&decide (↑(fewE p i)<=(500:Int)))=fewB p)):=by kernel_rfl
theorem kFew (p : PProg) (hp : FitP p) : Known Tryz.prog GG 9 [vP p] (.bool (fewB p))  := by
  refine Known.of (V := vLa awX 48 (zr5 p)) (fn := Tryz.f9) Tryz.func9 (by kernel_rfl) (z74 (by kernel_rfl)) rfl ?_
  show gFew p
  rw [eFew]; try delta q18w q18x q18y ql8 qa q6n qr q18z q190 q191 q192 q8 q193 q194 q195 q196
  simp only [SB, inIx]
  have h1 := hp.vars
  have h2 := hp.muts
  have h3 := hp.conds
  have h4 := hp.thr
  have h5 := hp.funs
  refine ⟨by omega, by omega, zg (by omega) (by omega), by omega, zg (by omega) (by omega), by omega, zg (by omega) (by omega), ⟨0, ⟨by omega, by omega⟩, by unfold fewE; simp, rfl⟩, fun i hi => ?_⟩
  have hl := zmt hp i hi.1
  have h20 : (4 + i) * 140737488355328 <= 24 * 140737488355328 := Nat.mul_le_mul_right _ (by omega)
  have hc := hp.code i
  refine ⟨by omega, fun hlt => ⟨hlt.1, by omega, zg (by omega) (by omega), zg (by omega) (by omega), i + 1, ⟨by omega, by omega⟩, by omega, by rw [zr6 p i hlt.1]; omega, by omega⟩, fun hge => ⟨by omega, ?_⟩⟩
  unfold fewB
  rw [show min p.funs.length 20 = i from by omega]
  congr 1 <;> exact decide_eq_decide.2 (by omega)
theorem zor {α : Type} (l : List α) (d : α) (f : α -> Nat) (i : Nat) (hi : i < l.length) : ((l.take (i + 1)).map f).sum = ((l.take i).map f).sum + f (l.getD i d) := by
  rw [List.take_add_one, List.getElem?_eq_getElem hi, List.map_append, List.sum_append, List.getD_eq_getElem?_getD, List.getElem?_eq_getElem hi]
  simp
theorem zig {α : Type} (l : List α) (d : α) (f : α -> Nat) (B : Nat) (h : ∀ i, f (l.getD i d) <= B) : ∀ i, i <= l.length -> ((l.take i).map f).sum <= i * B
  | 0, _ => by simp
  | i + 1, hi => by
    rw [zor l d f i (by omega)]
    have := zig l d f B h i (by omega)
    have := h i
    rw [Nat.add_mul]; omega
theorem zzc {s : SState} (hs : FitS s) : sl0 s <= 6 * 140737488355328 := by
  have := hs.thr; have := hs.bufs; have := hs.vars; have := hs.owners; have := hs.queues; have := hs.sig
  unfold sl0; omega
theorem zr7 {s : SState} (hs : FitS s) (i : Nat) (hi : i <= s.bufs.length) (h50 : i <= 50) : slA s i <= 56 * 140737488355328 := by
  have h1 := zzc hs
  have h2 := zig s.bufs c0b (fun b => b.entries.length) _ hs.ents i hi
  have h3 : i * 140737488355328 <= 50 * 140737488355328 := Nat.mul_le_mul_right _ h50
  unfold slA; omega
theorem zr8 {s : SState} (hs : FitS s) (i : Nat) (hi : i <= s.mem.queues.length) (h50 : i <= 50) : slB s i <= 106 * 140737488355328 := by
  have h1 := zr7 hs (min s.bufs.length 50) (by omega) (by omega)
  have h2 := zig s.mem.queues [] (fun b => b.length) _ hs.q i hi
  have h3 : i * 140737488355328 <= 50 * 140737488355328 := Nat.mul_le_mul_right _ h50
  unfold slB; omega
theorem zzd {s : SState} (hs : FitS s) (i : Nat) (hi : i <= s.thr.length) (h50 : i <= 50) : slC s i <= 156 * 140737488355328 := by
  have h1 := zr8 hs (min s.mem.queues.length 50) (by omega) (by omega)
  have h2 := zig s.thr c0t (fun b => b.held.length) _ hs.held i hi
  have h3 : i * 140737488355328 <= 50 * 140737488355328 := Nat.mul_le_mul_right _ h50
  unfold slC; omega
section
variable (s:SState)
def q197:Int:=↑s.thr.length + ↑s.bufs.length
def q198:Int:=q197 s + ↑s.mem.vars.length
def q199:Int:=q198 s + ↑s.mem.owners.length
def q19a:=↑s.mem.queues.length<=(9223372036854775807:Int)
def q19b:Int:=q199 s + ↑s.mem.queues.length
def q19c:Int:=q19b s + ↑s.mem.sig.length
variable (x1:Nat)
def ql9:=x1<=s.bufs.length/\x1<=50
def q19d:=q30 s x1=true
def q19e:=q19d s x1->q19d s x1
def q19f:Int:=(↑(s.bufs.getD (↑x1:Int).toNat c0b).entries.length:Int)
def q19g:Int:=↑(slA s x1) + q19f s x1
def q99:=(RR (35:TypeId)/\q8p s)/\True
variable (x0:Nat)
def qla:=decide (↑x0 < (50:Int))
def q19h:=q30 s x1&&qla x1
def qlb:=x1<=s.mem.queues.length/\x1<=50
def q19i:=decide ((↑x1:Int) < (↑s.mem.queues.length:Int))
def q19j:=q19i s x1=true
def q19k:=q19j s x1->q19j s x1
def q19l:Int:=(↑(s.mem.queues.getD (↑x1:Int).toNat []).length:Int)
def q19m:Int:=↑(slB s x1) + q19l s x1
def q19n:Nat:=s.mem.queues.length - x1
def q19o:=q19i s x1&&qla x1
def qlc:=x1<=s.thr.length/\x1<=50
def q19p:=ql s x1=true
def q19q:=q19p s x1->q19p s x1
def q19r:Int:=(↑(s.thr.getD (↑x1:Int).toNat c0t).held.length:Int)
def q19s:Int:=↑(slC s x1) + q19r s x1
def q19t:=ql s x1&&qla x1
end
theorem eSl (s:SState):gSl s=(q32 s/\q8t s/\InR j6 (q197 s)/\↑s.mem.vars.length<=(9223372036854775807:Int)/\InR j6 (q198 s)/\↑s.mem.owners.length<=(9223372036854775807:Int)/\InR j6 (q199 s)/\q19a s/\InR j6 (q19b s)/\↑s.mem.sig.length<=(9223372036854775807:Int)/\InR j6 (q19c s)/\(∃ i,ql9 s i/\(RR (AV.ptr (1:Nat) [])/\(RR j6/\q19c s=↑(slA s i))/\qc i)/\((35:Nat)=(35:TypeId)/\q8p s)/\True)/\∀ i:Nat,ql9 s i->q8t s/\q19e s i/\q19e s i/\(q19h s i=true->inIx (↑i) s.bufs.length/\q19f s i<=9223372036854775807/\InR j6 (q19g s i)/\q9 i/\(∃ j,ql9 s j/\s.bufs.length - j < s.bufs.length - i/\(RR (AV.ptr 1 [])/\(RR j6/\q19g s i=↑(slA s j))/\qd i j)/\q99 s))/\(q19h s i=false->(∃ i_1,qlb s i_1/\(RR (AV.ptr 1 [])/\(RR j6/\(↑(slA s i):Int)=(↑(slB s i_1):Int))/\qc i_1)/\q99 s)/\∀ (i:Nat),qlb s i->q19a s/\q19k s i/\q19k s i/\(q19o s i=true->inIx (↑i:Int) s.mem.queues.length/\q19l s i<=9223372036854775807/\InR j6 (q19m s i)/\q9 i/\∃ j,qlb s j/\q19n s j < q19n s i/\(RR (AV.ptr 1 [])/\(RR j6/\q19m s i=(↑(slB s j):Int))/\qd i j)/\q99 s)/\(q19o s i=false->(∃ i_1,qlc s i_1/\(RR (AV.ptr 1 [])/\(RR j6/\(↑(slB s i):Int)=(↑(slC s i_1):Int))/\qc i_1)/\q99 s)/\∀ (i:Nat),qlc s i->q32 s/\q19q s i/\q19q s i/\(q19t s i=true->inIx (↑i:Int) s.thr.length/\q19r s i<=9223372036854775807/\InR j6 (q19s s i)/\q9 i/\∃ j,qlc s j/\s.thr.length - j < s.thr.length - i/\(RR (AV.ptr 1 [])/\(RR j6/\q19s s i=(↑(slC s j):Int))/\qd i j)/\q99 s)/\(q19t s i=false->decide ((↑(slC s i):Int)<=300)=z7r s)))):=by kernel_rfl
theorem kSl (s : SState) (hs : FitS s) : Known Tryz.prog GG 10 [vSt s] (.bool (z7r s))  := by
  refine Known.of (V := vLa awX 97 (zz8 s)) (fn := Tryz.f10) Tryz.func10 (by kernel_rfl) (z74 (by kernel_rfl)) rfl ?_
  show gSl s
  rw [eSl]; try delta q32 q8t q197 q198 q199 q19a q19b q19c ql9 qc q8p q30 q19d q19e q19f q19g q8 q9 qd q99 qla q19h qlb q19i q19j q19k q19l q19m q19n q19o qlc ql q19p q19q q19r q19s q19t
  simp only [SB, inIx]
  have h1 := hs.thr
  have h2 := hs.bufs
  have h3 := hs.vars
  have h4 := hs.owners
  have h5 := hs.queues
  have h6 := hs.sig
  refine ⟨by omega, by omega, zg (by omega) (by omega), by omega, zg (by omega) (by omega), by omega, zg (by omega) (by omega), by omega, zg (by omega) (by omega), by omega, zg (by omega) (by omega), ⟨0, ⟨by omega, by omega⟩, by unfold slA sl0; simp, rfl⟩, fun i hi => ?_⟩
  have hA := zr7 hs i hi.1 hi.2
  have hE := hs.ents i
  refine ⟨by omega, fun hlt => ⟨hlt.1, by omega, zg (by omega) (by omega), zg (by omega) (by omega), i + 1, ⟨by omega, by omega⟩, by omega, ?_, by omega⟩, fun hge => ⟨⟨0, ⟨by omega, by omega⟩, ?_, rfl⟩, fun q hq => ?_⟩⟩
  . have := zor s.bufs c0b (fun b => b.entries.length) i hlt.1
    unfold slA; rw [this]; omega
  . unfold slB
    rw [show min s.bufs.length 50 = i from by omega]; simp
  have hB := zr8 hs q hq.1 hq.2
  have hQ := hs.q q
  refine ⟨by omega, fun hlt => ⟨hlt.1, by omega, zg (by omega) (by omega), zg (by omega) (by omega), q + 1, ⟨by omega, by omega⟩, by omega, ?_, by omega⟩, fun hge => ⟨⟨0, ⟨by omega, by omega⟩, ?_, rfl⟩, fun r hr => ?_⟩⟩
  . have := zor s.mem.queues [] (fun b => b.length) q hlt.1
    unfold slB; rw [this]; omega
  . unfold slC
    rw [show min s.mem.queues.length 50 = q from by omega]; simp
  have hC := zzd hs r hr.1 hr.2
  have hH := hs.held r
  refine ⟨by omega, fun hlt => ⟨hlt.1, by omega, zg (by omega) (by omega), zg (by omega) (by omega), r + 1, ⟨by omega, by omega⟩, by omega, ?_, by omega⟩, fun hge => ?_⟩
  . have := zor s.thr c0t (fun b => b.held.length) r hlt.1
    unfold slC; rw [this]; omega
  . unfold z7r
    rw [show min s.thr.length 50 = r from by omega]
    exact decide_eq_decide.2 (by omega)
theorem two {P : Nat -> Prop} (h0 : P 0) (h1 : P 1) : ∀ i, i < 2 -> P i
  | 0, _ => h0
  | 1, _ => h1
def qld:=2 * ze.size<=16777216
def q19u:=2 * zt.size<=16777216
def q45:=2<=2
def q19v:List PVar:=[PVar.mk [120] 0,PVar.mk [121] 0]
def qle:List AV:=[AV.str [],AV.int j6 0]
def q19w:=(0:Nat)=(0:Nat)
def qlf:List AV:=AV.int j6 0::AV.int j6 0::AV.int j6 0::AV.int j6 0::AV.int j6 0::AV.int j6 0::q42
def q19x:List AV:=List.replicate 2 (AV.agg qlf)
def q19y:List AV:=qlf.set 0 (strip1 (AV.int j6 9))
def q19z:List AV:=(qlf.set 0 (strip1 (AV.int j6 8))).set 1 (strip1 (AV.int j6 1))
def q1a0:List PStart:=[PStart.mk 0 1,PStart.mk 1 1]
theorem eSb :gSb =(qld/\qld/\q19u/\q19u/\q45/\q45/\q45/\q45/\qld/\q45/\q45/\q45/\RR za/\(RR ze/\2=q19v.length/\∀ i:Nat,i < 2->(((List.replicate 2 (AV.agg qle)).set 0 (AV.agg (qle.set 0 (strip1 (AV.str [120]))))).set 1 (AV.agg (qle.set 0 (strip1 (AV.str [121]))))).getD i AV.any=encV (q19v.getD i c0v))/\q19w/\q19w/\(RR ze/\RR 2/\∀ i:Nat,i < 2->(((List.replicate 2 (AV.agg [AV.str [],AV.nils])).set 0 (AV.agg [AV.str [102],AV.seq zt 2 fun i=>((q19x.set 0 (AV.agg q19y)).set 1 (AV.agg (q19z.set 4 (strip1 (AV.int j6 1))))).getD i AV.any])).set 1 (AV.agg [AV.str [103],AV.seq zt 2 fun i=>((q19x.set 0 (AV.agg (q19y.set 4 (strip1 (AV.int j6 1))))).set 1 (AV.agg q19z)).getD i AV.any])).getD i AV.any=[AV.agg [AV.str [102],AV.seq zt 2 fun i=>[encI (Inst.mk 9 0 0 0 0 0 0 0),encI (Inst.mk 8 1 0 0 1 0 0 0)].getD i AV.any],AV.agg [AV.str [103],AV.seq zt 2 fun i=>[encI (Inst.mk 9 0 0 0 1 0 0 0),encI (Inst.mk 8 1 0 0 0 0 0 0)].getD i AV.any]].getD i AV.any)/\(RR ze/\2=q1a0.length/\∀ i:Nat,i < 2->(((List.replicate 2 (AV.agg q42)).set 0 (AV.agg ((q42.set 0 (strip1 (AV.int j6 0))).set 1 (strip1 (AV.int j6 1))))).set 1 (AV.agg ((q42.set 0 (strip1 (AV.int j6 1))).set 1 (strip1 (AV.int j6 1))))).getD i AV.any=encS (q1a0.getD i c0s))/\True):=by kernel_rfl
theorem kSb   : Known Tryz.prog GG 25 [] (.mc za sbR)  := by
  refine Known.of (V := vLa awX 20 fun _ => none) (fn := Tryz.f25) Tryz.func25 (by kernel_rfl) (z74 (by kernel_rfl)) rfl ?_
  show gSb
  rw [eSb]; try delta qld q19u q45 q19v qle q19w q42 qlf q19x q19y q19z q1a0
  simp only [SB]
  exact ⟨by decide, by decide, by decide, by decide, by decide, ⟨rfl, two rfl rfl⟩, two rfl rfl, rfl, two rfl rfl⟩
theorem kSb' : Known Tryz.prog GG 25 [] (vP sbP) :=
  Rd.known kSb (RdS.agg ⟨RdS.refl _ _, RdS.refl _ _, RdS.refl _ _, seq2 (RdS.agg ⟨RdS.refl _ _, seq2 (RdS.refl _ _) (RdS.refl _ _), trivial⟩) (RdS.agg ⟨RdS.refl _ _, seq2 (RdS.refl _ _) (RdS.refl _ _), trivial⟩), RdS.refl _ _, trivial⟩)
theorem z12o : ∀ i, i < 4 -> (z14 sbP 4 (awS i) (([0, 0, 1, 1] : List Int).getD i 0)).2.2 = 0 /\ (z14 sbP 4 (awS i) (([0, 0, 1, 1] : List Int).getD i 0)).2.1.read = 0 /\ ownK (zh sbP (awS i) (([0, 0, 1, 1] : List Int).getD i 0)).1 = true := by decide +kernel
theorem z12p : ∀ i, i < 5 -> ssmB (awS i) = true := by decide +kernel
theorem aw_sm' {i : Nat} (h : i <= 4) : SSm (awS i) := zu3 (z12p i (by omega))
theorem aw_n : ∀ i, i < 5 -> (awS i).thr.length <= 400000 := by decide +kernel
theorem z12q : (z14 sbP 4 (awS 4) 0).2.2 = 19 /\ hasI (agsT sbP (awS 4)) 0 = false := by decide +kernel
theorem zze : z2w sbP (awS 4) (-2) = (⟨-2, 0, 4, 1, -1, 0, 0, 0, 1⟩, true) := by decide +kernel
theorem zzf : enTs sbP (awS 4) = [-2, -1] := by decide +kernel
theorem z12r : drnB (awS 4).bufs = false := by decide +kernel
theorem z12s : (zi sbP 4).2 = 0 := by decide +kernel
theorem zmu : PSm sbP := by
  refine ⟨by decide, by decide, by decide, by decide, by decide, fun i => ?_, fun i => ?_, fun i => ?_, fun i => ?_, fun i => ?_⟩
  all_goals match i with
    | 0 => decide
    | 1 => decide
    | i + 2 => exact Nat.zero_le _
theorem four {P : Nat -> Prop} (h0 : P 0) (h1 : P 1) (h2 : P 2) (h3 : P 3) : ∀ i, i < 4 -> P i
  | 0, _ => h0
  | 1, _ => h1
  | 2, _ => h2
  | 3, _ => h3
theorem i01 (i : Nat) (h : i < 4) : I64 (([0, 0, 1, 1] : List Int).getD i 0) :=
  four (P := fun i => I64 (([0, 0, 1, 1] : List Int).getD i 0)) ⟨by decide, by decide⟩ ⟨by decide, by decide⟩ ⟨by decide, by decide⟩ ⟨by decide, by decide⟩ i h
theorem zzg : Known Tryz.prog GG 27 [rowI [-2, -1], AV.seq .leaf 2 fun i => (((List.replicate 2 (AV.int .i64 0)).set 0 (.int .i64 (-2))).set 1 (.int .i64 (-1))).getD i .any] (.bool (decide (([-2, -1] : List Int) = [-2, -1]))) :=
  (zzb [-2, -1] [-2, -1] (by decide) (by decide)).weaken (args' := [_, _]) rfl ⟨zop _, ⟨rfl, rfl, two rfl rfl⟩, trivial⟩
section
variable (x:AwX)
def qcm:=KN 25 [] (AV.mc za (encP x.q))
def q1a1:=RR 19/\RR 4
variable (x1:Nat) (x2:Nat)
def q1a2:=AV.int j6 (List.getD (Mem.vars (SState.mem (x.6 x1))) x2 (0:Int))
def q1a3:=AV.int j6 (List.getD (Mem.owners (SState.mem (x.6 x1))) x2 (0:Int))
def q1a4:=AV.int j6 (List.getD (Mem.sig (SState.mem (x.6 x1))) x2 (0:Int))
def qlg:List Int:=[0,0,1,1]
def qlh:Nat:=qlg.length
variable (x0:Nat)
def q1a5:=AV.int j6 (qlg.getD x0 0)
def q1a6:=decide ((↑x0:Int) < (↑(4:Nat):Int))
def q1a7:=q1a6 x0=true
def q1a8:=q1a7 x0->q1a7 x0
def q1a9:Int:=qlg.getD (↑x0:Int).toNat 0
def q1aa:SState × Ev × Int:=x.3 (dSt (z15 (x.6 x1))) (q1a9 x1)
def qcn:SState:=(q1aa x x1).fst
def q1ab:Ev × Int:=(q1aa x x1).snd
def q1ac:Ev:=(q1ab x x1).fst
def q1ad:Int:=(q1ab x x1).snd
def q1ae:Int:=0 + (q1ac x x1).read
def q1af:Nat:=4 - x0
def q1ag:List Thr:=(qcn x x1).thr
def q1ah:Nat:=(q1ag x x1).length
def qco:Mem:=(qcn x x1).mem
def q1ai:List Int:=(qco x x1).vars
def q1aj:Nat:=(q1ai x x1).length
def q1ak:List Int:=(qco x x1).owners
def q1al:Nat:=(q1ak x x1).length
def q1am:List (List Int):=(qco x x1).queues
def q1an:Nat:=(q1am x x1).length
def q1ao:List Int:=(qco x x1).sig
def q1ap:Nat:=(q1ao x x1).length
def q1aq:List Buf:=(qcn x x1).bufs
def q1ar:Nat:=(q1aq x x1).length
def qcp:=(0:Int) == (0:Int)
def q1as:=q1a6 x0&&qcp
def q1at:Ev × Bool:=x.4 (dSt (z15 (x.6 x1))) (-2:Int)
def q1t:Ev:=(q1at x x1).fst
def q1au:=(q1at x x1).snd
def q1av:Ev × Int:=Prod.snd (x.3 (dSt (z15 (x.6 x1))) (0:Int))
def q1aw:Int:=(q1av x x1).snd
def q1ax:=qcp=true
def q1ay:=q1ax->q1ax
def q1az:=qcp&&q1aw x x1 == 19
def q1b0:=q1az x x1=true
def q1b1:=q1b0 x x1->q1b0 x x1
def q1b2:=q1az x x1&&qcp
def q1b3:=q1b2 x x1=true
def q1b4:=q1b2 x x1&&q1au x x1
def q1b5:=q1b4 x x1=true
def qli:=q1b5 x x1->q1b5 x x1
def q1b6:=q1b4 x x1&&((q1t x x1).agent == -2&&((q1t x x1).idx == 0&&((q1t x x1).kind == 4&&((q1t x x1).obj == 1&&((q1t x x1).mutex == -1&&((q1t x x1).entry == 0&&((q1t x x1).ord == 0&&((q1t x x1).read == 0&&((q1t x x1).wrote == 1&&true)))))))))
def q5g:=q1b6 x x1=true
def q9a:=q5g x x1->q5g x x1
def q1b7:=decide (dR dI (rowI (x.5 (dSt (z15 (x.6 x1)))))=dR dI (AV.seq leaf (2:Nat) fun (i:Nat)=>List.getD (List.set (List.set (List.replicate (2:Nat) (AV.int j6 (0:Int))) (0:Nat) (strip1 (AV.int j6 (-2:Int)))) (1:Nat) (strip1 (AV.int j6 (-1:Int)))) i AV.any))
def q1b8:=q1b6 x x1&&q1b7 x x1
def qlj:=q1b8 x x1=true
def qlk:=qlj x x1->qlj x x1
end
theorem eAw (x:AwX):gAw x=(qcm x/\KN 12 [AV.mc za (encP x.q),AV.int j6 (4:Int)] (AV.tup [AV.mc stSh (z15 x.s0.fst),AV.int j6 x.s0.snd])/\4 * leaf.size<=16777216/\(∃ (i:Nat),i<=(4:Nat)/\(RR (AV.ptr (1:Nat) [])/\(RR j6/\Prod.snd (AwX.s0 x)=(0:Int))/\q1a1/\RI (0:Int)/\(RR j6/\(0:Int)=(↑i:Int))/\True)/\((35:Nat)=(35:TypeId)/\RR stSh/\(RR zd/\List.length (SState.thr (Prod.fst (AwX.s0 x)))=List.length (SState.thr (x.6 i))/\∀ (i_1:Nat),i_1 < List.length (SState.thr (Prod.fst (AwX.s0 x)))->encT (List.getD (SState.thr (Prod.fst (AwX.s0 x))) i_1 c0t)=encT (List.getD (SState.thr (x.6 i)) i_1 c0t))/\((RR leaf/\List.length (Mem.vars (SState.mem (Prod.fst (AwX.s0 x))))=List.length (Mem.vars (SState.mem (x.6 i)))/\∀ (i_1:Nat),i_1 < List.length (Mem.vars (SState.mem (Prod.fst (AwX.s0 x))))->AV.int j6 (List.getD (Mem.vars (SState.mem (Prod.fst (AwX.s0 x)))) i_1 (0:Int))=q1a2 x i i_1)/\(RR leaf/\List.length (Mem.owners (SState.mem (Prod.fst (AwX.s0 x))))=List.length (Mem.owners (SState.mem (x.6 i)))/\∀ (i_1:Nat),i_1 < List.length (Mem.owners (SState.mem (Prod.fst (AwX.s0 x))))->AV.int j6 (List.getD (Mem.owners (SState.mem (Prod.fst (AwX.s0 x)))) i_1 (0:Int))=q1a3 x i i_1)/\(RR leaf/\List.length (Mem.queues (SState.mem (Prod.fst (AwX.s0 x))))=List.length (Mem.queues (SState.mem (x.6 i)))/\∀ (i_1:Nat),i_1 < List.length (Mem.queues (SState.mem (Prod.fst (AwX.s0 x))))->rowI (List.getD (Mem.queues (SState.mem (Prod.fst (AwX.s0 x)))) i_1 [])=rowI (List.getD (Mem.queues (SState.mem (x.6 i))) i_1 []))/\(RR leaf/\List.length (Mem.sig (SState.mem (Prod.fst (AwX.s0 x))))=List.length (Mem.sig (SState.mem (x.6 i)))/\∀ (i_1:Nat),i_1 < List.length (Mem.sig (SState.mem (Prod.fst (AwX.s0 x))))->AV.int j6 (List.getD (Mem.sig (SState.mem (Prod.fst (AwX.s0 x)))) i_1 (0:Int))=q1a4 x i i_1)/\True)/\(RR zo/\List.length (SState.bufs (Prod.fst (AwX.s0 x)))=List.length (SState.bufs (x.6 i))/\∀ (i_1:Nat),i_1 < List.length (SState.bufs (Prod.fst (AwX.s0 x)))->encB (List.getD (SState.bufs (Prod.fst (AwX.s0 x))) i_1 c0b)=encB (List.getD (SState.bufs (x.6 i)) i_1 c0b))/\True)/\(RR (3:TypeId)/\RR leaf/\(4:Nat)=qlh/\∀ (i:Nat),i < (4:Nat)->List.getD (List.set (List.set (List.set (List.set (List.replicate (4:Nat) (AV.int j6 (0:Int))) (0:Nat) (strip1 (AV.int j6 (0:Int)))) (1:Nat) (strip1 (AV.int j6 (0:Int)))) (2:Nat) (strip1 (AV.int j6 (1:Int)))) (3:Nat) (strip1 (AV.int j6 (1:Int)))) i AV.any=q1a5 i)/\True)/\∀ i:Nat,i<=4->↑(4:Nat)<=(9223372036854775807:Int)/\q1a8 i/\q1a8 i/\(q1as i=true->qcm x/\inIx (↑i) 4/\(↑i:Int).toNat < qlh/\KN 21 [AV.mc za (encP (AwX.q x)),AV.int j6 (4:Int),AV.mc stSh (z15 (x.6 i)),AV.int j6 (q1a9 i)] (AV.tup [AV.mc stSh (z15 (qcn x i)),AV.mc evSh (z6c (q1ac x i)),AV.int j6 (q1ad x i)])/\InR j6 (q1ae x i)/\InR j6 (q8 i)/\(∃ (j:Nat),j<=(4:Nat)/\q1af j < q1af i/\(RR (AV.ptr (1:Nat) [])/\(RR j6/\q1ad x i=(0:Int))/\q1a1/\(RR j6/\q1ae x i=(0:Int))/\(RR j6/\q8 i=(↑j:Int))/\True)/\(RR (35:TypeId)/\RR stSh/\(RR zd/\q1ah x i=List.length (SState.thr (x.6 j))/\∀ (i_1:Nat),i_1 < q1ah x i->encT (List.getD (q1ag x i) i_1 c0t)=encT (List.getD (SState.thr (x.6 j)) i_1 c0t))/\((RR leaf/\q1aj x i=List.length (Mem.vars (SState.mem (x.6 j)))/\∀ (i_1:Nat),i_1 < q1aj x i->AV.int j6 (List.getD (q1ai x i) i_1 (0:Int))=q1a2 x j i_1)/\(RR leaf/\q1al x i=List.length (Mem.owners (SState.mem (x.6 j)))/\∀ (i_1:Nat),i_1 < q1al x i->AV.int j6 (List.getD (q1ak x i) i_1 (0:Int))=q1a3 x j i_1)/\(RR leaf/\q1an x i=List.length (Mem.queues (SState.mem (x.6 j)))/\∀ (i_1:Nat),i_1 < q1an x i->rowI (List.getD (q1am x i) i_1 [])=rowI (List.getD (Mem.queues (SState.mem (x.6 j))) i_1 []))/\(RR leaf/\q1ap x i=List.length (Mem.sig (SState.mem (x.6 j)))/\∀ (i_1:Nat),i_1 < q1ap x i->AV.int j6 (List.getD (q1ao x i) i_1 (0:Int))=q1a4 x j i_1)/\True)/\(RR zo/\q1ar x i=List.length (SState.bufs (x.6 j))/\∀ (i_1:Nat),i_1 < q1ar x i->encB (List.getD (q1aq x i) i_1 c0b)=encB (List.getD (SState.bufs (x.6 j)) i_1 c0b))/\True)/\(RR (3:TypeId)/\RW leaf qlh fun (i:Nat)=>q1a5 i)/\True))/\(q1as i=false->qcm x/\KN 26 [AV.mc za (encP (AwX.q x)),AV.mc stSh (z15 (x.6 i)),AV.int j6 (-2:Int)] (AV.tup [AV.mc evSh (z6c (q1t x i)),AV.bool (q1au x i)])/\qcm x/\KN 21 [AV.mc za (encP (AwX.q x)),AV.int j6 (4:Int),AV.mc stSh (z15 (x.6 i)),AV.int j6 (0:Int)] (AV.tup [AV.mc stSh (z15 (Prod.fst (x.3 (dSt (z15 (x.6 i))) (0:Int)))),AV.mc evSh (z6c (Prod.fst (q1av x i))),AV.int j6 (q1aw x i)])/\q1ay/\q1ay/\q1b1 x i/\q1b1 x i/\(q1b3 x i->q1b3 x i)/\qli x i/\qli x i/\qli x i/\(q5g x i->KN 25 [] (vP x.q))/\q9a x i/\q9a x i/\(q5g x i->KN 22 [AV.mc za (encP (AwX.q x)),AV.mc stSh (z15 (x.6 i))] (rowI (x.5 (dSt (z15 (x.6 i))))))/\(q5g x i->2 * leaf.size<=16777216)/\q9a x i/\q9a x i/\(q5g x i->KN 27 [rowI (x.5 (dSt (z15 (x.6 i)))),AV.seq leaf (2:Nat) fun (i:Nat)=>List.getD (List.set (List.set (List.replicate (2:Nat) (AV.int j6 (0:Int))) (0:Nat) (strip1 (AV.int j6 (-2:Int)))) (1:Nat) (strip1 (AV.int j6 (-1:Int)))) i AV.any] (AV.bool (q1b7 x i)))/\q9a x i/\qlk x i/\(qlj x i->KN 15 [AV.mc stSh (z15 (x.6 i))] (AV.bool (drnB (dR dB (rowB (SState.bufs (x.6 i)))))))/\qlk x i/\qlk x i/\(q1b8 x i&&!drnB (dR dB (rowB (SState.bufs (x.6 i)))))=true)):=by kernel_rfl
theorem kAw (x : AwX) (hx : x = awX) : Known Tryz.prog GG 11 [] (.bool true)  := by
  refine Known.of (V := vLa x 90 (zz9 x)) (fn := Tryz.f11) Tryz.func11 (by kernel_rfl) (z74 (by kernel_rfl)) rfl ?_
  show gAw x
  rw [eAw]; try delta qcm q1a1 q1a2 q1a3 q1a4 qlg qlh q1a5 q1a6 q1a7 q1a8 q1a9 q1aa qcn q1ab q1ac q1ad q1ae q8 q1af q1ag q1ah qco q1ai q1aj q1ak q1al q1am q1an q1ao q1ap q1aq q1ar qcp q1as q1at q1t q1au q1av q1aw q1ax q1ay q1az q1b0 q1b1 q1b2 q1b3 q1b4 q1b5 qli q1b6 q5g q9a q1b7 q1b8 qlj qlk RR RW RI
  subst hx
  simp only [SB, inIx]
  dsimp only [awX]
  refine ⟨kSb', kTst' sbP 4 zmu, by decide, ⟨0, by omega, ⟨z12s, rfl⟩, ⟨⟨rfl, fun _ _ => rfl⟩, ⟨⟨rfl, fun _ _ => rfl⟩, ⟨rfl, fun _ _ => rfl⟩, ⟨rfl, fun _ _ => rfl⟩, rfl, fun _ _ => rfl⟩, rfl, fun _ _ => rfl⟩, rfl, four rfl rfl rfl rfl⟩, fun i hi => ?_⟩
  have hS := aw_sm' hi
  have h8 := hS.r8
  simp only [dSt_enc' h8]
  refine ⟨by decide, fun hlt => ?_, fun hge => ?_⟩
  . obtain ⟨e1, e2, e3⟩ := z12o i hlt
    refine ⟨kSb', hlt, hlt, zr3 sbP 4 (awS i) _ zmu hS (i01 i hlt) (aw_n i (by omega)) (fun _ _ _ _ _ h => absurd (e3.symm.trans h) (by decide)), by rw [e2]; exact zg (by omega) (by omega), zg (by omega) (by omega), i + 1, by omega, by omega, ⟨e1, by rw [e2]; rfl, by omega⟩, ⟨⟨rfl, fun _ _ => rfl⟩, ⟨⟨rfl, fun _ _ => rfl⟩, ⟨rfl, fun _ _ => rfl⟩, ⟨rfl, fun _ _ => rfl⟩, rfl, fun _ _ => rfl⟩, rfl, fun _ _ => rfl⟩⟩
  . have e4 : i = 4 := by
      rcases hge with h | h
      . omega
      . exact absurd trivial h
    subst e4
    obtain ⟨q1, q2⟩ := z12q
    refine ⟨kSb', zu2 sbP (awS 4) (-2) zmu hS ⟨by decide, by decide⟩, kSb', zr3 sbP 4 (awS 4) 0 zmu hS ⟨by decide, by decide⟩ (aw_n 4 (by omega)) (fun _ _ _ _ h _ => absurd (q2.symm.trans h) (by decide)), fun _ => kSb', fun _ => kTen sbP (awS 4) zmu hS, fun _ => by decide, fun _ => ?_, fun _ => kTdr (awS 4) hS.bufs fun j => by have := hS.ents j; omega, ?_⟩
    . rw [zzf]; exact zzg
    . rw [zze, zzf]
      exact ⟨⟨⟨⟨q1, rfl⟩, rfl, rfl, rfl, rfl, rfl, rfl, rfl, rfl, rfl⟩, rfl⟩, z12r⟩
theorem zr9 : Known Tryz.prog GG 11 [] (.bool true) := kAw awX rfl
end
end
end Go.Proofs.S25
namespace Go.AV
open Go.RowKit
inductive HasTyB (C : Cfg) (S : Bool) : TyE -> AV -> Prop
  | int {te : TyE} {k : IntKind} {n : Int} (h : te.kind = .int k) (hn : (Lit.int k n).wf = true) : HasTyB C S te (.int k n)
  | bool {te : TyE} {b : Bool} (h : te.kind = .bool) : HasTyB C S te (.bool b)
  | str {te : TyE} {l : List UInt8} (h : te.kind = .string) (hl : l.length <= maxLen) (hs : S = true -> l.length <= reachBytes) : HasTyB C S te (.str l)
  | slice {te tl : TyE} {e : TypeId} {n : Nat} {f : Nat -> AV} (h : te.kind = .slice e) (ht : tyOf C e = some tl) (hn : n <= maxLen) (hf : ∀ i, i < n -> HasTyB C S tl (f i)) (hs : S = true -> n * tl.bytes <= reachBytes) : HasTyB C S te (.seq tl.sh n f)
  | opaqueSlice {te : TyE} {e : TypeId} (h : te.kind = .slice e) (ht : tyOf C e = none) : HasTyB C S te .any
  | struct {te : TyE} {fs : List TypeId} {xs : List AV} (h : te.kind = .struct fs) (hl : xs.length = fs.length)
      (hx : ∀ (j : Nat) (e : TypeId) (tf : TyE), fs[j]? = some e -> tyOf C e = some tf -> HasTyB C S tf (xs.getD j .any)) : HasTyB C S te (.agg xs)
  | arr {te tl : TyE} {e : TypeId} {n : Nat} {f : Nat -> AV} (h : te.kind = .arr n e) (ht : tyOf C e = some tl) (hf : ∀ i, HasTyB C S tl (f i)) : HasTyB C S te (.arr n f)
def Old (W : World) (k : Nat) : Prop := k < W.heap.size
theorem zzh {k : IntKind} {n : Int} (h : (Lit.int k n).wf = true) : InR k n := by
  unfold InR
  cases k <;> simp [Lit.wf, IntKind.wrap, IntKind.min, IntKind.max, IntKind.signed, IntKind.bits] at h ⊢ <;> (try split) <;> omega
section
variable {H : Type} {enc : TypeId × Value -> H} {C : Cfg} {W : World} {sp : Nat -> Bool} {held : Bool}
theorem z70 (hT : z12 C) {t : TypeId} {te : TyE} (ht : tyOf C t = some te) : C.P.cellsOf t = te.sh.size := by
  obtain ⟨d, i, z, hu, hi, hsz, _⟩ := (hT t te ht).info
  simp [Program.cellsOf, hi, hsz]
theorem z6m {F : Nat -> Prop} {w : World} : ∀ (ss : List Shape) (xs : List AV) (cs : List Value) (off : Nat), xs.length = ss.length ->
    (∀ (i : Nat) (s : Shape), ss[i]? = some s -> ∀ j, j < s.size -> RepS w F (cs.getD (off + Shape.sizes (ss.take i) + j) undef) (z6 s (xs.getD i .any) j)) ->
    ∀ j, j < Shape.sizes ss -> RepS w F (cs.getD (off + j) undef) (zf ss xs j)
  | [], _, _, _, _, _, j, hj => by simp [Shape.sizes] at hj
  | s :: ss, [], _, _, hl, _, _, _ => by simp at hl
  | s :: ss, x :: xs, cs, off, hl, h, j, hj => by
    simp only [zf]
    split
    . rename_i h1
      have := h 0 s rfl j h1
      simpa [Shape.sizes] using this
    . rename_i h1
      simp only [Shape.sizes] at hj
      have := z6m ss xs cs (off + s.size) (by simpa using hl) (fun i s' hs j hj => by
        have := h (i + 1) s' (by simpa using hs) j hj
        simp only [List.take_succ_cons, Shape.sizes, List.getD_cons_succ] at this
        rw [show off + s.size + Shape.sizes (ss.take i) + j = off + (s.size + Shape.sizes (ss.take i)) + j from by omega]
        exact this) (j - s.size) (by omega)
      rw [show off + s.size + (j - s.size) = off + j from by omega] at this
      exact this
theorem z7s {P : Program} {e : TypeId} : ∀ {l : List (DataW H)} {i : Nat} {d : DataW H}, l[i]? = some d -> ∀ n ∈ d.weights P e, n ∈ DataW.weightsAll P e l
  | [], _, _, h, _, _ => by simp at h
  | d :: l, 0, d', h, n, hn => by simp at h; subst h; simp [DataW.weightsAll, hn]
  | d :: l, i + 1, d', h, n, hn => by simp only [DataW.weightsAll, List.mem_append]; exact .inr (z7s (by simpa using h) n hn)
theorem zmv {S : Bool} (hT : z12 C) : ∀ (fuel : Nat) (t : TypeId) (te : TyE) (cs : List Value) (x : DataW H × List MemPlace), tyOf C t = some te -> DataW.trod enc C.P W 0 sp held fuel t cs = some x -> (match te.kind with | .other => False | _ => True) ->
    (∀ t te, tyOf C t = some te -> (match te.kind with | .other => False | _ => True)) -> (S = true -> ∀ n ∈ x.1.weights C.P t, n <= reachBytes) ->
    ∃ y, HasTyB C S te y /\ cs.length = te.sh.size /\ ∀ j, j < te.sh.size -> RepS W (Old W) (cs.getD j undef) (z6 te.sh y j) := by
  intro fuel
  induction fuel with
  | zero => intro t te cs x _ h; simp [DataW.trod] at h
  | succ fuel ih =>
    intro t te cs x ht h ho hno hw
    have hcells := z70 hT ht
    obtain ⟨d, i, z, hu, hi, hsz, _, _, _, hk, _⟩ := (hT t te ht).info
    cases hkd : te.kind with
    | other => rw [hkd] at ho; exact ho.elim
    | int k =>
      rw [hkd] at hk
      obtain ⟨rfl, hs⟩ := hk
      obtain ⟨n, rfl, rfl, hwf⟩ := DataW.trod_int hu h
      refine ⟨.int k n, .int hkd hwf, by rw [hs]; rfl, fun j hj => ?_⟩
      rw [hs] at hj ⊢
      obtain rfl : j = 0 := by simp [Shape.size] at hj; exact hj
      exact .int k n (zzh hwf)
    | bool =>
      rw [hkd] at hk
      obtain ⟨rfl, hs⟩ := hk
      obtain ⟨b, rfl, rfl⟩ := DataW.trod_bool hu h
      refine ⟨.bool b, .bool hkd, by rw [hs]; rfl, fun j hj => ?_⟩
      rw [hs] at hj ⊢
      obtain rfl : j = 0 := by simp [Shape.size] at hj; exact hj
      exact .bool b
    | string =>
      rw [hkd] at hk
      obtain ⟨rfl, hs⟩ := hk
      obtain ⟨s, rfl, rfl, hm⟩ := DataW.trod_string hu h
      refine ⟨.str s.data.toList, .str hkd (by simpa using hm) (fun hS => hw hS _ (by simp [DataW.weights])), by rw [hs]; rfl, fun j hj => ?_⟩
      rw [hs] at hj ⊢
      obtain rfl : j = 0 := by simp [Shape.size] at hj; exact hj
      exact .str s
    | slice e =>
      rw [hkd] at hk
      obtain ⟨rfl, hs⟩ := hk
      have one : ∀ (v : Value) (y : AV), y.isOne = true -> RepS W (Old W) v y -> ∀ j, j < te.sh.size -> RepS W (Old W) ([v].getD j undef) (z6 te.sh y j) := by
        intro v y h1 h2 j hj
        rw [hs] at hj ⊢
        obtain rfl : j = 0 := by simp [Shape.size] at hj; exact hj
        simpa [z6, z10, h1] using h2
      cases hte : tyOf C e with
      | none =>
        rcases DataW.trod_slice hu h with ⟨rfl, _⟩ | ⟨a, len, cap, elems, rest, n, _, rfl, _⟩
        . exact ⟨.any, .opaqueSlice hkd hte, by rw [hs]; rfl, one _ _ rfl (.any _ rfl)⟩
        . exact ⟨.any, .opaqueSlice hkd hte, by rw [hs]; rfl, one _ _ rfl (.any _ rfl)⟩
      | some tl =>
        rcases DataW.trod_slice hu h with ⟨rfl, _⟩ | ⟨a, len, cap, elems, rest, n, hn, rfl, rfl, hb, hl, hm, hlen, hel, hsp, hns⟩
        . exact ⟨.seq tl.sh 0 fun _ => .any, .slice hkd hte (Nat.zero_le _) (fun i hi => by omega) (fun _ => by simp), by rw [hs]; rfl, one _ _ rfl (.seq0 _ _ _ _)⟩
        . obtain rfl : fuel = n := by omega
          have hce := z70 hT hte
          have each : ∀ i, ∃ y, i < len -> HasTyB C S tl y /\ ∃ cs' : List Value, (∀ j, j < tl.sh.size -> W.cell? ((a.add (i * tl.sh.size)).add j) = some (cs'.getD j undef)) /\ ∀ j, j < tl.sh.size -> RepS W (Old W) (cs'.getD j undef) (z6 tl.sh y j) := by
            intro i
            by_cases hi : i < len
            . have h1 := hel i hi
              have h2 : elems[i]? = some elems[i] := by simp [show i < elems.length by omega]
              rw [h2, hce, Option.bind_eq_some_iff] at h1
              obtain ⟨cs', hc1, hc2⟩ := h1
              obtain ⟨_, hc3, hc4⟩ := World.cells?_some hc1
              obtain ⟨y, hy1, hy2, hy3⟩ := ih e tl cs' _ hte hc2 (hno _ _ hte) hno fun hS n hn => hw hS n (by
                simp only [DataW.weights, hu, List.mem_cons, List.mem_append]
                exact .inr (.inl (z7s (i := i) (by simp [h2]) n hn)))
              exact ⟨y, fun _ => ⟨hy1, cs', fun j hj => by rw [hc4 j hj]; simp [show j < cs'.length by omega], hy3⟩⟩
            . exact ⟨.any, fun h => absurd h hi⟩
          obtain ⟨f, hf⟩ := Classical.skolem.1 each
          refine ⟨.seq tl.sh len f, .slice hkd hte (by omega) (fun i hi => (hf i hi).1) (fun hS => ?_), by rw [hs]; rfl, one _ _ rfl ?_⟩
          . have h1 := hw hS ((elems.length + rest.length) * C.P.bytesOf e) (by simp [DataW.weights, hu])
            have h2 : C.P.bytesOf e = tl.bytes := by
              obtain ⟨d2, i2, z2, _, hi2, _, hb2, _⟩ := (hT e tl hte).info
              simp [Program.bytesOf, hi2, hb2]
            rw [h2, hlen] at h1
            exact Nat.le_trans (Nat.mul_le_mul_right _ (Nat.le_add_right _ _)) h1
          have hpos := (hT e tl hte).pos
          cases len with
          | zero => exact .seq0 _ _ _ _
          | succ len =>
            have h0 : ∃ cs' : List Value, (∀ j, j < tl.sh.size -> W.cell? ((a.add (0 * tl.sh.size)).add j) = some (cs'.getD j undef)) := ⟨_, (hf 0 (by omega)).2.choose_spec.1⟩
            obtain ⟨cs0, hc0⟩ := h0
            have hc := hc0 0 hpos
            obtain ⟨g, o, spot⟩ := a
            have hspot : spot = none := by
              cases spot with
              | none => rfl
              | some s => simp [Addr.add, World.cell?] at hc; split at hc <;> simp_all
            subst hspot
            have hF : Old W g := by
              unfold Old
              by_cases hg : g < W.heap.size
              . exact hg
              . simp [Addr.add, World.cell?, show W.heap[g]? = none by simp; omega] at hc
            have hch : ∀ i, ∃ cs' : List Value, i < len + 1 -> (∀ j, j < tl.sh.size -> W.cell? (((⟨g, o, none⟩ : Addr).add (i * tl.sh.size)).add j) = some (cs'.getD j undef)) /\ ∀ j, j < tl.sh.size -> RepS W (Old W) (cs'.getD j undef) (z6 tl.sh (f i) j) := by
              intro i
              by_cases hi : i < len + 1
              . obtain ⟨_, cs', h1, h2⟩ := hf i hi
                exact ⟨cs', fun _ => ⟨h1, h2⟩⟩
              . exact ⟨[], fun h => absurd h hi⟩
            obtain ⟨css, hcss⟩ := Classical.skolem.1 hch
            refine .seq g o (len + 1) cap tl.sh f (fun i j => (css i).getD j undef) hF hl (fun i hi j hj => ?_) fun i hi j hj => (hcss i hi).2 j hj
            have := (hcss i hi).1 j hj
            have ea : ((⟨g, o, none⟩ : Addr).add (i * tl.sh.size)).add j = ⟨g, o + (i * tl.sh.size + j), none⟩ := by
              by_cases h1 : i * tl.sh.size = 0 <;> by_cases h2 : j = 0 <;> simp [Addr.add, h1, h2, Nat.add_assoc]
            rw [ea] at this
            exact this
    | struct fs =>
      rw [hkd] at hk
      obtain ⟨fields, ss, rfl, hs, hlen, hfs, hfield⟩ := hk
      obtain ⟨xs, n, hn, rfl, hcl, hxl, hx⟩ := DataW.trod_struct hu h
      obtain rfl : fuel = n := by omega
      have hfl : fields.size = fs.length := by rw [hfs]; simp
      have hfi : ∀ (i : Nat) (h : i < fields.size), fs[i]? = some fields[i].type := by intro i h; rw [hfs]; simp [h]
      have each : ∀ i, ∃ y, i < fs.length -> ∀ (e : TypeId) (tf : TyE), fs[i]? = some e -> tyOf C e = some tf -> HasTyB C S tf y /\ ∀ j, j < tf.sh.size -> RepS W (Old W) (cs.getD (Shape.sizes (ss.take i) + j) undef) (z6 tf.sh y j) := by
        intro i
        by_cases hi : i < fs.length
        . have hif : fields[i]? = some fields[i] := by simp [show i < fields.size by omega]
          obtain ⟨tf, ht1, ht2, ht3, _⟩ := hfield i _ hif
          have h1 := hx i fields[i] (by simp)
          have h2 : xs[i]? = some xs[i] := by simp [show i < xs.length by omega]
          rw [h2, z70 hT ht1] at h1
          obtain ⟨y, hy1, hy2, hy3⟩ := ih _ tf _ _ ht1 h1 (hno _ _ ht1) hno fun hS n hn => hw hS n (by
            simp only [DataW.weights, hu]
            exact DataW.weights_mem_each (j := i) (t := fields[i].type) (d := xs[i].1) (by simp [show i < fields.size by omega]) (by simp [show i < xs.length by omega]) n hn)
          refine ⟨y, fun _ e tf' he htf => ?_⟩
          have he' : e = fields[i].type := by
            rw [hfs, List.getElem?_map] at he
            simp [show i < fields.size by omega] at he
            exact he.symm
          subst he'
          rw [ht1] at htf
          cases htf
          refine ⟨hy1, fun j hj => ?_⟩
          have := hy3 j hj
          rw [List.getD_eq_getElem?_getD, List.getElem?_take_of_lt hj, List.getElem?_drop, ht3, <- List.getD_eq_getElem?_getD] at this
          exact this
        . exact ⟨.any, fun h => absurd h hi⟩
      obtain ⟨f, hf⟩ := Classical.skolem.1 each
      refine ⟨.agg ((List.range fs.length).map f), .struct hkd (by simp) (fun j e tf hj he => ?_), by rw [hcl, hcells], fun j hj => ?_⟩
      . have hjl := (List.getElem?_eq_some_iff.1 hj).1
        have := (hf j hjl e tf hj he).1
        simpa [hjl] using this
      . rw [hs] at hj ⊢
        simp only [z6]
        have := z6m (F := Old W) (w := W) ss ((List.range fs.length).map f) cs 0 (by simp [hlen]) (fun i s hi j hj => ?_) j (by simpa [Shape.size] using hj)
        . simpa using this
        . have hil := (List.getElem?_eq_some_iff.1 hi).1
          have hif : fields[i]? = some fields[i] := by simp [show i < fields.size by omega]
          obtain ⟨tf, ht1, ht2, ht3, _⟩ := hfield i _ hif
          rw [hi] at ht2
          cases ht2
          have := (hf i (by omega) fields[i].type tf (hfi i (by omega)) ht1).2 j hj
          simpa [show i < fs.length by omega] using this
    | arr n e =>
      rw [hkd] at hk
      obtain ⟨rfl, tl, hte, hs⟩ := hk
      obtain ⟨xs, m, hm, rfl, hcl, hxl, hx⟩ := DataW.trod_array hu h
      obtain rfl : fuel = m := by omega
      have hce := z70 hT hte
      have hpos := (hT e tl hte).pos
      have hpos' := (hT t te ht).pos
      rw [hs] at hpos'
      have hn0 : 0 < n := by
        rcases Nat.eq_zero_or_pos n with h | h
        . subst h; simp [Shape.size] at hpos'
        . exact h
      have each : ∀ i, ∃ y, HasTyB C S tl y /\ (i < n -> ∀ j, j < tl.sh.size -> RepS W (Old W) (cs.getD (i * tl.sh.size + j) undef) (z6 tl.sh y j)) := by
        intro i
        have one : ∀ k, k < n -> ∃ y, HasTyB C S tl y /\ ∀ j, j < tl.sh.size -> RepS W (Old W) (cs.getD (k * tl.sh.size + j) undef) (z6 tl.sh y j) := by
          intro k hk
          have h1 := hx k hk
          have h2 : xs[k]? = some xs[k] := by simp [show k < xs.length by omega]
          rw [h2, hce] at h1
          obtain ⟨y, hy1, hy2, hy3⟩ := ih e tl _ _ hte h1 (hno _ _ hte) hno fun hS n hn => hw hS n (by
            simp only [DataW.weights, hu]
            exact z7s (i := k) (by simp [h2]) n hn)
          refine ⟨y, hy1, fun j hj => ?_⟩
          have := hy3 j hj
          rw [List.getD_eq_getElem?_getD, List.getElem?_take_of_lt hj, List.getElem?_drop, <- List.getD_eq_getElem?_getD] at this
          exact this
        by_cases hi : i < n
        . obtain ⟨y, h1, h2⟩ := one i hi
          exact ⟨y, h1, fun _ => h2⟩
        . obtain ⟨y, h1, _⟩ := one 0 hn0
          exact ⟨y, h1, fun h => absurd h hi⟩
      obtain ⟨f, hf⟩ := Classical.skolem.1 each
      refine ⟨.arr n f, .arr hkd hte (fun i => (hf i).1), by rw [hcl, hcells], fun j hj => ?_⟩
      rw [hs] at hj ⊢
      simp only [z6, Shape.size] at hj ⊢
      refine .st ?_
      have hdiv : j / tl.sh.size < n := (Nat.div_lt_iff_lt_mul hpos).2 hj
      have := (hf (j / tl.sh.size)).2 hdiv (j % tl.sh.size) (Nat.mod_lt _ hpos)
      rw [Nat.mul_comm, Nat.div_add_mod] at this
      exact this
end
end Go.AV
namespace Go.AV
open Go.RowKit Go.WideShapes Go.ChangeShapes
section
variable {H : Type} {enc : TypeId × Value -> H} {P : Program}
theorem zdy {f : Func} {s : ChangeSpec} {apart fresh handsOn again : Bool} {W W' : World} {args : Array Value} {v : Value} {ds gs : List (DataW H)} {before pa pv : List MemPlace}
    (hW : DataW.Whole enc P f.params.toList s.vars apart W args.toList ds gs before)
    (hres : ∀ (b : Nat) (sp : Nat -> Bool) (hd : Bool), DataW.TrodAll enc P W' b sp hd f.resultTypes.toList (v.resultList f.resultTypes.size) (s.fn H (ds ++ gs)).results [])
    (hargs : ∀ sp : Nat -> Bool, (∀ p ∈ before, sp p.block = true) -> DataW.TrodAll enc P W' 0 sp true f.params.toList args.toList (s.fn H (ds ++ gs)).args pa)
    (hvars : ∀ sp : Nat -> Bool, (∀ p ∈ before, sp p.block = true) -> DataW.TrodVars enc P W' sp s.vars (s.fn H (ds ++ gs)).vars pv)
    (hps : before = pa ++ pv) (hb : Below W.heap.size W W')
    (hok : ∀ (j : Nat) (t : TypeId) (r : Value), f.resultTypes[j]? = some t -> (v.resultList f.resultTypes.size)[j]? = some r -> Value.okWide P W' .any 0 t r) :
    s.post enc P f apart fresh handsOn again W args v W' := by
  have hlt : ∀ p ∈ before, p.block < W.heap.size := fun p hp => hW.lt p hp
  have hold : ∀ p ∈ before, (fun b => decide (b < W.heap.size)) p.block = true := fun p hp => by simpa using hlt p hp
  refine ⟨ds, gs, before, [], pa, pv, hW, hres _ _ _, hargs _ hold, hvars _ hold, World.keptBut_mono (fun p hp => ⟨hp, ?_⟩) (hb.frame (· ∈ before)), fun _ => ?_⟩
  . rw [hps, List.mem_append] at hp
    exact Or.inr hp
  . obtain ⟨_, _, _, _, _, hz, hn⟩ := hW
    refine ⟨hok, _, _, ([] ++ pa) ++ pv, ⟨[] ++ pa, pv, trodAll_append (hargs _ (fun _ _ => rfl)) (hres _ _ _), hvars _ (fun _ _ => rfl), rfl, ?_, ?_⟩, ?_⟩
    . intro b off hp
      have hin : MemPlace.cell b off ∈ before := by rw [hps]; simpa using hp
      rw [hb.frozen (hlt _ hin)]
      exact hz b off hin
    . intro ha
      have := hn ha
      rw [hps] at this
      simpa using this
    . intro p hp _
      rw [hps]
      simpa using hp
end
def zbs (te : TyE) (y : AV) : AV := match te.sh with | .leaf => y | sh => .mc sh y
section
variable {H : Type} {enc : TypeId × Value -> H} {C : Cfg} {W : World} {sp : Nat -> Bool} {held : Bool}
def za3 (C : Cfg) : Prop := ∀ t te, tyOf C t = some te -> (match te.kind with | .other => False | _ => True)
theorem z8g {S : Bool} {te : TyE} {y : AV} (h : HasTyB C S te y) (hk : te.kind ≠ .other) (hs : te.sh = .leaf) (hi : ∀ fs, te.kind ≠ .struct fs) (ha : ∀ n e, te.kind ≠ .arr n e) : y.isOne = true := by
  cases h with
  | struct h => exact absurd h (hi _)
  | arr h => exact absurd h (ha _ _)
  | _ => rfl
theorem zos {S : Bool} (hT : z12 C) (hno : za3 C) {t : TypeId} {te : TyE} {v : Value} {d : DataW H} {p : List MemPlace} {base : Nat} (ht : tyOf C t = some te) (hval : Value.okWide C.P W .any base t v)
    (h : DataW.Trod enc C.P W 0 sp held t v d p) (hw : S = true -> ∀ n ∈ d.weights C.P t, n <= reachBytes) : ∃ y, HasTyB C S te y /\ RepS W (Old W) v (zbs te y) := by
  obtain ⟨fuel, hf⟩ := h
  obtain ⟨y, h1, h2, h3⟩ := zmv hT fuel t te _ _ ht hf (hno t te ht) hno hw
  obtain ⟨dd, i, z, hu, hi, hsz, _, _, _, hk, _⟩ := (hT t te ht).info
  refine ⟨y, h1, ?_⟩
  have agg : ∀ cs, v = .agg cs -> te.sh.isAgg = true -> RepS W (Old W) v (zbs te y) := by
    intro cs hv hag
    subst hv
    have e : zbs te y = .mc te.sh y := by
      unfold zbs
      cases hsh : te.sh <;> simp_all [Shape.isAgg]
    rw [e]
    refine .mc cs _ _ (by simpa [Value.cells] using h2) fun j hj => ?_
    have := h3 j hj
    simpa [Value.cells, Array.getD_eq_getD_getElem?, List.getD_eq_getElem?_getD] using this
  have leaf : v.cells.toList = [v] -> te.sh = .leaf -> y.isOne = true -> RepS W (Old W) v (zbs te y) := by
    intro hc hs hy
    have := h3 0 (by rw [hs]; simp [Shape.size])
    rw [hc, hs] at this
    unfold zbs
    rw [hs]
    simpa [z6, z10, hy] using this
  cases hkd : te.kind with
  | other => have := hno t te ht; rw [hkd] at this; exact this.elim
  | int k =>
    rw [hkd] at hk
    obtain ⟨rfl, hs⟩ := hk
    obtain ⟨n, rfl⟩ := okWide_int hu hval
    exact leaf rfl hs (z8g h1 (by simp [hkd]) hs (by simp [hkd]) (by simp [hkd]))
  | bool =>
    rw [hkd] at hk
    obtain ⟨rfl, hs⟩ := hk
    obtain ⟨n, rfl⟩ := okWide_bool hu hval
    exact leaf rfl hs (z8g h1 (by simp [hkd]) hs (by simp [hkd]) (by simp [hkd]))
  | string =>
    rw [hkd] at hk
    obtain ⟨rfl, hs⟩ := hk
    obtain ⟨n, rfl⟩ := okWide_string hu hval
    exact leaf rfl hs (z8g h1 (by simp [hkd]) hs (by simp [hkd]) (by simp [hkd]))
  | slice e =>
    rw [hkd] at hk
    obtain ⟨rfl, hs⟩ := hk
    obtain ⟨a, n, c, rfl⟩ := okWide_slice hu hval
    exact leaf rfl hs (z8g h1 (by simp [hkd]) hs (by simp [hkd]) (by simp [hkd]))
  | struct fs =>
    rw [hkd] at hk
    obtain ⟨fields, ss, rfl, hs, _⟩ := hk
    unfold Value.okWide at hval
    rw [hu] at hval
    obtain ⟨cs, hv, _⟩ := hval
    exact agg cs hv (by rw [hs]; rfl)
  | arr n e =>
    rw [hkd] at hk
    obtain ⟨rfl, tl, _, hs⟩ := hk
    unfold Value.okWide at hval
    rw [hu] at hval
    obtain ⟨cs, hv, _⟩ := hval
    exact agg cs hv (by rw [hs]; rfl)
theorem zih {S : Bool} (hT : z12 C) (hno : za3 C) {base : Nat} : ∀ (ts : List TypeId) (tes : List TyE) (vs : List Value) (ds : List (DataW H)) (p : List MemPlace), ts.map (tyOf C) = tes.map some ->
    (∀ (j : Nat) t v, ts[j]? = some t -> vs[j]? = some v -> Value.okWide C.P W .any base t v) -> DataW.TrodAll enc C.P W 0 sp held ts vs ds p -> (S = true -> ∀ n ∈ DataW.weightsEach C.P ts ds, n <= reachBytes) ->
    ∃ ys : List AV, ys.length = tes.length /\ vs.length = tes.length /\ ds.length = tes.length /\ ∀ (j : Nat) (te : TyE), tes[j]? = some te -> HasTyB C S te (ys.getD j .any) /\ RepS W (Old W) (vs.getD j undef) ((List.zipWith zbs tes ys).getD j .any)
  | [], tes, vs, ds, p, hm, _, h, _ => by
    obtain rfl : tes = [] := by cases tes <;> simp_all
    obtain ⟨rfl, rfl, rfl⟩ := trodAll_nil h
    exact ⟨[], rfl, rfl, rfl, fun j te hj => by simp at hj⟩
  | t :: ts, tes, vs, ds, p, hm, hval, h, hw => by
    obtain ⟨v, vs1, d, ds1, a, b, rfl, rfl, rfl, h1, h2⟩ := trodAll_cons h
    cases tes with
    | nil => simp at hm
    | cons te tes =>
      simp only [List.map_cons, List.cons.injEq] at hm
      obtain ⟨y, hy1, hy2⟩ := zos hT hno hm.1 (hval 0 t v rfl rfl) h1 fun hS n hn => hw hS n (by simp [DataW.weightsEach, hn])
      obtain ⟨ys, k1, k2, k3, k4⟩ := zih hT hno ts tes vs1 ds1 b hm.2 (fun j t v ht hv => hval (j + 1) t v (by simpa using ht) (by simpa using hv)) h2 fun hS n hn => hw hS n (by simp [DataW.weightsEach, hn])
      refine ⟨y :: ys, by simp [k1], by simp [k2], by simp [k3], fun j te' hj => ?_⟩
      cases j with
      | zero => simp at hj; subst hj; exact ⟨hy1, hy2⟩
      | succ j => simpa using k4 j te' (by simpa using hj)
theorem zcm {W' : World} {sp' : Nat -> Bool} (hl : laidOutB C.P = true) (hb : Below W.heap.size W W') : ∀ (ts : List TypeId) (vs : List Value) (ds : List (DataW H)) (p : List MemPlace), (∀ t ∈ ts, C.P.readableRec t = true /\ t < C.P.types.size) ->
    DataW.TrodAll enc C.P W 0 (fun _ => true) true ts vs ds p -> (∀ x ∈ p, x.block < W.heap.size) -> (∀ x ∈ p, sp' x.block = true) -> DataW.TrodAll enc C.P W' 0 sp' true ts vs ds p
  | [], vs, ds, p, _, h, _, _ => by
    obtain ⟨rfl, rfl, rfl⟩ := trodAll_nil h
    rfl
  | t :: ts, vs, ds, p, ht, h, hlt, hsp => by
    obtain ⟨v, vs1, d, ds1, a, b, rfl, rfl, rfl, h1, h2⟩ := trodAll_cons h
    obtain ⟨r1, r2⟩ := ht t (by simp)
    exact ⟨a, b, WideElems.Trod_stays hl r1 r2 h1 (fun x hx => hb.same (hlt x (by simp [hx]))) (fun x hx => hsp x (by simp [hx])), zcm hl hb ts vs1 ds1 b (fun t ht' => ht t (by simp [ht'])) h2 (fun x hx => hlt x (by simp [hx])) (fun x hx => hsp x (by simp [hx])), rfl⟩
end
end Go.AV
