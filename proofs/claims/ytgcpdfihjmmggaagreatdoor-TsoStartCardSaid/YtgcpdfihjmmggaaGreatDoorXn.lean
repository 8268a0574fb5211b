import Derived.Test.YtgcpdfihjmmggaaGreatDoorXm
namespace Go.Proofs.S25
open Go Go.AV
open Go.IntKind renaming i64 -> j6
open Go.AV.Shape (leaf)
noncomputable section
open Go.IntKind renaming i64 -> j6
open Go.AV.Shape (leaf)
noncomputable section
structure PSm (p : PProg) : Prop where
  vars : p.vars.length <= 1000000
  muts : p.muts.length <= 1000000
  conds : p.conds.length <= 1000000
  funs : p.funs.length <= 1000000
  thr : p.thr.length <= 1000000
  code : ∀ i, (p.funs.getD i c0f).code.length <= 1000000
  vn : ∀ i, ((z4i p).getD i []).length <= 9223372036854775807
  mn : ∀ i, (p.muts.getD i []).length <= 9223372036854775807
  cn : ∀ i, (p.conds.getD i []).length <= 9223372036854775807
  fn : ∀ i, ((z5o p).getD i []).length <= 9223372036854775807
section
variable (n:Int)
def q4d:=decide (-2147483648<=n)
def qaa:=q4d n=true
def q2e:=qaa n->qaa n
end
theorem eVal (n:Int):gVal n=(q2e n/\q2e n/\(q4d n&&decide (n<=2147483647))=valB n):=by kernel_rfl
theorem kVal (n : Int)  : Known Tryz.prog GG 168 [.int .i64 n] (.bool (valB n))  := by
  refine Known.of (V := vP25 9 fun _ => none) (fn := Tryz.f168) Tryz.func168 (by kernel_rfl) (zn _) rfl ?_
  show gVal n
  rw [eVal]; try delta q4d qaa q2e
  simp only [SB]
  rfl
theorem z104 (n:Int):zv7 n=(q2e n/\q2e n/\(q4d n&&decide (n<=2147483647))=valB n):=by kernel_rfl
theorem zva (n : Int)  : Known Tryz.prog GG 143 [.int .i64 n] (.bool (valB n))  := by
  refine Known.of (V := vP25 9 fun _ => none) (fn := Tryz.f143) Tryz.func143 (by kernel_rfl) (zn _) rfl ?_
  show zv7 n
  rw [z104]; try delta q4d qaa q2e
  simp only [SB]
  rfl
section
variable (p:PProg) (op:Int)
def q4e:=↑p.vars.length<=(9223372036854775807:Int)/\RR j6/\↑p.vars.length=z49 p op
def qpq:=(op == 8)=true
def qe3:=↑p.muts.length<=(9223372036854775807:Int)/\RR j6/\↑p.muts.length=z49 p op
def qpr:=(op == 15)=true
def qe4:=↑p.conds.length<=(9223372036854775807:Int)/\RR j6/\↑p.conds.length=z49 p op
def qps:=(op == 18)=true
def qe5:=((op == 21)=true->↑p.funs.length<=(9223372036854775807:Int)/\RR j6/\↑p.funs.length=z49 p op)/\((op == 21)=false->RR j6/\-1=z49 p op)
def qpt:=(op == 18)=false
def qpu:=(op == 19)=true
def qpv:=(op == 19)=false
def qe6:=(qps op->(qps op->qe4 p op)/\(qpt op->qe5 p op))/\(qpt op->(qpu op->(qpu op->qe4 p op)/\(qpv op->qe5 p op))/\(qpv op->((op == 20)=true->qe4 p op)/\((op == 20)=false->qe5 p op)))
def qpw:=(op == 15)=false
def qpx:=(op == 16)=true
def qpy:=(op == 16)=false
def q4f:=(qpr op->(qpr op->qe3 p op)/\(qpw op->qe6 p op))/\(qpw op->(qpx op->(qpx op->qe3 p op)/\(qpy op->qe6 p op))/\(qpy op->((op == 17)=true->qe3 p op)/\((op == 17)=false->qe6 p op)))
def qpz:=(op == 8)=false
def qq0:=(op == 9)=true
def qq1:=(op == 9)=false
def qq2:=(op == 10)=true
def qq3:=(op == 10)=false
def qq4:=(op == 11)=true
def qq5:=(op == 11)=false
def qq6:=(op == 12)=true
def qq7:=(op == 12)=false
end
theorem z105 (p:PProg) (op:Int):zv8 p op=((qpq op->(qpq op->q4e p op)/\(qpz op->q4f p op))/\(qpz op->(qq0 op->(qq0 op->q4e p op)/\(qq1 op->q4f p op))/\(qq1 op->(qq2 op->(qq2 op->q4e p op)/\(qq3 op->q4f p op))/\(qq3 op->(qq4 op->(qq4 op->q4e p op)/\(qq5 op->q4f p op))/\(qq5 op->(qq6 op->(qq6 op->q4e p op)/\(qq7 op->q4f p op))/\(qq7 op->((op == 14)=true->q4e p op)/\((op == 14)=false->q4f p op))))))):=by kernel_rfl
theorem z106 (p : PProg) (op : Int) (hp : PSm p) : Known Tryz.prog GG 223 [vP p, .int .i64 op] (.int .i64 (z49 p op))  := by
  refine Known.of (V := vP25 35 fun _ => none) (fn := Tryz.f223) Tryz.func223 (by kernel_rfl) (zn _) rfl ?_
  show zv8 p op
  rw [z105]; try delta q4e qpq qe3 qpr qe4 qps qe5 qpt qpu qpv qe6 qpw qpx qpy q4f qpz qq0 qq1 qq2 qq3 qq4 qq5 qq6 qq7
  simp only [SB]
  obtain ⟨h1, h2, h3, h4, _⟩ := hp
  unfold z49
  repeat' (first | exact trivial | intro _ | apply And.intro)
  all_goals first
    | omega
    | (repeat (first | rw [if_pos (by omega)] | rw [if_neg (by omega)]))
theorem z8y {p : PProg} {i : Inst} {n : Int} (h : z13 i = 0) : z2r p i n = if zex p i then 11 else if (i.op == 4 || i.op == 5) && (decide (i.n < 0) || decide (n < i.n)) then 12 else 0 := by
  unfold z2r; rw [if_neg (by simp [h])]
theorem z4w {p : PProg} {i : Inst} : zex p i = true ↔ (0 <= z49 p i.op /\ (i.obj < 0 ∨ z49 p i.op <= i.obj)) ∨ (i.op = 18 /\ (i.n < 0 ∨ (p.muts.length : Int) <= i.n)) := by
  unfold zex
  simp only [Bool.or_eq_true, Bool.and_eq_true, decide_eq_true_eq, beq_iff_eq]
section
variable (p:PProg) (i:Inst)
def qe7:=decide (0<=z49 (dP (encP p)) i.op)
def qe8:=qe7 p i=true
def q64:=qe8 p i->qe8 p i
def qq8:=decide (i.obj < 0)
def qq9:=!qq8 i
def qe9:=(qe7 p i&&qq9 i)=true
def qea:=qe9 p i->qe9 p i
variable (n:Int)
def qqa:=RR j6/\11=z2r p i n
def qqb:=qe7 p i&&(qq8 i||decide (z49 (dP (encP p)) i.op<=i.obj))
def qeb:=(i.op == 18)=true
def q65:=qeb i->qeb i
def q4g:=decide (i.n < 0)
def qec:=!q4g i
def qab:=(i.op == 18&&qec i)=true
def q66:=qab i->qab i
def qqc:=qec i=true
def qqd:=i.op == 18&&(q4g i||decide (↑p.muts.length<=i.n))
def qqe:=(!i.op == 4)=true
def qed:=qqe i->qqe i
def qee:=i.op == 4||i.op == 5
def qef:=qee i=true
def q67:=qef i->qef i
def qeg:=(qee i&&qec i)=true
def qeh:=qeg i->qeg i
def qqf:=qee i&&(q4g i||decide (n < i.n))
end
theorem zvb (p:PProg) (i:Inst) (n:Int):zpo p i n=(KN 222 [AV.mc zt (encI i)] (AV.int j6 (z13 (dIn (encI i))))/\(q5w i=true->RR j6/\z13 (dIn (encI i))=z2r p i n)/\(q5w i=false->KN 223 [AV.mc za (encP p),AV.int j6 i.op] (AV.int j6 (z49 (dP (encP p)) i.op))/\q64 p i/\q64 p i/\q64 p i/\qea p i/\qea p i/\qea p i/\q64 p i/\(qe8 p i->qq9 i=true->qe9 p i)/\q64 p i/\(qqb p i=true->qqa p i n)/\(qqb p i=false->q65 i/\q65 i/\q65 i/\q66 i/\q66 i/\q66 i/\(qab i->↑p.muts.length<=(9223372036854775807:Int))/\q66 i/\q66 i/\q65 i/\(qeb i->qqc i->qab i)/\q65 i/\(qqd p i=true->qqa p i n)/\(qqd p i=false->qed i/\qed i/\qed i/\q67 i/\q67 i/\q67 i/\qeh i/\qeh i/\qeh i/\q67 i/\(qef i->qqc i->qeg i)/\q67 i/\(qqf i n=true->RR j6/\12=z2r p i n)/\(qqf i n=false->RR j6/\0=z2r p i n))))):=by kernel_rfl
theorem zvc (p : PProg) (i : Inst) (n : Int) (hp : PSm p) : Known Tryz.prog GG 172 [vP p, vI i, .int .i64 n] (.int .i64 (z2r p i n))  := by
  refine Known.of (V := vP25 66 fun _ => none) (fn := Tryz.f172) Tryz.func172 (by kernel_rfl) (zn _) rfl ?_
  show zpo p i n
  rw [zvb]; try delta q5w qe7 qe8 q64 qq8 qq9 qe9 qea qqa qqb qeb q65 q4g qec qab q66 qqc qqd qqe qed qee qef q67 qeg qeh qqf
  simp only [SB]
  have h2 := hp.muts
  refine ⟨zpe i, fun h => ?_, fun h => ⟨z106 p i.op hp, fun hb => ?_, fun hg => ⟨fun _ => by omega, fun hb => ?_, fun hn => ?_⟩⟩⟩
  . unfold z2r; rw [if_pos (by simpa using h)]
  . rw [z8y h, if_pos (z4w.2 (.inl hb))]
  . rw [z8y h, if_pos (z4w.2 (.inr hb))]
  have e : ¬ zex p i = true := fun hx => by
    rcases z4w.1 hx with hx | hx
    . omega
    . omega
  rw [z8y h, if_neg e]
  refine ⟨fun ht => ?_, fun ht => ?_⟩
  . rw [if_pos (by simpa using ht)]
  . rw [if_neg (by simp only [Bool.and_eq_true, Bool.or_eq_true, beq_iff_eq, decide_eq_true_eq]; omega)]
theorem zch (p : PProg) (i : Nat) (hi : i < p.thr.length) : z7o p (p.thr.length - i) = if (p.thr.getD i c0s).fn < 0 ∨ (p.funs.length : Int) <= (p.thr.getD i c0s).fn then 11 else if valB (p.thr.getD i c0s).arg = false then 2 else z7o p (p.thr.length - (i + 1)) := by
  obtain ⟨k, hk⟩ : ∃ k, p.thr.length - i = k + 1 := ⟨p.thr.length - i - 1, by omega⟩
  rw [hk, z7o, show p.thr.length - (k + 1) = i from by omega, show k = p.thr.length - (i + 1) from by omega]
section
variable (p:PProg)
def q36:=↑p.thr.length<=(9223372036854775807:Int)
def qei:=decide (↑p.thr.length < (1:Int))
def q68:=(!qei p)=true
def q1v:=q68 p->q68 p
def q4h:=RR ze/\RI (-1)/\RI (-1)/\True
def q2f:=q4h/\True
def q69:=qei p||decide ((8:Int) < ↑p.thr.length)
variable (x1:Nat)
def q37:=x1<=p.thr.length/\z7o p p.thr.length=z7o p (p.thr.length - x1)
def q4i:=RW ze p.thr.length fun i=>encS (p.thr.getD i c0s)
def q6a:=RR za/\(RW ze p.vars.length fun i=>encV (p.vars.getD i c0v))/\(RW leaf p.muts.length fun i=>AV.str (p.muts.getD i []))/\(RW leaf p.conds.length fun i=>AV.str (p.conds.getD i []))/\(RW ze p.funs.length fun i=>encF (p.funs.getD i c0f))/\q4i p/\True
def q2g:=RR ze/\RI 0/\RI 0/\True
def qej:=decide ((p.thr.getD (↑x1:Int).toNat c0s).fn < 0)
def q4j:=(!qej p x1)=true
def qn:=q4j p x1->q4j p x1
def q6b:=qej p x1||decide ((↑p.funs.length:Int)<=(p.thr.getD (↑x1:Int).toNat c0s).fn)
def q6c:=!valB (p.thr.getD (↑x1:Int).toNat c0s).arg
def q16:=decide ((↑x1:Int) < (↑p.thr.length:Int))
end
theorem eThr (p:PProg):gThr p=(q36 p/\q1v p/\q1v p/\(q68 p->q36 p)/\q1v p/\q1v p/\(q69 p=true->(RR j6/\4=z1o p)/\q2f)/\(q69 p=false->q36 p/\(∃ i,q37 p i/\(RR (AV.ptr (1:Nat) [])/\RR (AV.ptr (3:Nat) [])/\RR (AV.ptr (4:Nat) [])/\q4i p/\RI ↑p.thr.length/\(RR j6/\(0:Int)=↑i)/\True)/\((27:Nat)=(27:TypeId)/\q6a p)/\((150:Nat)=(150:TypeId)/\q2g)/\((150:Nat)=(150:TypeId)/\q4h)/\True)/\∀ i:Nat,q37 p i->(q16 p i=true->inIx (↑i) p.thr.length/\qn p i/\qn p i/\qn p i/\(q4j p i->↑p.funs.length<=(9223372036854775807:Int))/\qn p i/\qn p i/\qn p i/\(q6b p i=true->(RR j6/\11=z1o p)/\q2f)/\(q6b p i=false->KN 168 [AV.int j6 (p.thr.getD (↑i:Int).toNat c0s).arg] (AV.bool (valB (p.thr.getD (↑i:Int).toNat c0s).arg))/\(q6c p i=true->(RR j6/\2=z1o p)/\q2f)/\(q6c p i=false->InR j6 (q8 i)/\(∃ j,q37 p j/\p.thr.length - j < p.thr.length - i/\(RR (AV.ptr (1:Nat) [])/\RR (AV.ptr (3:Nat) [])/\RR (AV.ptr (4:Nat) [])/\q4i p/\RI ↑p.thr.length/\(RR j6/\q8 i=↑j)/\True)/\(RR (27:TypeId)/\q6a p)/\(RR (150:TypeId)/\q2g)/\(RR (150:TypeId)/\q4h)/\True))))/\(q16 p i=false->(RR j6/\0=z1o p)/\q2f))):=by kernel_rfl
theorem kThr (p : PProg) (hp : PSm p) : Known Tryz.prog GG 110 [vP p] (.tup [.int .i64 (z1o p), vPl (-1) (-1)])  := by
  refine Known.of (V := vP25 45 (zpp p)) (fn := Tryz.f110) Tryz.func110 (by kernel_rfl) (zn _) rfl ?_
  show gThr p
  rw [eThr]; try delta q36 qei q68 q1v q4h q2f q69 q37 q4i q6a q2g qej q4j qn q6b q6c q8 q16
  simp only [SB, inIx]
  have h1 := hp.thr
  have h2 := hp.funs
  refine ⟨by omega, fun _ => by omega, fun h => ?_, fun h => ?_⟩
  . unfold z1o; rw [if_pos (by omega)]
  have e : z1o p = z7o p p.thr.length := by unfold z1o; rw [if_neg (by omega)]
  rw [e]
  refine ⟨by omega, ⟨0, ⟨by omega, by rw [Nat.sub_zero]⟩, rfl⟩, fun i hi => ⟨fun hlt => ⟨hlt, fun _ => by omega, fun hb => ?_, fun hg => ⟨kVal _, fun hv => ?_, fun hv => ⟨zg (by omega) (by omega), i + 1, ⟨by omega, ?_⟩, by omega, by omega⟩⟩⟩, fun hge => ?_⟩⟩
  . rw [hi.2, zch p i hlt, if_pos hb]
  . rw [hi.2, zch p i hlt, if_neg (by omega), if_pos hv]
  . rw [hi.2, zch p i hlt, if_neg (by omega), if_neg (by rw [hv]; simp)]
  . rw [hi.2, show p.thr.length - i = 0 from by omega]; rfl
section
variable (p:PProg)
def q6d:=↑p.vars.length<=(9223372036854775807:Int)
def qek:=decide ((8:Int) < ↑p.vars.length)
def q6e:=(!qek p)=true
def q1w:=q6e p->q6e p
def qel:=qek p||decide ((4:Int) < ↑p.muts.length)
def q6f:=(!qel p)=true
def q1x:=q6f p->q6f p
def qem:=qel p||decide ((4:Int) < ↑p.conds.length)
def q6g:=(!qem p)=true
def q1y:=q6g p->q6g p
def q6h:=qem p||decide ((8:Int) < ↑p.funs.length)
variable (x1:Nat)
def q38:=x1<=p.vars.length/\∀ j:Nat,j < x1->valB (p.vars.getD j c0v).init=true
def q6i:=!valB (p.vars.getD (↑x1:Int).toNat c0v).init
end
theorem eObj (p:PProg):gObj p=(q6d p/\q1w p/\q1w p/\(q6e p->↑p.muts.length<=(9223372036854775807:Int))/\q1w p/\q1w p/\q1x p/\q1x p/\(q6f p->↑p.conds.length<=(9223372036854775807:Int))/\q1x p/\q1x p/\q1y p/\q1y p/\(q6g p->↑p.funs.length<=(9223372036854775807:Int))/\q1y p/\q1y p/\(q6h p=true->(RR j6/\4=z1s p)/\q2f)/\(q6h p=false->q6d p/\(∃ i,q38 p i/\(RR (AV.ptr (3:Nat) [])/\RR (AV.ptr (4:Nat) [])/\q1u p/\RI ↑p.vars.length/\(RR j6/\(0:Int)=↑i)/\True)/\((150:Nat)=(150:TypeId)/\q2g)/\((150:Nat)=(150:TypeId)/\q4h)/\True)/\∀ i:Nat,q38 p i->(qm p i=true->inIx (↑i) p.vars.length/\KN 168 [AV.int j6 (p.vars.getD (↑i:Int).toNat c0v).init] (AV.bool (valB (p.vars.getD (↑i:Int).toNat c0v).init))/\(q6i p i=true->(RR j6/\2=z1s p)/\q2f)/\(q6i p i=false->InR j6 (q8 i)/\(∃ j,q38 p j/\p.vars.length - j < p.vars.length - i/\(RR (AV.ptr (3:Nat) [])/\RR (AV.ptr (4:Nat) [])/\q1u p/\RI ↑p.vars.length/\(RR j6/\q8 i=↑j)/\True)/\(RR (150:TypeId)/\q2g)/\(RR (150:TypeId)/\q4h)/\True)))/\(qm p i=false->(RR j6/\0=z1s p)/\q2f))):=by kernel_rfl
theorem kObj (p : PProg) (hp : PSm p) : Known Tryz.prog GG 108 [vP p] (.tup [.int .i64 (z1s p), vPl (-1) (-1)])  := by
  refine Known.of (V := vP25 45 (zpq p)) (fn := Tryz.f108) Tryz.func108 (by kernel_rfl) (zn _) rfl ?_
  show gObj p
  rw [eObj]; try delta q6d qek q6e q1w qel q6f q1x qem q6g q1y q4h q2f q6h q38 q1u q2g q6i q8 qm
  simp only [SB, inIx]
  have h1 := hp.vars
  have h2 := hp.muts
  have h3 := hp.conds
  have h4 := hp.funs
  refine ⟨by omega, fun _ => by omega, fun _ => by omega, fun _ => by omega, fun h => ?_, fun h => ?_⟩
  . unfold z1s; rw [if_pos (by omega)]
  have e : z1s p = if p.vars.all (fun v => valB v.init) then 0 else 2 := by unfold z1s; rw [if_neg (by omega)]
  rw [e]
  refine ⟨by omega, ⟨0, ⟨by omega, fun j hj => absurd hj (by omega)⟩, rfl⟩, fun i hi => ⟨fun hlt => ⟨hlt, kVal _, fun hb => ?_, fun hv => ⟨zg (by omega) (by omega), i + 1, ⟨by omega, fun j hj => ?_⟩, by omega, by omega⟩⟩, fun hge => ?_⟩⟩
  . rw [if_neg (fun h => ?_)]
    have := (z1u _ _ c0v).1 h i hlt
    rw [hb] at this; cases this
  . by_cases e : j = i
    . subst e; exact hv
    . exact hi.2 j (by omega)
  . rw [if_pos ((z1u _ _ c0v).2 fun j hj => hi.2 j (by omega))]
theorem nm_0 (p : PProg) : nm3 p 0 = z4i p := rfl
theorem nm_1 (p : PProg) : nm3 p 1 = p.muts := rfl
theorem nm_2 (p : PProg) : nm3 p 2 = p.conds := rfl
section
variable (p:PProg)
def q4k:=rowS (List.map (fun x=>x.name) (dR dV (rowV p.vars)))
variable (x1:Nat)
def qen:=x1<=3/\∀ j:Nat,j < x1->(zm (nm3 p j)).fst=0
def qqg:=RR 16/\RR 3
def qqh:Int × Int:=zm (dR dStr (rowS (nm3 p (↑x1:Int).toNat)))
def qeo:Int:=(qqh p x1).fst
def qqi:=(RR j6/\-1=(z1q p).snd.snd)/\True
def qqj:=qeo p x1 != 0
def q6j:=rowS (List.map (fun x=>x.name) (dR dF (rowF p.funs)))
def qac:Int × Int:=zm (dR dStr (q6j p))
def q4l:Int:=(qac p).fst
def qqk:Int:=(qac p).snd
end
theorem eNm (p:PProg):gNm p=(KN 165 [AV.mc za (encP p)] (q4k p)/\3 * leaf.size<=16777216/\↑(3:Nat)<=(9223372036854775807:Int)/\(∃ i,qen p i/\(RR (AV.ptr (1:Nat) [])/\RR (AV.ptr (3:Nat) [])/\qqg/\(RR j6/\↑(3:Nat)=(3:Int))/\(RR j6/\(0:Int)=↑i)/\True)/\((27:Nat)=(27:TypeId)/\qa p)/\((150:Nat)=(150:TypeId)/\q2g)/\(RR (23:TypeId)/\RR leaf/\RR (3:Nat)/\∀ (i:Nat),i < (3:Nat)->((((List.replicate (3:Nat) AV.nils).set (0:Nat) (strip1 (q4k p))).set (1:Nat) (strip1 (rowS p.muts))).set (2:Nat) (strip1 (rowS p.conds))).getD i AV.any=rowS (nm3 p i))/\True)/\∀ i:Nat,qen p i->(q5p i=true->inIx (↑i) 3/\(↑i:Int).toNat < 3/\KN 166 [rowS (nm3 p (↑i:Int).toNat)] (AV.tup [AV.int j6 (qeo p i),AV.int j6 (qqh p i).snd])/\(qqj p i=true->(RR j6/\qeo p i=(z1q p).fst)/\(RR ze/\(RR j6/\-1=(z1q p).snd.fst)/\qqi p)/\True)/\(qqj p i=false->InR j6 (q8 i)/\(∃ j,qen p j/\q5o j < q5o i/\(RR (AV.ptr (1:Nat) [])/\RR (AV.ptr (3:Nat) [])/\qqg/\RI (3:Int)/\(RR j6/\q8 i=↑j)/\True)/\(RR (27:TypeId)/\qa p)/\(RR (150:TypeId)/\q2g)/\(RR (23:TypeId)/\RW leaf (3:Nat) fun i=>rowS (nm3 p i))/\True)))/\(q5p i=false->KN 167 [AV.mc za (encP p)] (q6j p)/\KN 166 [q6j p] (AV.tup [AV.int j6 (q4l p),AV.int j6 (qqk p)])/\(RR j6/\q4l p=(z1q p).fst)/\(RR ze/\(RR j6/\qqk p=(z1q p).snd.fst)/\qqi p)/\True)):=by kernel_rfl
theorem kNm (p : PProg) (hp : PSm p) : Known Tryz.prog GG 107 [vP p] (.tup [.int .i64 (z1q p).1, vPl (z1q p).2.1 (z1q p).2.2])  := by
  refine Known.of (V := vP25 41 (zv9 p)) (fn := Tryz.f107) Tryz.func107 (by kernel_rfl) (zn _) rfl ?_
  show gNm p
  rw [eNm]; try delta q4k qen qqg qa q2g qqh qeo qqi qqj q8 q5o q5p q6j qac q4l qqk
  simp only [SB, inIx]
  have h1 := hp.vars
  have h2 := hp.muts
  have h3 := hp.conds
  have h4 := hp.funs
  have len : ∀ i, i < 3 -> (nm3 p i).length <= 1000000 := fun i hi => by
    match i, hi with
    | 0, _ => rw [nm_0]; show (p.vars.map _).length <= _; rw [List.length_map]; exact h1
    | 1, _ => exact h2
    | 2, _ => exact h3
  have sl : ∀ i, i < 3 -> ∀ j, ((nm3 p i).getD j []).length <= 9223372036854775807 := fun i hi => by
    match i, hi with
    | 0, _ => exact hp.vn
    | 1, _ => exact hp.mn
    | 2, _ => exact hp.cn
  refine ⟨kVar p h1, by decide, by omega, ⟨0, ⟨by omega, fun j hj => absurd hj (by omega)⟩, ⟨by omega, rfl⟩, fun i hi => ?_⟩, fun i hi => ⟨fun hlt => ⟨by omega, by omega, zpn _ (len i (by omega)) (sl i (by omega)), fun he => ?_, fun h0 => ⟨zg (by omega) (by omega), i + 1, ⟨by omega, fun j hj => ?_⟩, by omega, by omega⟩⟩, fun hge => ?_⟩⟩
  . match i, hi with
    | 0, _ | 1, _ | 2, _ => rfl
  . have hlt : i < 3 := by omega
    match i, hlt with
    | 0, _ =>
      rw [nm_0] at he ⊢
      unfold z1q; rw [if_pos (by simpa using he)]; exact ⟨rfl, rfl, rfl⟩
    | 1, _ =>
      have z0 := hi.2 0 (by omega)
      rw [nm_0] at z0
      rw [nm_1] at he ⊢
      unfold z1q; rw [if_neg (by simp [z0]), if_pos (by simpa using he)]; exact ⟨rfl, rfl, rfl⟩
    | 2, _ =>
      have z0 := hi.2 0 (by omega)
      have z1 := hi.2 1 (by omega)
      rw [nm_0] at z0
      rw [nm_1] at z1
      rw [nm_2] at he ⊢
      unfold z1q; rw [if_neg (by simp [z0]), if_neg (by simp [z1]), if_pos (by simpa using he)]; exact ⟨rfl, rfl, rfl⟩
  . by_cases e : j = i
    . subst e; exact h0
    . exact hi.2 j (by omega)
  . have z0 := hi.2 0 (by omega)
    have z1 := hi.2 1 (by omega)
    have z2 := hi.2 2 (by omega)
    rw [nm_0] at z0
    rw [nm_1] at z1
    rw [nm_2] at z2
    have e : z1q p = ((zm (z5o p)).1, (zm (z5o p)).2, -1) := by unfold z1q; rw [if_neg (by simp [z0]), if_neg (by simp [z1]), if_neg (by simp [z2])]
    rw [e]
    exact ⟨kFun p h4, zpn _ (by show (p.funs.map _).length <= _; rw [List.length_map]; exact h4) hp.fn, rfl, rfl, rfl⟩
theorem zs8 {p : PProg} {i : Inst} {k : Int} (h : z49 p i.op = k) (hk : 0 <= k) (h18 : i.op = 18 -> 0 <= i.n /\ i.n < p.muts.length) : (decide (0 <= i.obj) && decide (i.obj < k)) = !zex p i := by
  rw [Bool.eq_iff_iff, Bool.and_eq_true, decide_eq_true_eq, decide_eq_true_eq, Bool.not_eq_true', <- Bool.not_eq_true, z4w, h]
  constructor
  . intro h1 h2; omega
  . intro h1; omega
theorem zvd {p : PProg} {i : Inst} (h : i.op = 18) (hb : i.n < 0 ∨ (p.muts.length : Int) <= i.n) : false = !zex p i := by
  rw [z4w.2 (.inr ⟨h, hb⟩)]; rfl
theorem zs9 {p : PProg} {i : Inst} (h : z49 p i.op = -1) (h18 : i.op ≠ 18) : true = !zex p i := by
  have : ¬ zex p i = true := fun hx => by rcases z4w.1 hx with hx | hx <;> omega
  rw [Bool.not_eq_true] at this
  rw [this]; rfl
section
variable (i:Inst)
def q6k:=decide (0<=i.obj)
def qql:=q6k i=true
def qp:=qql i->qql i
end
section
variable (p:PProg) (i:Inst)
def q4m:=↑p.vars.length<=(9223372036854775807:Int)/\qp i/\qp i/\qp i/\qp i/\(q6k i&&decide (i.obj < ↑p.vars.length))=!zex p i
def qqm:=(i.op == 8)=true
def qqn:=↑p.muts.length<=(9223372036854775807:Int)
def qep:=qqn p/\qp i/\qp i/\qp i/\qp i/\(q6k i&&decide (i.obj < ↑p.muts.length))=!zex p i
def qqo:=(i.op == 15)=true
def qeq:=(!q4g i)=true
def q4n:=qeq i->qeq i
def qqp:=q4g i||decide (↑p.muts.length<=i.n)
def qer:=↑p.conds.length<=(9223372036854775807:Int)/\qp i/\qp i/\qp i/\qp i/\(q6k i&&decide (i.obj < ↑p.conds.length))=!zex p i
def qqq:=(i.op == 19)=true
def qqr:=((i.op == 21)=true->↑p.funs.length<=(9223372036854775807:Int)/\qp i/\qp i/\qp i/\qp i/\(q6k i&&decide (i.obj < ↑p.funs.length))=!zex p i)/\((i.op == 21)=false->true=!zex p i)
def qqs:=(i.op == 19)=false
def qes:=((i.op == 18)=true->q4n i/\q4n i/\q4n i/\(qeq i->qqn p)/\q4n i/\q4n i/\q4n i/\(qqp p i=true->false=!zex p i)/\(qqp p i=false->qer p i))/\((i.op == 18)=false->(qqq i->(qqq i->qer p i)/\(qqs i->qqr p i))/\(qqs i->((i.op == 20)=true->qer p i)/\((i.op == 20)=false->qqr p i)))
def qqt:=(i.op == 15)=false
def q4o:=(i.op == 16)=true
def qqu:=(i.op == 16)=false
def q4p:=(qqo i->(qqo i->qep p i)/\(qqt i->qes p i))/\(qqt i->(q4o i->(q4o i->qep p i)/\(qqu i->qes p i))/\(qqu i->((i.op == 17)=true->qep p i)/\((i.op == 17)=false->qes p i)))
def qqv:=(i.op == 8)=false
def qqw:=(i.op == 9)=true
def qqx:=(i.op == 9)=false
def qqy:=(i.op == 10)=true
def qqz:=(i.op == 10)=false
def qr0:=(i.op == 11)=true
def qr1:=(i.op == 11)=false
def qr2:=(i.op == 12)=true
def qr3:=(i.op == 12)=false
end
theorem zsa (p:PProg) (i:Inst):zkl p i=((qqm i->(qqm i->q4m p i)/\(qqv i->q4p p i))/\(qqv i->(qqw i->(qqw i->q4m p i)/\(qqx i->q4p p i))/\(qqx i->(qqy i->(qqy i->q4m p i)/\(qqz i->q4p p i))/\(qqz i->(qr0 i->(qr0 i->q4m p i)/\(qr1 i->q4p p i))/\(qr1 i->(qr2 i->(qr2 i->q4m p i)/\(qr3 i->q4p p i))/\(qr3 i->((i.op == 14)=true->q4m p i)/\((i.op == 14)=false->q4p p i))))))):=by kernel_rfl
theorem zsb (p : PProg) (i : Inst) (hp : PSm p) : Known Tryz.prog GG 207 [vP p, vI i] (.bool (!zex p i))  := by
  refine Known.of (V := vP25 61 fun _ => none) (fn := Tryz.f207) Tryz.func207 (by kernel_rfl) (zn _) rfl ?_
  show zkl p i
  rw [zsa]; try delta q6k qql qp q4m qqm qqn qep qqo q4g qeq q4n qqp qer qqq qqr qqs qes qqt q4o qqu q4p qqv qqw qqx qqy qqz qr0 qr1 qr2 qr3
  simp only [SB]
  have h1 := hp.vars
  have h2 := hp.muts
  have h3 := hp.conds
  have h4 := hp.funs
  repeat' (first | exact trivial | intro _ | apply And.intro)
  all_goals first
    | omega
    | exact zvd (by omega) (by omega)
    | exact zs8 (by unfold z49; repeat (first | rw [if_pos (by omega)] | rw [if_neg (by omega)])) (by omega) (by omega)
    | exact zs9 (by unfold z49; repeat (first | rw [if_pos (by omega)] | rw [if_neg (by omega)])) (by omega)
end
end
end Go.Proofs.S25
namespace Go.Proofs.S25
open Go Go.AV
open Go.IntKind renaming i64 -> j6
open Go.AV.Shape (leaf)
noncomputable section
def zkm (p : PProg) (k : Nat) : Option Inv := match Nat.beq k 4 with
  | true => some { ι := Nat, S := fun i => ⟨[(1, .ptr 1 []), (3, .int .i64 i)], [(1, .cell 27 za (encP p))]⟩, μ := fun i => p.thr.length - i, ok := fun i => i <= p.thr.length /\ z7o p p.thr.length = z7o p (p.thr.length - i) }
  | false => none
noncomputable def zve (p : PProg) : Prop := fnVc (vP25 48 (zkm p)) Tryz.f145 [vP p] (.int .i64 (z1o p))
def zkn (p : PProg) (f : PFun) (k : Nat) : Option Inv := match Nat.beq k 4 with
  | true => some { ι := Nat, S := fun i => ⟨[(2, .ptr 2 []), (3, .ptr 3 []), (6, .int .i64 i)], [(2, .cell 27 za (encP p)), (3, .cell 65 ze (encF f))]⟩, μ := fun i => f.code.length - i, ok := fun i => i <= f.code.length /\ z6e p f f.code.length = z6e p f (f.code.length - i) }
  | false => none
noncomputable def zvf (p : PProg) (f : PFun) : Prop := fnVc (vP25 58 (zkn p f)) Tryz.f144 [vP p, .mc ze (encF f)] (.tup [.int .i64 (z2j p f).1, .int .i64 (z2j p f).2])
def zko (p : PProg) (k : Nat) : Option Inv := match Nat.beq k 17 with
  | true => some { ι := Nat, S := fun i => ⟨[(1, .ptr 1 []), (15, .int .i64 i)], [(1, .cell 27 za (encP p))]⟩, μ := fun i => p.vars.length - i, ok := fun i => i <= p.vars.length /\ ∀ j, j < i -> valB (p.vars.getD j c0v).init = true }
  | false => match Nat.beq k 22 with
    | true => some { ι := Nat, S := fun i => ⟨[(1, .ptr 1 []), (16, .int .i64 i)], [(1, .cell 27 za (encP p))]⟩, μ := fun i => p.funs.length - i, ok := fun i => i <= p.funs.length /\ zr p = z78 p (p.funs.length - i) }
    | false => none
noncomputable def zvg (p : PProg) : Prop := fnVc (vP25 120 (zko p)) Tryz.f68 [vP p] (.tup [.int .i64 (zb p).1, .int .i64 (zb p).2.1, .int .i64 (zb p).2.2])
end
end Go.Proofs.S25
namespace Go.Proofs.S25
open Go Go.AV
open Go.IntKind renaming i64 -> j6
open Go.AV.Shape (leaf)
noncomputable section
open Go.IntKind renaming i64 -> j6
open Go.AV.Shape (leaf)
noncomputable section
theorem z107 (p:PProg):zve p=(q36 p/\q1v p/\q1v p/\(q68 p->q36 p)/\q1v p/\q1v p/\(q69 p=true->RR j6/\4=z1o p)/\(q69 p=false->(∃ i,q37 p i/\(RR (AV.ptr (1:Nat) [])/\(RR j6/\(0:Int)=↑i)/\True)/\((27:Nat)=(27:TypeId)/\qa p)/\True)/\∀ i:Nat,q37 p i->q36 p/\(q16 p i=true->inIx (↑i) p.thr.length/\qn p i/\qn p i/\qn p i/\(q4j p i->inIx (↑i) p.thr.length)/\qn p i/\qn p i/\qn p i/\qn p i/\(q4j p i->↑p.funs.length<=(9223372036854775807:Int))/\qn p i/\qn p i/\qn p i/\(q6b p i=true->RR j6/\11=z1o p)/\(q6b p i=false->inIx (↑i) p.thr.length/\KN 143 [AV.int j6 (p.thr.getD (↑i:Int).toNat c0s).arg] (AV.bool (valB (p.thr.getD (↑i:Int).toNat c0s).arg))/\(q6c p i=true->RR j6/\2=z1o p)/\(q6c p i=false->InR j6 (q8 i)/\(∃ j,q37 p j/\p.thr.length - j < p.thr.length - i/\(RR (AV.ptr (1:Nat) [])/\(RR j6/\q8 i=↑j)/\True)/\(RR (27:TypeId)/\qa p)/\True))))/\(q16 p i=false->RR j6/\0=z1o p))):=by kernel_rfl
theorem z108 (p : PProg) (hp : PSm p) : Known Tryz.prog GG 145 [vP p] (.int .i64 (z1o p))  := by
  refine Known.of (V := vP25 48 (zkm p)) (fn := Tryz.f145) Tryz.func145 (by kernel_rfl) (zn _) rfl ?_
  show zve p
  rw [z107]; try delta q36 qei q68 q1v q69 q37 qa qej q4j qn q6b q6c q8 q16
  simp only [SB, inIx]
  have h1 := hp.thr
  have h2 := hp.funs
  refine ⟨by omega, fun _ => by omega, fun h => ?_, fun h => ?_⟩
  . unfold z1o; rw [if_pos (by omega)]
  have e : z1o p = z7o p p.thr.length := by unfold z1o; rw [if_neg (by omega)]
  rw [e]
  refine ⟨⟨0, ⟨by omega, by rw [Nat.sub_zero]⟩, rfl⟩, fun i hi => ⟨by omega, fun hlt => ⟨hlt, ?_⟩, fun hge => ?_⟩⟩
  . refine ⟨fun _ => hlt, fun _ => by omega, fun hb => ?_, fun hg => ⟨hlt, zva _, fun hv => ?_, fun hv => ⟨zg (by omega) (by omega), i + 1, ⟨by omega, ?_⟩, by omega, by omega⟩⟩⟩
    . rw [hi.2, zch p i hlt, if_pos hb]
    . rw [hi.2, zch p i hlt, if_neg (by omega), if_pos hv]
    . rw [hi.2, zch p i hlt, if_neg (by omega), if_neg (by rw [hv]; simp)]
  . rw [hi.2, show p.thr.length - i = 0 from by omega]; rfl
theorem zkp (p : PProg) (f : PFun) (i : Nat) (hi : i < f.code.length) : z6e p f (f.code.length - i) = if z2r p (f.code.getD i c0i) f.code.length != 0 then (z2r p (f.code.getD i c0i) f.code.length, (i : Int)) else z6e p f (f.code.length - (i + 1)) := by
  obtain ⟨k, hk⟩ : ∃ k, f.code.length - i = k + 1 := ⟨f.code.length - i - 1, by omega⟩
  rw [hk, z6e, show f.code.length - (k + 1) = i from by omega, show k = f.code.length - (i + 1) from by omega]
theorem z9u {p : PProg} {f : PFun} {i : Nat} (hi : i < f.code.length) {e : Int} (h : z2r p (f.code.getD i c0i) f.code.length = e) (he : e ≠ 0) : z6e p f (f.code.length - i) = (e, (i : Int)) := by
  rw [zkp p f i hi, h, if_pos (by simpa using he)]
theorem zey {p : PProg} {f : PFun} {i : Nat} (hi : i < f.code.length) (h : z2r p (f.code.getD i c0i) f.code.length = 0) : z6e p f (f.code.length - i) = z6e p f (f.code.length - (i + 1)) := by
  rw [zkp p f i hi, h, if_neg (by simp)]
section
variable (f:PFun)
def qet:=↑f.code.length<=(9223372036854775807:Int)
end
section
variable (p:PProg) (f:PFun)
def qr4:=(RR j6/\-1=(z2j p f).snd)/\True
def qr5:=decide ((64:Int) < ↑f.code.length)
variable (x2:Nat)
def qeu:=x2<=f.code.length/\z6e p f f.code.length=z6e p f (f.code.length - x2)
def qr6:=RR ze/\RR f.name/\(RW zt f.code.length fun i=>encI (f.code.getD i c0i))/\True
variable (x1:Nat)
def qr7:List AV:=[AV.mc zt (encI (f.code.getD (↑x1:Int).toNat c0i))]
def qev:Int:=z13 (dIn (encI (f.code.getD (↑x1:Int).toNat c0i)))
def qew:=(RR j6/\↑x2=(z2j p f).snd)/\True
def qr8:=qev f x1 != 0
def qr9:=!zex (dP (encP p)) (dIn (encI (f.code.getD (↑x2:Int).toNat c0i)))
def qra:=!qr9 p f x2
def qrb:=(f.code.getD (↑x1:Int).toNat c0i).op == 4
def qrc:=(!qrb f x1)=true
def qex:=qrc f x1->qrc f x1
def qey:=qrb f x1||(f.code.getD (↑x1:Int).toNat c0i).op == 5
def qez:=qey f x1=true
def q6l:=qez f x1->qez f x1
def qrd:=decide ((f.code.getD (↑x1:Int).toNat c0i).n < 0)
def qre:=!qrd f x1
def qad:=(qey f x1&&qre f x1)=true
def q6m:=qad f x1->qad f x1
def qrf:=qey f x1&&(qrd f x1||decide ((↑f.code.length:Int) < (f.code.getD (↑x1:Int).toNat c0i).n))
def qrg:=decide ((↑x1:Int) < (↑f.code.length:Int))
end
theorem z109 (p:PProg) (f:PFun):zvf p f=(qet f/\(qr5 f=true->(RR j6/\4=(z2j p f).fst)/\qr4 p f)/\(qr5 f=false->(∃ i,qeu p f i/\(RR (AV.ptr (2:Nat) [])/\RR (AV.ptr (3:Nat) [])/\(RR j6/\(0:Int)=↑i)/\True)/\((27:Nat)=(27:TypeId)/\qa p)/\((65:Nat)=(65:TypeId)/\qr6 f)/\True)/\∀ i:Nat,qeu p f i->qet f/\(qrg f i=true->inIx (↑i) f.code.length/\KN 163 (qr7 f i) (AV.int j6 (qev f i))/\(qr8 f i=true->(RR j6/\qev f i=(z2j p f).fst)/\qew p f i)/\(qr8 f i=false->KN 207 (AV.mc za (encP p)::qr7 f i) (AV.bool (qr9 p f i))/\(qra p f i=true->(RR j6/\11=(z2j p f).fst)/\qew p f i)/\(qra p f i=false->qex f i/\qex f i/\qex f i/\q6l f i/\q6l f i/\q6l f i/\q6m f i/\q6m f i/\q6m f i/\(qad f i->qet f)/\q6m f i/\q6m f i/\q6l f i/\(qez f i->qre f i=true->qad f i)/\q6l f i/\(qrf f i=true->(RR j6/\12=(z2j p f).fst)/\qew p f i)/\(qrf f i=false->InR j6 (q8 i)/\(∃ j,qeu p f j/\f.code.length - j < f.code.length - i/\(RR (AV.ptr (2:Nat) [])/\RR (AV.ptr (3:Nat) [])/\(RR j6/\q8 i=↑j)/\True)/\(RR (27:TypeId)/\qa p)/\(RR (65:TypeId)/\qr6 f)/\True)))))/\(qrg f i=false->(RR j6/\0=(z2j p f).fst)/\qr4 p f))):=by kernel_rfl
theorem z10a (p : PProg) (f : PFun) (hp : PSm p) (hf : f.code.length <= 1000000) : Known Tryz.prog GG 144 [vP p, .mc ze (encF f)] (.tup [.int .i64 (z2j p f).1, .int .i64 (z2j p f).2])  := by
  refine Known.of (V := vP25 58 (zkn p f)) (fn := Tryz.f144) Tryz.func144 (by kernel_rfl) (zn _) rfl ?_
  show zvf p f
  rw [z109]; try delta qet qr4 qr5 qeu qa qr6 qr7 qev qew qr8 qr9 qra qrb qrc qex qey qez q6l qrd qre qad q6m qrf q8 qrg
  simp only [SB, inIx]
  refine ⟨by omega, fun h => ?_, fun h => ?_⟩
  . unfold z2j; rw [if_pos (by omega)]; exact ⟨rfl, rfl⟩
  have e : z2j p f = z6e p f f.code.length := by unfold z2j; rw [if_neg (by omega)]
  rw [e]
  refine ⟨⟨0, ⟨by omega, by rw [Nat.sub_zero]⟩, rfl⟩, fun i hi => ⟨by omega, fun hlt => ⟨hlt, zs6 _, fun hc => ?_, fun hc => ⟨zsb p _ hp, fun hb => ?_, fun hb => ⟨fun _ => by omega, fun ht => ?_, fun ht => ⟨zg (by omega) (by omega), i + 1, ⟨by omega, ?_⟩, by omega, by omega⟩⟩⟩⟩, fun hge => ?_⟩⟩
  . rw [hi.2, z9u hlt (by unfold z2r; rw [if_pos (by simpa using hc)]) hc]; exact ⟨rfl, rfl⟩
  . rw [hi.2, z9u hlt (e := 11) (by rw [z8y hc, if_pos hb]) (by omega)]; exact ⟨rfl, rfl⟩
  . rw [hi.2, z9u hlt (e := 12) (by rw [z8y hc, if_neg (by rw [hb]; simp), if_pos (by simpa using ht)]) (by omega)]; exact ⟨rfl, rfl⟩
  . rw [hi.2, zey hlt]
    rw [z8y hc, if_neg (by rw [hb]; simp), if_neg (by simp only [Bool.and_eq_true, Bool.or_eq_true, beq_iff_eq, decide_eq_true_eq]; omega)]
  . rw [hi.2, show f.code.length - i = 0 from by omega]; exact ⟨rfl, rfl⟩
theorem z89 (p : PProg) (i : Nat) (hi : i < p.funs.length) : z78 p (p.funs.length - i) = if (z2j p (p.funs.getD i c0f)).1 != 0 then ((z2j p (p.funs.getD i c0f)).1, (i : Int), (z2j p (p.funs.getD i c0f)).2) else z78 p (p.funs.length - (i + 1)) := by
  obtain ⟨k, hk⟩ : ∃ k, p.funs.length - i = k + 1 := ⟨p.funs.length - i - 1, by omega⟩
  rw [hk, z78, show p.funs.length - (k + 1) = i from by omega, show k = p.funs.length - (i + 1) from by omega]
theorem cp1 {p : PProg} (h : (zm (z4i p)).1 ≠ 0) : zb p = ((zm (z4i p)).1, -1, -1) := by
  have e : z1q p = ((zm (z4i p)).1, -1, -1) := by unfold z1q; rw [if_pos (by simpa using h)]
  unfold zb; rw [e, if_pos (by simpa using h)]
theorem cp2 {p : PProg} (h1 : (zm (z4i p)).1 = 0) (h : (zm p.muts).1 ≠ 0) : zb p = ((zm p.muts).1, -1, -1) := by
  have e : z1q p = ((zm p.muts).1, -1, -1) := by unfold z1q; rw [if_neg (by simp [h1]), if_pos (by simpa using h)]
  unfold zb; rw [e, if_pos (by simpa using h)]
theorem cp3 {p : PProg} (h1 : (zm (z4i p)).1 = 0) (h2 : (zm p.muts).1 = 0) (h : (zm p.conds).1 ≠ 0) : zb p = ((zm p.conds).1, -1, -1) := by
  have e : z1q p = ((zm p.conds).1, -1, -1) := by unfold z1q; rw [if_neg (by simp [h1]), if_neg (by simp [h2]), if_pos (by simpa using h)]
  unfold zb; rw [e, if_pos (by simpa using h)]
theorem zpr {p : PProg} (h1 : (zm (z4i p)).1 = 0) (h2 : (zm p.muts).1 = 0) (h3 : (zm p.conds).1 = 0) : z1q p = ((zm (z5o p)).1, (zm (z5o p)).2, -1) := by
  unfold z1q; rw [if_neg (by simp [h1]), if_neg (by simp [h2]), if_neg (by simp [h3])]
theorem cp4 {p : PProg} (h1 : (zm (z4i p)).1 = 0) (h2 : (zm p.muts).1 = 0) (h3 : (zm p.conds).1 = 0) (h : (zm (z5o p)).1 ≠ 0) : zb p = ((zm (z5o p)).1, (zm (z5o p)).2, -1) := by
  unfold zb; rw [zpr h1 h2 h3, if_pos (by simpa using h)]
theorem cp5 {p : PProg} (h : (z1q p).1 = 0) (ho : z1s p ≠ 0) : zb p = (z1s p, -1, -1) := by
  unfold zb; rw [if_neg (by simp [h]), if_pos (by simpa using ho)]
theorem cp6 {p : PProg} (h : (z1q p).1 = 0) (ho : z1s p = 0) (hc : (zr p).1 ≠ 0) : zb p = zr p := by
  unfold zb; rw [if_neg (by simp [h]), if_neg (by simp [ho]), if_pos (by simpa using hc)]
theorem cp7 {p : PProg} (h : (z1q p).1 = 0) (ho : z1s p = 0) (hc : (zr p).1 = 0) : zb p = (z1o p, -1, -1) := by
  unfold zb; rw [if_neg (by simp [h]), if_neg (by simp [ho]), if_neg (by simp [hc])]
section
variable (p:PProg)
def qrh:List AV:=[q6j p]
def qri:Int × Int:=zm (dR dStr (q4k p))
def qf0:Int:=(qri p).fst
def qrj:=(RR j6/\-1=(zb p).snd.snd)/\True
def q4q:=(RR j6/\-1=(zb p).snd.fst)/\qrj p
def qrk:=qf0 p != 0
def qrl:=(zm (dR dStr (rowS p.muts))).fst != 0
def qrm:=(zm (dR dStr (rowS p.conds))).fst != 0
def qrn:Int:=if (zm (dR dStr (rowS (List.map (fun x=>x.name) (dR dF (rowF p.funs)))))).fst=0 then 0 else (qac p).snd
def qro:=q4l p != 0
def q6n:=↑p.funs.length<=(9223372036854775807:Int)
variable (x0:Nat)
def qrp:=RR (AV.ptr 1 [])/\(RR j6/\(0:Int)=↑x0)/\True
def qrq:=(RR (27:TypeId)/\qa p)/\True
variable (x1:Nat) (x2:Nat)
def qrr:=(RR (AV.ptr 1 [])/\(RR j6/\q8 x1=↑x2)/\True)/\qrq p
def qf1:=x1<=p.funs.length/\zr p=z78 p (p.funs.length - x1)
def qrs:Int × Int:=z2j (dP (encP p)) (dF (encF (p.funs.getD (↑x1:Int).toNat c0f)))
def qf2:Int:=(qrs p x1).fst
def qrt:Int:=(qrs p x1).snd
def qru:=qf2 p x1 != 0
end
theorem z10b (p:PProg):zvg p=(KN 141 [AV.mc za (encP p)] (AV.tup (q4k p::qrh p))/\(KN 142 [q4k p] (AV.tup [AV.int j6 (if (zm (dR dStr (rowS (List.map (fun x=>x.name) (dR dV (rowV p.vars)))))).fst=(0:Int) then (0:Int) else (qri p).snd),AV.int j6 (qf0 p)]))/\(qrk p=true->(RR j6/\qf0 p=(zb p).fst)/\q4q p)/\(qrk p=false->KN 142 [rowS p.muts] (AV.tup [AV.int j6 (if (zm (dR dStr (rowS p.muts))).fst=(0:Int) then (0:Int) else (zm (dR dStr (rowS p.muts))).snd),AV.int j6 (zm (dR dStr (rowS p.muts))).fst])/\(qrl p=true->(RR j6/\(zm (dR dStr (rowS p.muts))).fst=(zb p).fst)/\q4q p)/\(qrl p=false->KN 142 [rowS p.conds] (AV.tup [AV.int j6 (if (zm (dR dStr (rowS p.conds))).fst=(0:Int) then (0:Int) else (zm (dR dStr (rowS p.conds))).snd),AV.int j6 (zm (dR dStr (rowS p.conds))).fst])/\(qrm p=true->(RR j6/\(zm (dR dStr (rowS p.conds))).fst=(zb p).fst)/\q4q p)/\(qrm p=false->KN 142 (qrh p) (AV.tup [AV.int j6 (qrn p),AV.int j6 (q4l p)])/\(qro p=true->(RR j6/\q4l p=(zb p).fst)/\(RR j6/\qrn p=(zb p).snd.fst)/\qrj p)/\(qro p=false->q6d p/\q1w p/\q1w p/\(q6e p->↑p.muts.length<=(9223372036854775807:Int))/\q1w p/\q1w p/\q1x p/\q1x p/\(q6f p->↑p.conds.length<=(9223372036854775807:Int))/\q1x p/\q1x p/\q1y p/\q1y p/\(q6g p->q6n p)/\q1y p/\q1y p/\(q6h p=true->(RR j6/\4=(zb p).fst)/\q4q p)/\(q6h p=false->(∃ i,q38 p i/\qrp i/\((27:Nat)=(27:TypeId)/\qa p)/\True)/\∀ i:Nat,q38 p i->q6d p/\(qm p i=true->inIx (↑i) p.vars.length/\KN 143 [AV.int j6 (p.vars.getD (↑i:Int).toNat c0v).init] (AV.bool (valB (p.vars.getD (↑i:Int).toNat c0v).init))/\(q6i p i=true->(RR j6/\2=(zb p).fst)/\q4q p)/\(q6i p i=false->q9 i/\(∃ j,q38 p j/\p.vars.length - j < p.vars.length - i/\qrr p i j)))/\(qm p i=false->(∃ i,qf1 p i/\qrp i/\qrq p)/\∀ (i:Nat),qf1 p i->q6n p/\(qr p i=true->inIx (↑i:Int) p.funs.length/\KN 144 [AV.mc za (encP p),AV.mc ze (encF (p.funs.getD (↑i:Int).toNat c0f))] (AV.tup [AV.int j6 (qf2 p i),AV.int j6 (qrt p i)])/\(qru p i=true->(RR j6/\qf2 p i=(zb p).fst)/\(RR j6/\(↑i:Int)=(zb p).snd.fst)/\(RR j6/\qrt p i=(zb p).snd.snd)/\True)/\(qru p i=false->q9 i/\∃ j,qf1 p j/\p.funs.length - j < p.funs.length - i/\qrr p i j))/\(qr p i=false->KN 145 [AV.mc za (encP p)] (AV.int j6 (z1o (dP (encP p))))/\(RR j6/\z1o (dP (encP p))=(zb p).fst)/\q4q p)))))))):=by kernel_rfl
theorem zsc (p : PProg) (hp : PSm p) : Known Tryz.prog GG 68 [vP p] (.tup [.int .i64 (zb p).1, .int .i64 (zb p).2.1, .int .i64 (zb p).2.2])  := by
  refine Known.of (V := vP25 120 (zko p)) (fn := Tryz.f68) Tryz.func68 (by kernel_rfl) (zn _) rfl ?_
  show zvg p
  rw [z10b]; try delta q4k q6j qrh qri qf0 qrj q4q qrk qrl qrm qac qrn q4l qro q6d qek q6e q1w qel q6f q1x qem q6g q1y q6n q6h q38 qrp qa q6i q8 q9 qrq qrr qm qf1 qrs qf2 qrt qru qr
  simp only [SB, inIx]
  have b1 := hp.vars
  have b2 := hp.muts
  have b3 := hp.conds
  have b4 := hp.funs
  refine ⟨zv6 p b1 b4, zdh _ (by rw [List.length_map]; exact b1) hp.vn, fun h => ?_, fun z1 => ⟨zdh _ b2 hp.mn, fun h => ?_, fun z2 => ⟨zdh _ b3 hp.cn, fun h => ?_, fun z3 => ⟨zdh _ (by rw [List.length_map]; exact b4) hp.fn, fun h => ?_, fun z4 => ?_⟩⟩⟩⟩
  . rw [cp1 h]; exact ⟨rfl, rfl, rfl⟩
  . rw [cp2 z1 h]; exact ⟨rfl, rfl, rfl⟩
  . rw [cp3 z1 z2 h]; exact ⟨rfl, rfl, rfl⟩
  . rw [cp4 z1 z2 z3 h]; exact ⟨rfl, if_neg h, rfl⟩
  have hn : (z1q p).1 = 0 := by rw [zpr z1 z2 z3]; exact z4
  refine ⟨by omega, fun _ => by omega, fun _ => by omega, fun _ => by omega, fun h => ?_, fun h => ?_⟩
  . have e : z1s p = 4 := by unfold z1s; rw [if_pos (by omega)]
    rw [cp5 hn (by omega), e]; exact ⟨rfl, rfl, rfl⟩
  have e : z1s p = if p.vars.all (fun v => valB v.init) then 0 else 2 := by unfold z1s; rw [if_neg (by omega)]
  refine ⟨⟨0, ⟨by omega, fun j hj => absurd hj (by omega)⟩, rfl⟩, fun i hi => ⟨by omega, fun hlt => ⟨hlt, zva _, fun hb => ?_, fun hv => ⟨zg (by omega) (by omega), i + 1, ⟨by omega, fun j hj => ?_⟩, by omega, by omega⟩⟩, fun hge => ?_⟩⟩
  . have e2 : z1s p = 2 := by
      rw [e, if_neg (fun h => ?_)]
      have := (z1u _ _ c0v).1 h i hlt
      rw [hb] at this; cases this
    rw [cp5 hn (by omega), e2]; exact ⟨rfl, rfl, rfl⟩
  . by_cases e : j = i
    . subst e; exact hv
    . exact hi.2 j (by omega)
  have e2 : z1s p = 0 := by rw [e, if_pos ((z1u _ _ c0v).2 fun j hj => hi.2 j (by omega))]
  refine ⟨⟨0, ⟨by omega, by rw [Nat.sub_zero]; rfl⟩, rfl⟩, fun i hi => ⟨by omega, fun hlt => ⟨hlt, z10a p _ hp (hp.code i), fun hb => ?_, fun hz => ⟨zg (by omega) (by omega), i + 1, ⟨by omega, ?_⟩, by omega, by omega⟩⟩, fun hge => ?_⟩⟩
  . have e3 : zr p = ((z2j p (p.funs.getD i c0f)).1, (i : Int), (z2j p (p.funs.getD i c0f)).2) := by rw [hi.2, z89 p i hlt, if_pos (by simpa using hb)]
    rw [cp6 hn e2 (by rw [e3]; exact hb), e3]; exact ⟨rfl, rfl, rfl⟩
  . rw [hi.2, z89 p i hlt, if_neg (by rw [hz]; decide)]
  . have e3 : zr p = (0, -1, -1) := by rw [hi.2, show p.funs.length - i = 0 from by omega]; rfl
    rw [cp7 hn e2 (by rw [e3])]
    exact ⟨z108 p hp, rfl, rfl, rfl⟩
end
end
end Go.Proofs.S25
