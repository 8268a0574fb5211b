import Derived.Test.YtgcpdfihjmmggaaGreatDoorXo
namespace Go.Proofs.S25
open Go Go.AV Tryz
open Go.IntKind renaming i64 -> j6
open Go.AV.ex (ey)
noncomputable section
variable (b:Int) {n:Int} (t:i5) (i:aK) {p:ai}
structure dU (t:i5):Prop where
 aw:t.aw.length=8
 id:t.id<=9223372036854775807
 pc:t.pc<9223372036854775807
 ic:t.ic.length<=1000
structure TOW (t:i5):Prop where
 aw:t.aw.length=8
 id:t.id<=9223372036854775807
 pc:t.pc<=9223372036854775807
 ic:t.ic.length<=140737488355328
theorem dU.wo {t:i5} (h:dU t):TOW t:=⟨h.aw,h.id,by have :=h.pc;omega,by have :=h.ic;omega⟩
def bS:Int:=
 if t.gH≠0 then 0
 else if i.op=16∨i.op=18 then(if aQ t.ic (if i.op=18 then i.n else i.ii)then 0 else 27)
 else if i.op=21 then(if cA t then 0 else 28)
 else 0
def qV (p:ai) (t:i5):Bool:=!(decide (br t.id<0) || decide (t.fn<0) || decide ((p.ef.length:Int)<=t.fn) || decide (t.pc<0) || decide (((p.ef.getD t.fn.toNat bL).code.length:Int)<t.pc))
def uh:Bool:=t.aw.all λr=>wr r==r
def om:Bool:=!(decide (t.io<0) || decide (b<t.io) || decide (t.i7<0) || decide (7<t.i7) || (br t.id==4&&t.i7 !=0) || !kU t.ic)
def vR (p:ai) (t:i5):Bool:=t.ic.all λm=>!(decide (m<0) || decide ((p.aP.length:Int)<=m))
def uV (p:ai) (t:i5):Bool:=t.gH==0 || ((t.gH==1 || t.gH==2)&&dv p t&&(i6 p t).op==18&&!aQ t.ic (i6 p t).n)
def fw (p:ai) (b:Int) (t:i5):Bool:=qV p t&&(uh t&&(om b t&&(vR p t&&uV p t)))
def spO:FuncId ->List AV ->Option AV
 |204,[.mc _ t, .mc _ i]=>some (d9 (bS (dT t) (dX i)))
 |226,[.mc _ p, .int _ b, .mc _ t]=>some (.bool (fw (dP p) b (dT t)))
 |f,l=>spT f l
noncomputable def vO2 (n:Nat) (inv:Nat ->Option lm):bm:={C:=jE n,CC:=mp prog GG,b9:=λ_ _=>spO,inv:=inv}
def zpb (p:ai) (b:Int) (t:i5) (k:Nat):Option lm:=match Nat.beq k 5 with
 |true=>iw 8 (λi=>⟨[(1,d9 b),(3, .ptr 3 []),(5, .ptr 5 []),(7,d9 (br t.id)),(51, .mc (.arr 8 .ey) (kT t.aw)),(52,d9 i)],[(3, .cell 27 z7 (ah p)),(5, .cell 51 zk (ak t))]⟩) λi=>∀ j,j<i ->wr (t.aw.getD j 0)=t.aw.getD j 0
 |false=>match Nat.beq k 13 with
  |true=>iw t.ic.length (λi=>⟨[(3, .ptr 3 []),(5, .ptr 5 []),(95,a8 t.ic),(96,d9 t.ic.length),(97,d9 i)],[(3, .cell 27 z7 (ah p)),(5, .cell 51 zk (ak t))]⟩) λi=>∀ j,j<i ->0<=t.ic.getD j 0/\t.ic.getD j 0<(p.aP.length:Int)
  |false=>none
section
variable (t:i5)
def qw:List Int:=zw t.ic.length λi=>d9 (t.ic.getD i 0)
variable (i:aK)
def Xw:=aQ (qw t) i.n
def Sd:=!Xw t i
def Va:=aQ (qw t) i.ii
def FA:=!Va t i
end
theorem Y7 (ht:TOW t):KN 204 [vT t,vI i] (d9 (bS t i)):=by
 refine Kn (vO2 35 λ_=>none) func204 (Z (t.gH !=0) (0=bS t i) (Z (i.op==18) (KN 244 [a8 t.ic,d9 i.n] (AV.bool (Xw t i))/\Z (Sd t i) (27=bS t i) (0=bS t i)) (Z (i.op==16) (KN 244 [a8 t.ic,d9 i.ii] (AV.bool (Va t i))/\Z (FA t i) (27=bS t i) (0=bS t i)) (Z (i.op==21) (KN 235 [AV.mc zk (ak t)] (AV.av [d9 (eU (dT (ak t))),AV.bool (cA (dT (ak t)))])/\Z (!cA (dT (ak t))) (28=bS t i) (0=bS t i)) (0=bS t i))))) ?_;try delta Z qw Xw Sd Va FA
 simp only[SZ];have e:dT (ak t)=t:=iz t ht.aw;have hh:=ht.ic;simp only[e,oR];refine⟨λh=>?_,λh0=>⟨λh18=>⟨zp5 _ _ O,λh=>?_,λh=>?_⟩,λn18=>⟨λh16=>⟨zp5 _ _ O,λh=>?_,λh=>?_⟩,λn16=>⟨λh21=>⟨?_,λh=>?_,λh=>?_⟩,λn21=>?_⟩⟩⟩⟩;grind[bS];grind[bS];grind[bS];unfold bS;rw[x8 (by simp[h0]),x9 (.inl h16),x8 n18,h];rfl;unfold bS;rw[x8 (by simp[h0]),x9 (.inl h16),x8 n18,h];rfl;exact zwb t ht.aw ht.id;unfold bS;rw[x8 (by simp[h0]),x8 O,x9 h21,h];rfl;unfold bS;rw[x8 (by simp[h0]),x8 O,x9 h21,h];rfl;grind[bS]
theorem fm1 {b:Int} {t:i5} (h:qV p t=false):false=fw p b t:=by unfold fw;rw[h];rfl
theorem fm2 {b:Int} {t:i5} (h:uh t=false):false=fw p b t:=by unfold fw;rw[h];simp
theorem fm3 {b:Int} {t:i5} (h:om b t=false):false=fw p b t:=by unfold fw;rw[h];simp
theorem fm4 {b:Int} {t:i5} (h:vR p t=false):false=fw p b t:=by unfold fw;rw[h];simp
theorem fm5 {b:Int} {t:i5} (h:qV p t) (h2:uh t) (f:om b t) (e:vR p t):fw p b t=uV p t:=by grind[fw]
section
variable (t:i5)
def Ku:=qgf t||decide (t.fn<0)
def qms:=(!Ku t)=true
def zG:=qms t->qms t
end
section
variable (p:ai) (t:i5)
def FL:=Ku t||decide (↑p.ef.length<=t.fn)
def R8:=(!FL p t)=true
def qmt:=R8 p t->R8 p t
def GS:=FL p t||decide (t.pc<0)
def qgi:=(!GS p t)=true
def pA:=qgi p t->qgi p t
def J3:=GS p t||decide (↑(p.ef.getD t.fn.toNat bL).code.length<t.pc)
variable (x1:Nat)
def qmu:=x1<=8/\∀ j:Nat,j<x1->wr (t.aw.getD j 0)=t.aw.getD j 0
def Dp:=∀ (i:Nat),RR (d9 (t.aw.getD i 0))
def Js:Int:=t.aw.getD (↑x1:Int).toNat 0
def Rh:Int:=wr (Js t x1)
def Ah:=Rh t x1 !=Js t x1
variable (x0:Nat)
def WW:Nat:=8 - x0
def Vw:=decide (↑x0<(8:Int))
def qmv:=decide (t.io<0)
def qmw:=(!qmv t)=true
def sk:=qmw t->qmw t
end
section
variable (b:Int) (t:i5)
def qmx:=qmv t||decide (b<t.io)
def qmy:=(!qmx b t)=true
def q5f:=qmy b t->qmy b t
def qmz:=qmx b t||decide (t.i7<0)
def qn0:=(!qmz b t)=true
def xW:=qn0 b t->qn0 b t
def qgj:=qmz b t||decide (7<t.i7)
def YO:=!qgj b t
def T0:=YO b t=true
def pS:=T0 b t->T0 b t
def qn1:=br t.id==4
def qn2:=(YO b t&&qn1 t)=true
def BL:=qn2 b t->qn2 b t
def GB:=qgj b t||qn1 t&&t.i7 !=0
def qn3:=(!GB b t)=true
def Zk:=qn3 b t->qn3 b t
def AU:=kU (qw t)
def GV:=GB b t||!AU t
end
section
variable (p:ai) (t:i5) (x2:Nat)
def qn4:=x2<=t.ic.length/\∀ j:Nat,j<x2->0<=t.ic.getD j 0/\t.ic.getD j 0<↑p.aP.length
variable (x1:Nat)
def qn5:=decide (t.ic.getD (↑x1:Int).toNat 0<0)
def OI:=(!qn5 t x1)=true
def q1d:=OI t x1->OI t x1
def X7:=qn5 t x2||decide ((↑p.aP.length:Int)<=t.ic.getD (↑x2:Int).toNat 0)
def qaj:=decide ((↑x1:Int)<(↑t.ic.length:Int))
def P3:=(!t.gH==1)=true
def qn6:=P3 t->P3 t
def JP:=t.gH==1||t.gH==2
def EP:=JP t=true
def Ih:=JP t&&dv (dP (ah p)) (dT (ak t))
def Lc:=Ih p t=true
def qn7:=Lc p t->Lc p t
def E5:=Ih p t&&(i6 (dP (ah p)) (dT (ak t))).op==18
def qn8:=E5 p t=true
def yL:=qn8 p t->qn8 p t
def Ad:=aQ (qw t) (i6 (dP (ah p)) (dT (ak t))).n
end
theorem akb (p:ai) (b:Int) (t:i5) (k:bI p) (f:TOW t):KN 226 [vP p,d9 b,vT t] (.bool (fw p b t)):=by
 refine Kn (vO2 144 (zpb p b t)) func226 (KN 137 [d9 t.id] (d9 (br t.id))/\CA t/\CA t/\CA t/\zG t/\zG t/\zG t/\(qms t->aH ↑p.ef.length)/\zG t/\zG t/\zG t/\qmt p t/\qmt p t/\qmt p t/\pA p t/\pA p t/\pA p t/\pA p t/\pA p t/\(qgi p t->af t.fn p.ef.length)/\pA p t/\pA p t/\pA p t/\(qgi p t->aH ↑(p.ef.getD t.fn.toNat bL).code.length)/\pA p t/\pA p t/\pA p t/\Z (J3 p t) (false=fw p b t) ((∃ i,qmu t i/\(RR b/\RR (br t.id)/\Dp t/\(0:Int)=↑i)/\LT (ah p)/\LT (ak t))/\∀ i:Nat,qmu t i->Z (Vw i) (af (↑i) 8/\KN 138 [d9 (Js t i)] (d9 (Rh t i))/\Z (Ah t i) (false=fw p b t) (qa i/\(∃ j,qmu t j/\WW j<WW i/\(RR b/\RR (br t.id)/\Dp t/\qb i j)/\LT (ah p)/\LT (ak t)))) (sk t/\sk t/\sk t/\sk t/\q5f b t/\q5f b t/\q5f b t/\xW b t/\xW b t/\xW b t/\pS b t/\pS b t/\BL b t/\BL b t/\pS b t/\(T0 b t->qn1 t=true->qn2 b t)/\pS b t/\Zk b t/\Zk b t/\(qn3 b t->KN 224 [a8 t.ic] (AV.bool (AU t)))/\Zk b t/\Zk b t/\Z (GV b t) (false=fw p b t) (aH ↑t.ic.length/\(∃ i,qn4 p t i/\(LT (a8 t.ic)/\RR (↑t.ic.length:Int)/\0=(↑i:Int))/\LT (ah p)/\LT (ak t))/\∀ (i:Nat),qn4 p t i->Z (qaj t i) (af (↑i:Int) t.ic.length/\q1d t i/\q1d t i/\(OI t i->aH (↑p.aP.length:Int))/\q1d t i/\q1d t i/\q1d t i/\Z (X7 p t i) (false=fw p b t) (qa i/\∃ j,qn4 p t j/\t.ic.length - j<t.ic.length - i/\(LT (a8 t.ic)/\RR (↑t.ic.length:Int)/\qb i j)/\LT (ah p)/\LT (ak t))) (Z (t.gH==(0:Int)) (true=fw p b t) (KN 190 [AV.mc z7 (ah p),AV.mc zk (ak t)] (AV.av [AV.mc zy (k8 (i6 (dP (ah p)) (dT (ak t)))),AV.bool (dv (dP (ah p)) (dT (ak t)))])/\qn6 t/\qn6 t/\qn6 t/\(EP t->EP t)/\qn7 p t/\qn7 p t/\qn7 p t/\yL p t/\yL p t/\yL p t/\yL p t/\(qn8 p t->KN 244 [a8 t.ic,d9 (i6 (dP (ah p)) (dT (ak t))).n] (AV.bool (Ad p t)))/\yL p t/\yL p t/\(E5 p t&&!Ad p t)=fw p b t)))))) ?_;try delta Z aH qgf qmp CA Ku qms zG FL R8 qmt GS qgi pA J3 qmu Dp Js Rh Ah q9 qa WW qb Vw qmv qmw sk qmx qmy q5f qmz qn0 xW qgj YO T0 pS qn1 qn2 BL GB qn3 Zk qw AU GV qn4 qn5 OI q1d X7 qaj P3 qn6 JP EP Ih Lc qn7 E5 qn8 yL Ad
 simp only[SZ];have e:dT (ak t)=t:=iz t f.aw;have hh:=f.ic;have hr:=f.aw;have E:=k.ef;have c2:=k.code t.fn.toNat;have y:=k.aP;simp only[e,oR];refine⟨J7 _ f.id,λ_=>O,λh=>O,λh=>O,λh=>fm1 ?_,λhA=>?_⟩;unfold qV;simp only[y8,xk,xd];exact h;have gA:qV p t=true:=by unfold qV;simp only[xi,xg,xh];exact hA
 refine⟨⟨0,⟨O,λj hj=>O⟩,rfl⟩,λi hi=>⟨λhlt=>⟨O,qH _,λh=>fm2 ?_,λh=>⟨f9,i+1,⟨O,λj hj=>?_⟩,O,O⟩⟩,λhge=>?_⟩⟩;cases m:uh t with
 |false=>rfl
 |true=>
  have :=(lO _ _ 0).1 m i O;exact absurd (by simpa using this) h
 by_cases e2:j=i;subst e2;exact h;exact hi.2 j O;have u:uh t=true:=(lO _ _ 0).2 λj hj=>by simpa using hi.2 j O
 refine⟨λ_=>YH _ O,λh=>fm3 ?_,λhS=>?_⟩;unfold om;simp only[y8,xk,xd,xa,xo,gz,xi];exact h;have gS:om b t=true:=by
  unfold om;simp only[xi,xg,xh,xy,xp,w9,y8];exact hS
 refine⟨O,⟨0,⟨O,λj hj=>O⟩,rfl⟩,λi hi=>⟨λhlt=>⟨hlt,λ_=>O,λh=>fm4 ?_,λh=>⟨f9,i+1,⟨O,λj hj=>?_⟩,O,O⟩⟩,λhge=>?_⟩⟩;cases m:vR p t with
 |false=>rfl
 |true=>
  have :=(lO _ _ 0).1 m i hlt;simp only[xi,xg,xh]at this;omega
 by_cases e2:j=i;subst e2;omega;exact hi.2 j O;have x:vR p t=true:=(lO _ _ 0).2 λj hj=>by
  have :=hi.2 j O;grind
 rw[fm5 gA u gS x];refine⟨λh=>?_,λh=>⟨ZR p t O O k,λ_=>zp5 _ _ O, ?_⟩⟩;unfold uV;rw[h];rfl;have :(t.gH==0)=false:=by simpa using h
 unfold uV;rw[this,jb]
def jD (l:List Int) (a:Int) (v:Int):List Int:=l.set a.toNat v
def dy (a:Int):Int:=t.aw.getD a.toNat 0
def aO:i5×Bool:=
 if i.op=1 then({t with aw:=jD t.aw i.a i.n,pc:=t.pc+1},true)
 else if i.op=2 then({t with aw:=jD t.aw i.a (dy t i.b),pc:=t.pc+1},true)
 else if i.op=3 then(if(app i.fn (dy t i.b) (dy t i.c)).2=0 then {t with aw:=jD t.aw i.a (app i.fn (dy t i.b) (dy t i.c)).1,pc:=t.pc+1}else {t with pc:=t.pc+1},true)
 else if i.op=5 then({t with pc:=if dy t i.b=0 then t.pc+1 else i.n},true)
 else if i.op=4 then({t with pc:=i.n},true)
 else if i.op=6 then(if dy t i.b=0 then(cT t 3 26,false)else({t with pc:=t.pc+1},true))
 else if i.op=7 then(cT t 2 0,false)
 else({t with pc:=t.pc+1},true)
def spL:FuncId ->List AV ->Option AV
 |205,[.mc _ t, .mc _ i]=>some (.av [vT (aO (dT t) (dX i)).1, .bool (aO (dT t) (dX i)).2])
 |155,[.mc _ t, .mc _ i]=>some (vT (aO (dT t) (dX i)).1)
 |f,l=>spO f l
noncomputable def vL2 (n:Nat) (inv:Nat ->Option lm):bm:={C:=jE n,CC:=mp prog GG,b9:=λ_ _=>spL,inv:=inv}
structure zV (i:aK):Prop where
 a:cZ i.op 0=true ->0<=i.a/\i.a<8
 b:cZ i.op 1=true ->0<=i.b/\i.b<8
 c:cZ i.op 2=true ->0<=i.c/\i.c<8
theorem zhd (l:List Int) (a v:Int) (h:l.length=8) (f:0<=a/\a<8) (j:Nat):(if j=a.toNat then d9 v else d9 (l.getD j 0))=d9 ((jD l a v).getD j 0):=by
 unfold jD;rw[x7 (l:=l.set _ _),gq];by_cases e:a.toNat=j;subst e;grind;rw[x8 (λh=>e h.symm),x8 e,x7]
section
variable (t:i5)
def pZ:Int:=t.pc+1
variable (i:aK)
def re:=pZ t=(aO t i).fst.pc
variable (x2:Nat)
def sw:=d9 ((aO t i).fst.aw.getD x2 0)
def sH:=t.io=(aO t i).fst.io/\t.i7=(aO t i).fst.i7/\t.gH=(aO t i).fst.gH/\t.ip=(aO t i).fst.ip/\t.i9=(aO t i).fst.i9/\LS (a8 t.ic) (a8 (aO t i).fst.ic)
def XD:=d9 (t.aw.getD i.b.toNat 0)
def qgm:Int×Int:=app i.fn (t.aw.getD i.b.toNat 0) (t.aw.getD i.c.toNat 0)
def Vb:=d9 (qgm t i).fst
def Kh:Int:=(qgm t i).snd
def BV:=Kh t i==0
def Ws:=(∀ (e:Nat),d9 (t.aw.getD e 0)=sw t i e)/\sH t i
def qgn:=(t.id=(aO t i).fst.id/\t.fn=(aO t i).fst.fn/\re t i/\Ws t i)/\true=(aO t i).snd
def PR:=t.aw.getD i.b.toNat 0==0
def BM:=PR t i=true
def Mr:=(t.id=(aO t i).fst.id/\t.fn=(aO t i).fst.fn/\i.n=(aO t i).fst.pc/\Ws t i)/\true=(aO t i).snd
def Da:=PR t i=false
variable (x1:Nat)
def zL:=d9 ((dA dI (AV.arr 8 λi=>d9 (t.aw.getD i 0))).getD x1 0)
def Gl:=AV.arr 8 λi=>zL t i
def Ow:=∀ (e:Nat),zL t e=sw t i e
def Nu:=LS (a8 (dR dI (a8 t.ic))) (a8 (aO t i).fst.ic)
end
theorem agm (h:dU t) (f:zV i) (k:t.pc<1000000/\0<=t.pc):KN 205 [vT t,vI i] (.av [vT (aO t i).1, .bool (aO t i).2]):=by
 refine Kn (vL2 87 λ_=>none) func205 (aM j6 (pZ t)/\Z (i.op==1) (af i.a 8/\(t.id=(aO t i).fst.id/\t.fn=(aO t i).fst.fn/\re t i/\(∀ (e:Nat),(if e=i.a.toNat then aq (d9 i.n)else d9 (t.aw.getD e 0))=sw t i e)/\sH t i)/\true=(aO t i).snd) (Z (i.op==2) (af i.b 8/\af i.a 8/\(t.id=(aO t i).fst.id/\t.fn=(aO t i).fst.fn/\re t i/\(∀ (e:Nat),(if e=i.a.toNat then aq (XD t i)else d9 (t.aw.getD e 0))=sw t i e)/\sH t i)/\true=(aO t i).snd) (Z (i.op==3) (af i.b 8/\af i.c 8/\KN 180 [d9 i.fn,XD t i,d9 (t.aw.getD i.c.toNat (0:Int))] (AV.av [Vb t i,d9 (Kh t i)])/\Z (BV t i) (af i.a 8/\(t.id=(aO t i).fst.id/\t.fn=(aO t i).fst.fn/\re t i/\(∀ (e:Nat),(if e=i.a.toNat then aq (aq (Vb t i))else d9 (t.aw.getD e 0))=sw t i e)/\sH t i)/\true=(aO t i).snd) (qgn t i)) (Z (i.op==5) (af i.b 8/\(BM t i->qgn t i)/\(Da t i->Mr t i)) (Z (i.op==4) (Mr t i) (Z (i.op==6) (af i.b 8/\(BM t i->KN 202 [AV.mc zk (ak t),d9 (3:Int),d9 (26:Int)] (AV.mc zk (AV.agg [d9 t.id,d9 t.fn,d9 t.pc,Gl t,d9 t.io,d9 t.i7,d9 t.gH,d9 (3:Int),d9 (26:Int),a8 (dR dI (a8 t.ic))]))/\(t.id=(aO t i).fst.id/\t.fn=(aO t i).fst.fn/\t.pc=(aO t i).fst.pc/\Ow t i/\t.io=(aO t i).fst.io/\t.i7=(aO t i).fst.i7/\t.gH=(aO t i).fst.gH/\3=(aO t i).fst.ip/\26=(aO t i).fst.i9/\Nu t i)/\false=(aO t i).snd)/\(Da t i->qgn t i)) (Z (i.op==7) (KN 202 [AV.mc zk (ak t),d9 (2:Int),d9 (0:Int)] (AV.mc zk (AV.agg [d9 t.id,d9 t.fn,d9 t.pc,Gl t,d9 t.io,d9 t.i7,d9 t.gH,d9 (2:Int),d9 (0:Int),a8 (dR dI (a8 t.ic))]))/\(t.id=(aO t i).fst.id/\t.fn=(aO t i).fst.fn/\t.pc=(aO t i).fst.pc/\Ow t i/\t.io=(aO t i).fst.io/\t.i7=(aO t i).fst.i7/\t.gH=(aO t i).fst.gH/\2=(aO t i).fst.ip/\0=(aO t i).fst.i9/\Nu t i)/\false=(aO t i).snd) (qgn t i)))))))) ?_;try delta Z pZ re sw sH XD qgm Vb Kh BV Ws qgn PR BM Mr Da zL Gl Ow Nu
 simp only[SZ];simp only[tJ h.aw];have j:=h.aw;refine⟨f9, ?_⟩;repeat' (first |apply And.intro |intro _)
 all_goals first
  | ((with_reducible show mp _ _ 180 _ _);exact sW _ _ _)
  | ((with_reducible show mp _ _ 202 _ _);exact pI t _ _)
  |omega
  | (have :=f.a (by simp only[*];rfl);omega)
  | (have :=f.b (by simp only[*];rfl);omega)
  | (have :=f.c (by simp only[*];rfl);omega)
  | (simp only[aO,dy,cT,reduceIte,Int.reduceEq, *];done)
  | (simp only[aO,dy,cT,reduceIte,Int.reduceEq, *];exact zhd _ _ _ j (f.a (by simp only[*];rfl)) _)
theorem zl0 {t:i5} {i:aK} (j:¬ i.op=1) (h2:¬ i.op=2) (h:¬ i.op=3) (f:¬ i.op=4) (e:¬ i.op=5) (k:i.op≠7) (m:i.op≠6∨t.aw.getD i.b.toNat 0≠0):aO t i=({t with pc:=t.pc+1},true):=by
 unfold aO dy;rw[x8 j,x8 h2,x8 h,x8 e,x8 f];split;grind;rfl
section
variable (t:i5) (i:aK)
def K9:=t.id=(aO t i).fst.id/\t.fn=(aO t i).fst.fn/\i.n=(aO t i).fst.pc/\Ws t i
def FX:=t.aw.getD i.b.toNat 0 !=0
def Je:=t.id=(aO t i).fst.id/\t.fn=(aO t i).fst.fn/\re t i/\Ws t i
end
theorem ak9 (x:dU t) (f:zV i) (y:t.pc<1000000/\0<=t.pc) (h:i.op≠6∨dy t i.b≠0) (u:i.op≠7) (k:i.op=3 ->(app i.fn (dy t i.b) (dy t i.c)).2=0):KN 155 [vT t,vI i] (vT (aO t i).1):=by
 refine Kn (vL2 72 λ_=>none) func155 (aM j6 (pZ t)/\Z (i.op==1) (af i.a 8/\t.id=(aO t i).fst.id/\t.fn=(aO t i).fst.fn/\re t i/\(∀ (e:Nat),(if e=i.a.toNat then aq (d9 i.n)else d9 (t.aw.getD e 0))=sw t i e)/\sH t i) (Z (i.op==2) (af i.b 8/\af i.a 8/\t.id=(aO t i).fst.id/\t.fn=(aO t i).fst.fn/\re t i/\(∀ (e:Nat),(if e=i.a.toNat then aq (XD t i)else d9 (t.aw.getD e 0))=sw t i e)/\sH t i) (Z (i.op==3) (af i.b 8/\af i.c 8/\KN 150 [d9 i.fn,XD t i,d9 (t.aw.getD i.c.toNat (0:Int))] (AV.av [Vb t i,d9 (qgm t i).snd])/\af i.a 8/\t.id=(aO t i).fst.id/\t.fn=(aO t i).fst.fn/\re t i/\(∀ (e:Nat),(if e=i.a.toNat then aq (aq (Vb t i))else d9 (t.aw.getD e 0))=sw t i e)/\sH t i) (Z (i.op==4) (K9 t i) (Z (i.op==5) (af i.b 8/\Z (FX t i) (K9 t i) (Je t i)) (Je t i)))))) ?_;try delta Z pZ re sw sH XD qgm Vb Ws K9 FX Je
 simp only[SZ];have m:=x.aw;unfold dy at k h;refine⟨f9, ?_⟩;repeat' (first |apply And.intro |intro _)
 all_goals first
  | (rw[zl0 bv bv bv bv bv u h];done)
  | (rw[zl0 bv bv bv bv bv u h];rfl)
  | ((with_reducible show mp _ _ 150 _ _);exact G9 _ _ _)
  |omega
  | (have :=f.a (by simp[*];rfl);omega)
  | (have :=f.b (by simp[*];rfl);omega)
  | (have :=f.c (by simp only[*];rfl);omega)
  | (simp only[aO,dy,cT,reduceIte,Int.reduceEq, *];done)
  | (simp only[aO,dy,cT,reduceIte,Int.reduceEq, *];exact zhd _ _ _ m (f.a (by simp only[*];rfl)) _)
  | (have j:=k bv;simp only[aO,dy,cT,reduceIte,Int.reduceEq, *];done)
  | (have j:=k bv;simp only[aO,dy,cT,reduceIte,Int.reduceEq, *];exact zhd _ _ _ m (f.a (by simp only[*];rfl)) _)
def aam:FuncId ->List AV ->Option AV
 |84,[.int _ n]=>some (.bool (decide (0<=br n)))
 |213,[.int _ n]=>some (d9 (max (br n) 0))
 |157,[.mc _ t]=>some (.av [d9 (eU (dT t)), .bool (cA (dT t))])
 |f,l=>spL f l
noncomputable def vR0 (n:Nat) (inv:Nat ->Option lm):bm:={C:=jE n,CC:=mp prog GG,b9:=λ_ _=>aam,inv:=inv}
def zpc (n:Int) (k:Nat):Option lm:=match Nat.beq k 2 with
 |true=>some {ι:=Nat×Int,S:=λi=>⟨[(0,d9 i.2),(3,d9 i.1)],[]⟩,μ:=λi=>5 - i.1,ok:=λi=>i.1<=5/\i.2<=9223372036854775807/\((i.1=0/\i.2=n)∨(0<=i.2/\br n=pu i.2 (5 - i.1)))}
 |false=>none
def zpd (n:Int) (k:Nat):Option lm:=match Nat.beq k 4 with
 |true=>some {ι:=Nat×Int,S:=λi=>⟨[(0,d9 i.2),(3,d9 i.1)],[]⟩,μ:=λi=>5 - i.1,ok:=λi=>i.1<=5/\i.2<=9223372036854775807/\0<=i.2/\0<=br n/\br n=pu i.2 (5 - i.1)}
 |false=>none
theorem afb (h:n<0):br n= -1:=x9 h
theorem zj0 (h:0<=n):br n=pu n 5:=x8 (O)
theorem z9j {k:Nat}:pu n (k+1)=if n<8 then 5 - ((k:Int)+1)else if 7<=n.tmod 8 then -1 else pu (n.tdiv 8 - 1) k:=rfl
theorem zfh {a:Nat} {b:Int} (i:a<5) (e:0<=b) (f:(a=0/\b=n)∨(0<=b/\br n=pu b (5 - a))):∃ k,5 - a=k+1/\br n=pu b (k+1):=by
 refine⟨5 - a - 1,O, ?_⟩;rcases f with⟨h,rfl⟩ | ⟨_,h⟩
 subst h;exact zj0 e;rw[h];congr 1;omega
section
variable (n:Int) (x1:Nat×Int)
def qn9:=x1.fst<=5/\x1.snd<=9223372036854775807/\(x1.fst=0/\x1.snd=n∨0<=x1.snd/\br n=pu x1.snd (pz x1))
def V7:=decide (0<=br n)
def qna:=false=V7 n
variable (x0:Nat×Int)
def Jq:=decide (x0.snd<0)
def Mb:=decide (↑x0.fst<=(4:Int))
end
theorem zte (n:Int) (f:n<=9223372036854775807):KN 84 [d9 n] (.bool (decide (0<=br n))):=by
 refine Kn (vR0 18 (zpc n)) func84 ((∃ i,qn9 n i/\n=i.snd/\(0:Int)=↑i.fst)/\∀ i:Nat×Int,qn9 n i->Z (Mb i) (Z (Jq i) (qna n) (Z (UR i) (true=V7 n) ((8:Int)≠(0:Int)/\aM j6 (i.snd.tmod (8:Int))/\Z (TN i) (qna n) ((8:Int)≠(0:Int)/\aM j6 (i.snd.tdiv (8:Int))/\aM j6 (uK i)/\aM j6 (tL i)/\(∃ j,qn9 n j/\pz j<pz i/\uK i=j.snd/\tL i=↑j.fst))))) (qna n)) ?_;try delta Z pz qn9 V7 qna Jq UR TN uK tL Mb
 simp only[SZ];refine⟨⟨(0,n),⟨ap,f, .inl ⟨rfl,rfl⟩⟩,rfl,rfl⟩,λi hi=>⟨λhle=>⟨λhneg=>?_,λhpos=>⟨λh8=>?_,λh8=>⟨by omega,by rw[tr (by omega)];exact za (by omega) (by omega),λh7=>?_,λh7=>⟨by omega,by rw[tq (by omega)];exact za (by omega) (by omega),by rw[tq (by omega)];exact za (by omega) (by omega),za (by omega) (by omega),(i.1+1,i.2.tdiv 8 - 1),⟨by show i.1+1<=5;omega, ?_, .inr ⟨?_, ?_⟩⟩,by show 5 - (i.1+1)<5 - i.1;omega,rfl,rfl⟩⟩⟩⟩,λhgt=>?_⟩⟩;all_goals have⟨a1,m,a3⟩:=hi
 rcases a3 with⟨_,rfl⟩ | ⟨h,_⟩
 rw[afb hneg];rfl;omega;have⟨k,hk,e⟩:=zfh (n:=n) (show i.1<5 by omega) (by omega) a3;rw[e,z9j,x9 h8];symm;rw[xd];omega;have⟨k,hk,e⟩:=zfh (n:=n) (show i.1<5 by omega) (by omega) a3;rw[e,z9j,x8 h8,x9 h7];rfl;show i.2.tdiv 8 - 1<=_;rw[tq (by omega)];omega;show 0<=i.2.tdiv 8 - 1;rw[tq (by omega)];omega;have⟨k,hk,e⟩:=zfh (n:=n) (show i.1<5 by omega) (by omega) a3;rw[e,z9j,x8 h8,x8 h7,show 5 - (i.1+1)=k from by omega];rcases a3 with⟨h,rfl⟩ | ⟨_,h⟩
 omega;rw[h,show 5 - i.1=0 from by omega];rfl
section
variable (n:Int)
def Qq:=!V7 n
variable (x1:Nat×Int)
def qnb:=x1.fst<=5/\x1.snd<=9223372036854775807/\0<=x1.snd/\0<=br n/\br n=pu x1.snd (pz x1)
variable (x0:Nat×Int)
def L0:=decide (8<=x0.snd)
end
theorem z160 (n:Int) (e:n<=9223372036854775807):KN 213 [d9 n] (d9 (max (br n) 0)):=by
 refine Kn (vR0 15 (zpd n)) func213 (KN 84 [d9 n] (AV.bool (V7 n))/\Z (Qq n) (0=max (br n) 0) ((∃ i,qnb n i/\n=i.snd/\(0:Int)=↑i.fst)/\∀ i:Nat×Int,qnb n i->Z (L0 i) ((8:Int)≠(0:Int)/\aM j6 (i.snd.tdiv (8:Int))/\aM j6 (uK i)/\aM j6 (tL i)/\(∃ j,qnb n j/\pz j<pz i/\uK i=j.snd/\tL i=↑j.fst)) (↑i.fst=max (br n) 0))) ?_;try delta Z V7 Qq pz qnb uK tL L0
 simp only[SZ];refine⟨zte n e,λh=>O,λh0=>⟨⟨(0,n),⟨ap,e,(tO h0).1,h0,zj0 (tO h0).1⟩,rfl,rfl⟩,λi hi=>⟨λh8=>⟨O,by rw[tq O];exact f9,by rw[tq O];exact f9,f9,(i.1+1,i.2.tdiv 8 - 1), ?_, ?_,rfl,rfl⟩,λh8=>?_⟩⟩⟩;all_goals have⟨a1,m,a3,f,a5⟩:=hi
 have h4:i.1<5:=by
  rcases kb i.1 5 with h |h;exact h;rw[show 5 - i.1=0 from O]at a5;have :br n= -1:=a5;omega
 obtain⟨k,hk⟩:∃ k,5 - i.1=k+1:=⟨5 - i.1 - 1,O⟩;rw[hk,z9j,x8 O]at a5;split at a5;omega;refine⟨by show i.1+1<=5;omega, ?_, ?_,h0, ?_⟩;show i.2.tdiv 8 - 1<=_;rw[tq O];omega;show 0<=i.2.tdiv 8 - 1;rw[tq O];omega;rw[a5];show _=pu (i.2.tdiv 8 - 1) (5 - (i.1+1));rw[show 5 - (i.1+1)=k from O];have h4:i.1<5:=by
  rcases kb i.1 5 with h |h;exact h;rw[show 5 - i.1=0 from O]at a5;have :br n= -1:=a5;omega
 omega;rcases kb i.1 5 with h |h;obtain⟨k,hk⟩:∃ k,5 - i.1=k+1:=⟨5 - i.1 - 1,O⟩;rw[hk,z9j,x9 O]at a5;omega;rw[show 5 - i.1=0 from O]at a5;have :br n= -1:=a5;omega
section
variable (t:i5)
def qgo:=decide (0<=br t.id)
def qgp:=!qgo t
def qgq:=(!qgp t)=true
def sO:=qgq t->qgq t
def Ap:=qgp t||max (br t.id) 0==4
def OL:=(!Ap t)=true
def qnc:=OL t->OL t
def atu:=Ap t||decide (t.i7<0)
def G2:=(!atu t)=true
def qnd:=G2 t->G2 t
def Qt:=atu t||decide (7<=t.i7)
end
theorem zpf (h:t.aw.length=8) (f:t.id<=9223372036854775807):KN 157 [vT t] (.av [d9 (eU t), .bool (cA t)]):=by
 refine Kn (vR0 31 λ_=>none) func157 (KN 84 [d9 t.id] (AV.bool (qgo t))/\sO t/\sO t/\(qgq t->KN 213 [d9 t.id] (d9 (max (br t.id) (0:Int))))/\sO t/\sO t/\qnc t/\qnc t/\qnc t/\qnd t/\qnd t/\qnd t/\Z (Qt t) (0=eU t/\false=cA t) (aM j6 (qgg t)/\aM j6 (qgh t)/\aM j6 (VK t)/\VK t=eU t/\true=cA t)) ?_;try delta Z qgo qgp qgq sO Ap OL qnc atu G2 qnd Qt qgg qgh VK
 simp only[SZ];refine⟨zte _ f,λ_=>z160 _ f,λh=>?_,λh=>?_⟩;have e:cA t=false:=by unfold cA;simp;omega
 unfold eU;rw[e];exact⟨rfl,rfl⟩;have e:cA t=true:=by unfold cA;simp;omega
 have :=tO (id:=t.id) O;unfold eU;rw[e];exact⟨f9,f9,f9,rfl,rfl⟩
structure jM (p:ai):Prop where
 sm:bI p
 ok:(zc p).1=0
theorem zhe {p:ai}:∀ k,k<=p.ef.length ->(rM p k).1=0 ->∀ i,p.ef.length - k<=i ->i<p.ef.length ->(z31 p (p.ef.getD i bL)).1=0
 |0,_,_,i,r,j=>O
 |k+1,s,h,i,r,j=>by
  simp only[rM]at h
  split at h
  rename_i f
  have m:(z31 p (p.ef.getD (p.ef.length - (k+1)) bL)).1≠0:=by simpa using f
  omega
  rename_i f
  by_cases e:i=p.ef.length - (k+1)
  grind
  exact zhe k O h i O j
theorem zl1 {p:ai} {f:dK}:∀ k,k<=f.code.length ->(lN p f k).1=0 ->∀ i,f.code.length - k<=i ->i<f.code.length ->jh p (f.code.getD i dL) f.code.length=0
 |0,_,_,i,s,m=>O
 |k+1,u,h,i,s,m=>by
  simp only[lN]at h
  split at h
  rename_i j
  have r:jh p (f.code.getD (f.code.length - (k+1)) dL) f.code.length≠0:=by simpa using j
  omega
  rename_i j
  by_cases e:i=f.code.length - (k+1)
  grind
  exact zl1 k O h i O m
theorem zl2 {p:ai}:∀ k,k<=p.ab.length ->mQ p k=0 ->∀ i,p.ab.length - k<=i ->i<p.ab.length ->(0<=(p.ab.getD i dQ).fn/\(p.ab.getD i dQ).fn<p.ef.length)/\bZ (p.ab.getD i dQ).arg=true
 |0,_,_,i,m,f=>O
 |k+1,s,h,i,m,f=>by
  simp only[mQ]at h
  split at h
  omega
  split at h
  omega
  rename_i r j
  by_cases e:i=p.ab.length - (k+1)
  subst e;exact⟨O,by simpa using j⟩
  exact zl2 k O h i O f
theorem zfi (h:(zc p).1=0):iR p=0/\(jd p).1=0/\iN p=0:=by grind[zc]
theorem jM.code (h:jM p) {f:Nat} (k:f<p.ef.length):(p.ef.getD f bL).code.length<=64/\∀ i,i<(p.ef.getD f bL).code.length ->jh p ((p.ef.getD f bL).code.getD i dL) (p.ef.getD f bL).code.length=0:=by
 have e:=zhe p.ef.length (xm _) (zfi h.ok).2.1 f O k;unfold z31 at e;split at e;omega;rename_i hl;exact⟨O,λi j=>zl1 _ (xm _) e i O j⟩
theorem jM.ab (h:jM p):(1<=p.ab.length/\p.ab.length<=8)/\∀ i,i<p.ab.length ->(0<=(p.ab.getD i dQ).fn/\(p.ab.getD i dQ).fn<p.ef.length)/\bZ (p.ab.getD i dQ).arg=true:=by
 have e:=(zfi h.ok).2.2;unfold iN at e;split at e;omega;exact⟨O,λi f=>zl2 _ (xm _) e i O f⟩
theorem jM.ac9 (h:jM p):(p.eA.length<=8/\p.aP.length<=4/\p.kC.length<=4/\p.ef.length<=8)/\∀ v∈p.eA,bZ v.init=true:=by
 have e:=(zfi h.ok).1;grind[iR]
theorem oh:bZ n=true↔ -2147483648<=n/\n<=2147483647:=by grind[bZ]
theorem oa:wr n=n↔ -2147483648<=n/\n<=2147483647:=by unfold wr;omega
theorem vO {i:aK} {n:Int} (h:jh p i n=0):dN i=0/\ky p i=false/\((i.op=4∨i.op=5) ->0<=i.n/\i.n<=n):=by grind[jh]
theorem zcv {i:aK} (h:dN i=0):zV i:=by
 have f:∀ k,k<3 ->iB i k=false:=by
  grind[dN]
 have e:∀ k,k<3 ->cZ i.op k=true ->0<=cC i k/\cC i k<8:=by
  grind[iB]
 exact⟨e 0 O,e 1 O,e 2 O⟩
theorem zpg {f:Int} (h:bn f≠[]):1<=f/\f<=10:=by
 unfold bn at h;split at h;exact absurd rfl h;omega
theorem zj1 {i:aK} (h:dN i=0):(cZ i.op 6=true ->0<=i.ord/\i.ord<=2)/\(cZ i.op 5=true ->1<=i.fn/\i.fn<=10)/\(i.op=1 -> -2147483648<=i.n/\i.n<=2147483647)/\∀ k,k<7 ->cZ i.op k=false ->cC i k=0:=by
 unfold dN at h;split at h;omega;split at h;omega;rename_i f;split at h;omega;split at h;omega;rename_i q1;split at h;omega;rename_i e;split at h;omega;rename_i q3;refine⟨λhu=>?_,λhu=>?_,λho=>?_,λk j hu=>?_⟩;grind;rw[hu,wc,xo]at e;exact zpg e;grind;have hb:dq i k=false:=by
  grind
 unfold dq at hb;grind
theorem anp (q:Bool): -2147483648<=jz q/\jz q<=2147483647:=by cases q<;>decide
theorem aoc (g:Nat ->Nat ->Nat) (a b:Int): -2147483648<=TB g a b/\TB g a b<=2147483647:=Xk _
theorem aof: -2147483648<=(0:Int)/\(0:Int)<=2147483647:=am
theorem aoa (f a b:Int): -2147483648<=(app f a b).1/\(app f a b).1<=2147483647:=by
 unfold app;repeat' split
 all_goals with_reducible first
  |exact anp _
  |exact aoc _ _ _
  |exact Xk _
  |exact aof
theorem zwc {f a b:Int} (h:1<=f/\f<=10):(app f a b).2=0:=by
 unfold app;repeat' split
 all_goals first |rfl |omega
def oc:i5:=if bS t i≠0 then cT t 3 (bS t i)else if t.io=b then cT t 4 0 else t
def z4q (p:ai) (b:Int):Nat ->i5 ->i5
 |0,t=>if dv p t=false then cT t 2 0 else if cM (i6 p t).op then oc b t (i6 p t)else cT t 3 29
 |k+1,t=>if dv p t=false then cT t 2 0 else if cM (i6 p t).op then oc b t (i6 p t)else
  if(aO t (i6 p t)).2 then z4q p b k (aO t (i6 p t)).1 else(aO t (i6 p t)).1
def b7 (p:ai) (b:Int) (t:i5):i5:=z4q p b 256 t
def aat:FuncId ->List AV ->Option AV
 |139,[.mc _ p, .int _ b, .mc _ t] |86,[.mc _ p, .int _ b, .mc _ t]=>some (vT (b7 (dP p) b (dT t)))
 |103,[.mc _ p, .mc _ t]=>some (wx ((dP p).ef.getD (dT t).fn.toNat bL).code)
 |153,[.mc _ t, .mc _ i]=>some (d9 (bS (dT t) (dX i)))
 |154,[.mc _ t, .int _ e]=>some (vT (cT (dT t) 3 e))
 |212,[.seq _ n f, .int _ v]=>some (.bool (aQ (zw n f) v))
 |f,l=>aam f l
noncomputable def Wh (n:Nat) (inv:Nat ->Option lm):bm:={C:=jE n,CC:=mp prog GG,b9:=λ_ _=>aat,inv:=inv}
structure jJ (p:ai) (t:i5):Prop where
 ok:dU t
 fn:0<=t.fn/\t.fn<p.ef.length
 pc:0<=t.pc/\t.pc<=((p.ef.getD t.fn.toNat bL).code.length:Int)
def zpj (p:ai) (b:Int) (t:i5) (k:Nat):Option lm:=match Nat.beq k 4 with
 |true=>some {ι:=Nat×i5,S:=λi=>⟨[(1,d9 b),(3, .ptr 3 []),(5, .ptr 5 []),(6, .ptr 6 []),(7,d9 i.1)],[(3, .cell 27 z7 (ah p)),(5, .cell 51 zk (ak i.2)),(6, .cell 51 zk (ak ao))]⟩,μ:=λi=>256 - i.1,ok:=λi=>i.1<=256/\jJ p i.2/\b7 p b t=z4q p b (256 - i.1) i.2}
 |false=>none
def zl3 (p:ai) (b:Int) (t:i5) (k:Nat):Option lm:=match Nat.beq k 4 with
 |true=>some {ι:=Nat×i5,S:=λi=>⟨[(1,d9 b),(3, .ptr 3 []),(5, .ptr 5 []),(6, .ptr 6 []),(7,d9 i.1)],[(3, .cell 27 z7 (ah p)),(5, .cell 51 zk (ak i.2)),(6, .cell 51 zk (ak ao))]⟩,μ:=λi=>256 - i.1,ok:=λi=>i.1<=256/\jJ p i.2/\i.2.i9=0/\b7 p b t=z4q p b (256 - i.1) i.2}
 |false=>none
end
end Go.Proofs.S25
