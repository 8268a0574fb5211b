import Derived.Test.YtcfagpelpjdmaaaGreatDoorXo
namespace Go.Proofs.S25
open Go Go.AV
open Go.IntKind renaming i64 -> j6
open Go.AV.Shape (leaf)
noncomputable section
variable (b:Int) {n:Int} (t:aF) (i:aP) {p:aj}
structure eL (t:aF):Prop where
 az:t.az.length=8
 id:t.id<=9223372036854775807
 pc:t.pc<9223372036854775807
 held:t.held.length<=1000
def c7:Int:=
 if t.phase≠0 then 0
 else if i.op=16∨i.op=18 then(if aW t.held (if i.op=18 then i.n else i.obj)then 0 else 27)
 else if i.op=21 then(if cV t then 0 else 28)
 else 0
def tO (p:aj) (t:aF):Bool:=!(decide (bC t.id<0) || decide (t.fn<0) || decide ((p.al.length:Int)<=t.fn) || decide (t.pc<0) || decide (((p.al.getD t.fn.toNat bu).code.length:Int)<t.pc))
def zQ:Bool:=t.az.all λr=>wr r==r
def se:Bool:=!(decide (t.steps<0) || decide (b<t.steps) || decide (t.kids<0) || decide (7<t.kids) || (bC t.id==4&&t.kids !=0) || !mh t.held)
def Cm (p:aj) (t:aF):Bool:=t.held.all λm=>!(decide (m<0) || decide ((p.aS.length:Int)<=m))
def xH (p:aj) (t:aF):Bool:=t.phase==0 || ((t.phase==1 || t.phase==2)&&ec p t&&(aI p t).op==18&&!aW t.held (aI p t).n)
def gP (p:aj) (b:Int) (t:aF):Bool:=tO p t&&(zQ t&&(se b t&&(Cm p t&&xH p t)))
def spO:FuncId ->List AV ->Option AV
 |249,[.mc _ t, .mc _ i]=>some (co (c7 (dT t) (eQ i)))
 |247,[.mc _ p, .int _ b, .mc _ t]=>some (.bool (gP (dP p) b (dT t)))
 |f,l=>spT f l
def vO2 (n:Nat) (inv:Nat ->Option Inv):bj:={C:=jY n,CC:=aL Tryz.prog GG,bb:=λ_ _=>spO,inv:=inv}
def zpb (p:aj) (b:Int) (t:aF) (k:Nat):Option Inv:=match Nat.beq k 5 with
 |true=>iw 8 (λi=>⟨[(1,co b),(3, .ptr 3 []),(5, .ptr 5 []),(7,co (bC t.id)),(51, .mc (.arr 8 .leaf) (my t.az)),(52,co i)],[(3, .cell 27 z7 (ak p)),(5, .cell 86 zk (aq t))]⟩) λi=>∀ j,j<i ->wr (t.az.getD j 0)=t.az.getD j 0
 |false=>match Nat.beq k 13 with
  |true=>iw t.held.length (λi=>⟨[(3, .ptr 3 []),(5, .ptr 5 []),(95,ab t.held),(96,co t.held.length),(97,co i)],[(3, .cell 27 z7 (ak p)),(5, .cell 86 zk (aq t))]⟩) λi=>∀ j,j<i ->0<=t.held.getD j 0/\t.held.getD j 0<(p.aS.length:Int)
  |false=>none
section
variable (t:aF)
def qw:List Int:=zw t.held.length λi=>co (t.held.getD i 0)
variable (i:aP)
def YW:=aW (qw t) i.n
def SW:=!YW t i
def ZX:=aW (qw t) i.obj
def MV:=!ZX t i
end
theorem abt (ht:eL t):KN 249 [vT t,vI i] (co (c7 t i)):=by
 refine Kn (vO2 35 λ_=>none) Tryz.func249 (((t.phase !=0)=true->0=c7 t i)/\((t.phase !=0)=false->((i.op==18)=true->KN 245 [ab t.held,co i.n] (AV.bool (YW t i))/\(SW t i=true->27=c7 t i)/\(SW t i=false->0=c7 t i))/\((i.op==18)=false->((i.op==16)=true->KN 245 [ab t.held,co i.obj] (AV.bool (ZX t i))/\(MV t i=true->27=c7 t i)/\(MV t i=false->0=c7 t i))/\((i.op==16)=false->((i.op==21)=true->KN 191 [AV.mc zk (aq t)] (AV.ax [co (fZ (dT (aq t))),AV.bool (cV (dT (aq t)))])/\((!cV (dT (aq t)))=true->28=c7 t i)/\((!cV (dT (aq t)))=false->0=c7 t i))/\((i.op==21)=false->0=c7 t i))))) ?_;try delta qw YW SW ZX MV
 simp only[SZ];have e:dT (aq t)=t:=jJ t ht.az;have hh:=ht.held;simp only[e,oR];refine⟨λh=>?_,λh0=>⟨λh18=>⟨zp5 _ _ ac,λh=>?_,λh=>?_⟩,λn18=>⟨λh16=>⟨zp5 _ _ ac,λh=>?_,λh=>?_⟩,λn16=>⟨λh21=>⟨?_,λh=>?_,λh=>?_⟩,λn21=>?_⟩⟩⟩⟩
 . grind[c7]
 . grind[c7]
 . grind[c7]
 . unfold c7;rw[x8 (by simp[h0]),x9 (.inl h16),x8 n18,h];rfl
 . unfold c7;rw[x8 (by simp[h0]),x9 (.inl h16),x8 n18,h];rfl
 . exact zwb t ht.az ht.id
 . unfold c7;rw[x8 (by simp[h0]),x8 ac,x9 h21,h];rfl
 . unfold c7;rw[x8 (by simp[h0]),x8 ac,x9 h21,h];rfl
 . grind[c7]
theorem fm1 {b:Int} {t:aF} (h:tO p t=false):false=gP p b t:=by unfold gP;rw[h];rfl
theorem fm2 {b:Int} {t:aF} (h:zQ t=false):false=gP p b t:=by unfold gP;rw[h];simp
theorem fm3 {b:Int} {t:aF} (h:se b t=false):false=gP p b t:=by unfold gP;rw[h];simp
theorem fm4 {b:Int} {t:aF} (h:Cm p t=false):false=gP p b t:=by unfold gP;rw[h];simp
theorem fm5 {b:Int} {t:aF} (h:tO p t=true) (h2:zQ t=true) (f:se b t=true) (e:Cm p t=true):gP p b t=xH p t:=by grind[gP]
section
variable (t:aF)
def QH:=qgf t||decide (t.fn<0)
def qms:=(!QH t)=true
def Fl:=qms t->qms t
end
section
variable (p:aj) (t:aF)
def V5:=QH t||decide (↑p.al.length<=t.fn)
def Fp:=(!V5 p t)=true
def qmt:=Fp p t->Fp p t
def LD:=V5 p t||decide (t.pc<0)
def qgi:=(!LD p t)=true
def sC:=qgi p t->qgi p t
def EC:=LD p t||decide (↑(p.al.getD t.fn.toNat bu).code.length<t.pc)
variable (x1:Nat)
def qmu:=x1<=8/\∀ j:Nat,j<x1->wr (t.az.getD j 0)=t.az.getD j 0
def OA:=∀ (i:Nat),RR (co (t.az.getD i 0))
def K8:Int:=t.az.getD (↑x1:Int).toNat 0
def Jv:Int:=wr (K8 t x1)
def Mk:=Jv t x1 !=K8 t x1
variable (x0:Nat)
def X3:Nat:=8 - x0
def YB:=decide (↑x0<(8:Int))
def qmv:=decide (t.steps<0)
def qmw:=(!qmv t)=true
def vL:=qmw t->qmw t
end
section
variable (b:Int) (t:aF)
def qmx:=qmv t||decide (b<t.steps)
def qmy:=(!qmx b t)=true
def Bc:=qmy b t->qmy b t
def qmz:=qmx b t||decide (t.kids<0)
def qn0:=(!qmz b t)=true
def C8:=qn0 b t->qn0 b t
def qgj:=qmz b t||decide (7<t.kids)
def qgk:=!qgj b t
def we:=qgk b t=true
def tm:=we b t->we b t
def qn1:=bC t.id==4
def qn2:=(qgk b t&&qn1 t)=true
def Rx:=qn2 b t->qn2 b t
def Mc:=qgj b t||qn1 t&&t.kids !=0
def qn3:=(!Mc b t)=true
def qgl:=qn3 b t->qn3 b t
def Wq:=mh (qw t)
def NV:=Mc b t||!Wq t
end
section
variable (p:aj) (t:aF) (x2:Nat)
def qn4:=x2<=t.held.length/\∀ j:Nat,j<x2->0<=t.held.getD j 0/\t.held.getD j 0<↑p.aS.length
variable (x1:Nat)
def qn5:=decide (t.held.getD (↑x1:Int).toNat 0<0)
def RD:=(!qn5 t x1)=true
def nE:=RD t x1->RD t x1
def ju:=qn5 t x2||decide ((↑p.aS.length:Int)<=t.held.getD (↑x2:Int).toNat 0)
def Zt:=decide ((↑x1:Int)<(↑t.held.length:Int))
def Rr:=(!t.phase==1)=true
def qn6:=Rr t->Rr t
def Hk:=t.phase==1||t.phase==2
def R7:=Hk t=true
def E8:=Hk t&&ec (dP (ak p)) (dT (aq t))
def GZ:=E8 p t=true
def qn7:=GZ p t->GZ p t
def J1:=E8 p t&&(aI (dP (ak p)) (dT (aq t))).op==18
def qn8:=J1 p t=true
def EJ:=qn8 p t->qn8 p t
def Kk:=aW (qw t) (aI (dP (ak p)) (dT (aq t))).n
end
theorem ahu (p:aj) (b:Int) (t:aF) (hp:bG p) (ht:eL t):KN 247 [vP p, .int .i64 b,vT t] (.bool (gP p b t)):=by
 refine Kn (vO2 144 (zpb p b t)) Tryz.func247 (KN 212 [AV.int j6 t.id] (AV.int j6 (bC t.id))/\Fo t/\Fo t/\Fo t/\Fl t/\Fl t/\Fl t/\(qms t->↑p.al.length<=(9223372036854775807:Int))/\Fl t/\Fl t/\Fl t/\qmt p t/\qmt p t/\qmt p t/\sC p t/\sC p t/\sC p t/\sC p t/\sC p t/\(qgi p t->ai t.fn p.al.length)/\sC p t/\sC p t/\sC p t/\(qgi p t->↑(p.al.getD t.fn.toNat bu).code.length<=(9223372036854775807:Int))/\sC p t/\sC p t/\sC p t/\(EC p t=true->false=gP p b t)/\(EC p t=false->(∃ i,qmu t i/\(RR b/\RR (bC t.id)/\OA t/\(0:Int)=↑i)/\LT (ak p)/\LT (aq t))/\∀ i:Nat,qmu t i->(YB i=true->ai (↑i) 8/\KN 204 [AV.int j6 (K8 t i)] (AV.int j6 (Jv t i))/\(Mk t i=true->false=gP p b t)/\(Mk t i=false->qa i/\(∃ j,qmu t j/\X3 j<X3 i/\(RR b/\RR (bC t.id)/\OA t/\qb i j)/\LT (ak p)/\LT (aq t))))/\(YB i=false->vL t/\vL t/\vL t/\vL t/\Bc b t/\Bc b t/\Bc b t/\C8 b t/\C8 b t/\C8 b t/\tm b t/\tm b t/\Rx b t/\Rx b t/\tm b t/\(we b t->qn1 t=true->qn2 b t)/\tm b t/\qgl b t/\qgl b t/\(qn3 b t->KN 267 [ab t.held] (AV.bool (Wq t)))/\qgl b t/\qgl b t/\(NV b t=true->false=gP p b t)/\(NV b t=false->↑t.held.length<=(9223372036854775807:Int)/\(∃ i,qn4 p t i/\(LT (ab t.held)/\RR (↑t.held.length:Int)/\0=(↑i:Int))/\LT (ak p)/\LT (aq t))/\∀ (i:Nat),qn4 p t i->(Zt t i=true->ai (↑i:Int) t.held.length/\nE t i/\nE t i/\(RD t i->(↑p.aS.length:Int)<=(9223372036854775807:Int))/\nE t i/\nE t i/\nE t i/\(ju p t i=true->false=gP p b t)/\(ju p t i=false->qa i/\∃ j,qn4 p t j/\t.held.length - j<t.held.length - i/\(LT (ab t.held)/\RR (↑t.held.length:Int)/\qb i j)/\LT (ak p)/\LT (aq t)))/\(Zt t i=false->((t.phase==(0:Int))=true->true=gP p b t)/\((t.phase==(0:Int))=false->KN 174 [AV.mc z7 (ak p),AV.mc zk (aq t)] (AV.ax [AV.mc zy (encI (aI (dP (ak p)) (dT (aq t)))),AV.bool (ec (dP (ak p)) (dT (aq t)))])/\qn6 t/\qn6 t/\qn6 t/\(R7 t->R7 t)/\qn7 p t/\qn7 p t/\qn7 p t/\EJ p t/\EJ p t/\EJ p t/\EJ p t/\(qn8 p t->KN 245 [ab t.held,AV.int j6 (aI (dP (ak p)) (dT (aq t))).n] (AV.bool (Kk p t)))/\EJ p t/\EJ p t/\(J1 p t&&!Kk p t)=gP p b t)))))) ?_;try delta qgf qmp Fo QH qms Fl V5 Fp qmt LD qgi sC EC qmu OA K8 Jv Mk q9 qa X3 qb YB qmv qmw vL qmx qmy Bc qmz qn0 C8 qgj qgk we tm qn1 qn2 Rx Mc qn3 qgl qw Wq NV qn4 qn5 RD nE ju Zt Rr qn6 Hk R7 E8 GZ qn7 J1 qn8 EJ Kk
 simp only[SZ];have e:dT (aq t)=t:=jJ t ht.az;have hh:=ht.held;have hr:=ht.az;have c1:=hp.al;have c2:=hp.code t.fn.toNat;have c3:=hp.aS;simp only[e,oR];refine⟨Sx _ ht.id,λ_=>ac,λh=>ac,λh=>ac,λh=>fm1 ?_,λhA=>?_⟩
 . unfold tO;simp only[yc,xk,xd];exact h
 have gA:tO p t=true:=by unfold tO;simp only[xj,xg,xh];exact hA
 refine⟨⟨0,⟨ac,λj hj=>ac⟩,rfl⟩,λi hi=>⟨λhlt=>⟨ac,ua _,λh=>fm2 ?_,λh=>⟨dl,i+1,⟨ac,λj hj=>?_⟩,ac,ac⟩⟩,λhge=>?_⟩⟩
 . cases hv:zQ t with
   |false=>rfl
   |true=>
    have :=(oY _ _ 0).1 hv i ac;exact absurd (by simpa using this) h
 . by_cases e2:j=i
   . subst e2;exact h
   . exact hi.2 j ac
 have gR:zQ t=true:=(oY _ _ 0).2 λj hj=>by simpa using hi.2 j ac
 refine⟨λ_=>aal _ ac,λh=>fm3 ?_,λhS=>?_⟩
 . unfold se;simp only[yc,xk,xd,xa,xo,ja,xj];exact h
 have gS:se b t=true:=by
  unfold se;simp only[xj,xg,xh,y5,xt,jw,yc];exact hS
 refine⟨ac,⟨0,⟨ac,λj hj=>ac⟩,rfl⟩,λi hi=>⟨λhlt=>⟨hlt,λ_=>ac,λh=>fm4 ?_,λh=>⟨dl,i+1,⟨ac,λj hj=>?_⟩,ac,ac⟩⟩,λhge=>?_⟩⟩
 . cases hv:Cm p t with
   |false=>rfl
   |true=>
    have :=(oY _ _ 0).1 hv i hlt;simp only[xj,xg,xh]at this;omega
 . by_cases e2:j=i
   . subst e2;omega
   . exact hi.2 j ac
 have gH:Cm p t=true:=(oY _ _ 0).2 λj hj=>by
  have :=hi.2 j ac;grind
 rw[fm5 gA gR gS gH];refine⟨λh=>?_,λh=>⟨kAt p t ac ac hp,λ_=>zp5 _ _ ac, ?_⟩⟩
 . unfold xH;rw[h];rfl
 . have :(t.phase==0)=false:=by simpa using h
   unfold xH;rw[this,gw]
def kG (l:List Int) (a:Int) (v:Int):List Int:=l.set a.toNat v
def ei (a:Int):Int:=t.az.getD a.toNat 0
def aR:aF×Bool:=
 if i.op=1 then({t with az:=kG t.az i.a i.n,pc:=t.pc+1},true)
 else if i.op=2 then({t with az:=kG t.az i.a (ei t i.b),pc:=t.pc+1},true)
 else if i.op=3 then(if(app i.fn (ei t i.b) (ei t i.c)).2=0 then {t with az:=kG t.az i.a (app i.fn (ei t i.b) (ei t i.c)).1,pc:=t.pc+1}else {t with pc:=t.pc+1},true)
 else if i.op=5 then({t with pc:=if ei t i.b=0 then t.pc+1 else i.n},true)
 else if i.op=4 then({t with pc:=i.n},true)
 else if i.op=6 then(if ei t i.b=0 then(dm t 3 26,false)else({t with pc:=t.pc+1},true))
 else if i.op=7 then(dm t 2 0,false)
 else({t with pc:=t.pc+1},true)
def spL:FuncId ->List AV ->Option AV
 |251,[.mc _ t, .mc _ i]=>some (.ax [vT (aR (dT t) (eQ i)).1, .bool (aR (dT t) (eQ i)).2])
 |219,[.mc _ t, .mc _ i]=>some (vT (aR (dT t) (eQ i)).1)
 |f,l=>spO f l
def vL2 (n:Nat) (inv:Nat ->Option Inv):bj:={C:=jY n,CC:=aL Tryz.prog GG,bb:=λ_ _=>spL,inv:=inv}
structure Rb (i:aP):Prop where
 a:dC i.op 0=true ->0<=i.a/\i.a<8
 b:dC i.op 1=true ->0<=i.b/\i.b<8
 c:dC i.op 2=true ->0<=i.c/\i.c<8
theorem zhd (l:List Int) (a v:Int) (h:l.length=8) (f:0<=a/\a<8) (j:Nat):(if j=a.toNat then co v else co (l.getD j 0))=co ((kG l a v).getD j 0):=by
 unfold kG;rw[x7 (l:=l.set _ _),j8];by_cases e:a.toNat=j
 . subst e;grind
 . rw[x8 (λh=>e h.symm),x8 e,x7]
section
variable (t:aF)
def uh:Int:=t.pc+1
variable (i:aP)
def vi:=uh t=(aR t i).fst.pc
variable (x2:Nat)
def uP:=co ((aR t i).fst.az.getD x2 0)
def vW:=t.steps=(aR t i).fst.steps/\t.kids=(aR t i).fst.kids/\t.phase=(aR t i).fst.phase/\t.status=(aR t i).fst.status/\t.fault=(aR t i).fst.fault/\LS (ab t.held) (ab (aR t i).fst.held)
def XE:=co (t.az.getD i.b.toNat 0)
def qgm:Int×Int:=app i.fn (t.az.getD i.b.toNat 0) (t.az.getD i.c.toNat 0)
def qal:=co (qgm t i).fst
def Ln:Int:=(qgm t i).snd
def Oj:=Ln t i==0
def YT:=(∀ (ar:Nat),co (t.az.getD ar 0)=uP t i ar)/\vW t i
def qgn:=(t.id=(aR t i).fst.id/\t.fn=(aR t i).fst.fn/\vi t i/\YT t i)/\true=(aR t i).snd
def Is:=t.az.getD i.b.toNat 0==0
def Pb:=Is t i=true
def TY:=(t.id=(aR t i).fst.id/\t.fn=(aR t i).fst.fn/\i.n=(aR t i).fst.pc/\YT t i)/\true=(aR t i).snd
def JN:=Is t i=false
variable (x1:Nat)
def HN:=co ((dA dI (AV.arr 8 λi=>co (t.az.getD i 0))).getD x1 0)
def Ii:=AV.arr 8 λi=>HN t i
def Tp:=∀ (ar:Nat),HN t ar=uP t i ar
def Ke:=LS (ab (dR dI (ab t.held))) (ab (aR t i).fst.held)
end
theorem ame (f:eL t) (e:Rb i) (j:t.pc<1000000/\0<=t.pc):KN 251 [vT t,vI i] (.ax [vT (aR t i).1, .bool (aR t i).2]):=by
 refine Kn (vL2 87 λ_=>none) Tryz.func251 (aU j6 (uh t)/\((i.op==1)=true->ai i.a 8/\(t.id=(aR t i).fst.id/\t.fn=(aR t i).fst.fn/\vi t i/\(∀ (ar:Nat),(if ar=i.a.toNat then av (co i.n)else co (t.az.getD ar 0))=uP t i ar)/\vW t i)/\true=(aR t i).snd)/\((i.op==1)=false->((i.op==2)=true->ai i.b 8/\ai i.a 8/\(t.id=(aR t i).fst.id/\t.fn=(aR t i).fst.fn/\vi t i/\(∀ (ar:Nat),(if ar=i.a.toNat then av (XE t i)else co (t.az.getD ar 0))=uP t i ar)/\vW t i)/\true=(aR t i).snd)/\((i.op==2)=false->((i.op==3)=true->ai i.b 8/\ai i.c 8/\KN 176 [co i.fn,XE t i,co (t.az.getD i.c.toNat (0:Int))] (AV.ax [qal t i,co (Ln t i)])/\(Oj t i=true->ai i.a 8/\(t.id=(aR t i).fst.id/\t.fn=(aR t i).fst.fn/\vi t i/\(∀ (ar:Nat),(if ar=i.a.toNat then av (av (qal t i))else co (t.az.getD ar 0))=uP t i ar)/\vW t i)/\true=(aR t i).snd)/\(Oj t i=false->qgn t i))/\((i.op==3)=false->((i.op==5)=true->ai i.b 8/\(Pb t i->qgn t i)/\(JN t i->TY t i))/\((i.op==5)=false->((i.op==4)=true->TY t i)/\((i.op==4)=false->((i.op==6)=true->ai i.b 8/\(Pb t i->KN 250 [AV.mc zk (aq t),co (3:Int),co (26:Int)] (AV.mc zk (AV.agg [co t.id,co t.fn,co t.pc,Ii t,co t.steps,co t.kids,co t.phase,co (3:Int),co (26:Int),ab (dR dI (ab t.held))]))/\(t.id=(aR t i).fst.id/\t.fn=(aR t i).fst.fn/\t.pc=(aR t i).fst.pc/\Tp t i/\t.steps=(aR t i).fst.steps/\t.kids=(aR t i).fst.kids/\t.phase=(aR t i).fst.phase/\3=(aR t i).fst.status/\26=(aR t i).fst.fault/\Ke t i)/\false=(aR t i).snd)/\(JN t i->qgn t i))/\((i.op==6)=false->((i.op==7)=true->KN 250 [AV.mc zk (aq t),co (2:Int),co (0:Int)] (AV.mc zk (AV.agg [co t.id,co t.fn,co t.pc,Ii t,co t.steps,co t.kids,co t.phase,co (2:Int),co (0:Int),ab (dR dI (ab t.held))]))/\(t.id=(aR t i).fst.id/\t.fn=(aR t i).fst.fn/\t.pc=(aR t i).fst.pc/\Tp t i/\t.steps=(aR t i).fst.steps/\t.kids=(aR t i).fst.kids/\t.phase=(aR t i).fst.phase/\2=(aR t i).fst.status/\0=(aR t i).fst.fault/\Ke t i)/\false=(aR t i).snd)/\((i.op==7)=false->qgn t i)))))))) ?_;try delta uh vi uP vW XE qgm qal Ln Oj YT qgn Is Pb TY JN HN Ii Tp Ke
 simp only[SZ];simp only[vQ f.az];have h:=f.az;refine⟨dl, ?_⟩;repeat' (first |apply And.intro |intro _)
 all_goals first
  | ((with_reducible show aL _ _ 176 _ _);exact wO _ _ _)
  | ((with_reducible show aL _ _ 250 _ _);exact tR t _ _)
  |omega
  | (have :=e.a (by simp only[*];rfl);omega)
  | (have :=e.b (by simp only[*];rfl);omega)
  | (have :=e.c (by simp only[*];rfl);omega)
  | (simp only[aR,ei,dm,reduceIte,Int.reduceEq, *];done)
  | (simp only[aR,ei,dm,reduceIte,Int.reduceEq, *];exact zhd _ _ _ h (e.a (by simp only[*];rfl)) _)
theorem zl0 {t:aF} {i:aP} (j:¬ i.op=1) (h2:¬ i.op=2) (h:¬ i.op=3) (f:¬ i.op=4) (e:¬ i.op=5) (k:i.op≠7) (m:i.op≠6∨t.az.getD i.b.toNat 0≠0):aR t i=({t with pc:=t.pc+1},true):=by
 unfold aR ei;rw[x8 j,x8 h2,x8 h,x8 e,x8 f];split
 . grind
 . rfl
section
variable (t:aF) (i:aP)
def QS:=t.id=(aR t i).fst.id/\t.fn=(aR t i).fst.fn/\i.n=(aR t i).fst.pc/\YT t i
def RA:=t.az.getD i.b.toNat 0 !=0
def Kq:=t.id=(aR t i).fst.id/\t.fn=(aR t i).fst.fn/\vi t i/\YT t i
end
theorem ak9 (o:eL t) (e:Rb i) (r:t.pc<1000000/\0<=t.pc) (f:i.op≠6∨ei t i.b≠0) (m:i.op≠7) (j:i.op=3 ->(app i.fn (ei t i.b) (ei t i.c)).2=0):KN 219 [vT t,vI i] (vT (aR t i).1):=by
 refine Kn (vL2 72 λ_=>none) Tryz.func219 (aU j6 (uh t)/\((i.op==1)=true->ai i.a 8/\t.id=(aR t i).fst.id/\t.fn=(aR t i).fst.fn/\vi t i/\(∀ (ar:Nat),(if ar=i.a.toNat then av (co i.n)else co (t.az.getD ar 0))=uP t i ar)/\vW t i)/\((i.op==1)=false->((i.op==2)=true->ai i.b 8/\ai i.a 8/\t.id=(aR t i).fst.id/\t.fn=(aR t i).fst.fn/\vi t i/\(∀ (ar:Nat),(if ar=i.a.toNat then av (XE t i)else co (t.az.getD ar 0))=uP t i ar)/\vW t i)/\((i.op==2)=false->((i.op==3)=true->ai i.b 8/\ai i.c 8/\KN 136 [co i.fn,XE t i,co (t.az.getD i.c.toNat (0:Int))] (AV.ax [qal t i,co (qgm t i).snd])/\ai i.a 8/\t.id=(aR t i).fst.id/\t.fn=(aR t i).fst.fn/\vi t i/\(∀ (ar:Nat),(if ar=i.a.toNat then av (av (qal t i))else co (t.az.getD ar 0))=uP t i ar)/\vW t i)/\((i.op==3)=false->((i.op==4)=true->QS t i)/\((i.op==4)=false->((i.op==5)=true->ai i.b 8/\(RA t i=true->QS t i)/\(RA t i=false->Kq t i))/\((i.op==5)=false->Kq t i)))))) ?_;try delta uh vi uP vW XE qgm qal YT QS RA Kq
 simp only[SZ];have k:=o.az;unfold ei at j f;refine⟨dl, ?_⟩;repeat' (first |apply And.intro |intro _)
 all_goals first
  | (rw[zl0 ce ce ce ce ce m f];done)
  | (rw[zl0 ce ce ce ce ce m f];rfl)
  | ((with_reducible show aL _ _ 136 _ _);exact Uj _ _ _)
  |omega
  | (have :=e.a (by simp[*];rfl);omega)
  | (have :=e.b (by simp[*];rfl);omega)
  | (have :=e.c (by simp only[*];rfl);omega)
  | (simp only[aR,ei,dm,reduceIte,Int.reduceEq, *];done)
  | (simp only[aR,ei,dm,reduceIte,Int.reduceEq, *];exact zhd _ _ _ k (e.a (by simp only[*];rfl)) _)
  | (have h:=j ce;simp only[aR,ei,dm,reduceIte,Int.reduceEq, *];done)
  | (have h:=j ce;simp only[aR,ei,dm,reduceIte,Int.reduceEq, *];exact zhd _ _ _ k (e.a (by simp only[*];rfl)) _)
def abj:FuncId ->List AV ->Option AV
 |130,[.int _ n]=>some (.bool (decide (0<=bC n)))
 |258,[.int _ n]=>some (co (max (bC n) 0))
 |224,[.mc _ t]=>some (.ax [co (fZ (dT t)), .bool (cV (dT t))])
 |f,l=>spL f l
def vR0 (n:Nat) (inv:Nat ->Option Inv):bj:={C:=jY n,CC:=aL Tryz.prog GG,bb:=λ_ _=>abj,inv:=inv}
def zpc (n:Int) (k:Nat):Option Inv:=match Nat.beq k 2 with
 |true=>some {ι:=Nat×Int,S:=λi=>⟨[(0,co i.2),(3,co i.1)],[]⟩,μ:=λi=>5 - i.1,ok:=λi=>i.1<=5/\i.2<=9223372036854775807/\((i.1=0/\i.2=n)∨(0<=i.2/\bC n=da i.2 (5 - i.1)))}
 |false=>none
def zpd (n:Int) (k:Nat):Option Inv:=match Nat.beq k 4 with
 |true=>some {ι:=Nat×Int,S:=λi=>⟨[(0,co i.2),(3,co i.1)],[]⟩,μ:=λi=>5 - i.1,ok:=λi=>i.1<=5/\i.2<=9223372036854775807/\0<=i.2/\0<=bC n/\bC n=da i.2 (5 - i.1)}
 |false=>none
theorem amn (h:n<0):bC n= -1:=x9 h
theorem zj0 (h:0<=n):bC n=da n 5:=x8 (ac)
theorem xO {k:Nat}:da n (k+1)=if n<8 then 5 - ((k:Int)+1)else if 7<=n.tmod 8 then -1 else da (n.tdiv 8 - 1) k:=rfl
theorem zfh {a:Nat} {b:Int} (i:a<5) (e:0<=b) (f:(a=0/\b=n)∨(0<=b/\bC n=da b (5 - a))):∃ k,5 - a=k+1/\bC n=da b (k+1):=by
 refine⟨5 - a - 1,ac, ?_⟩;rcases f with⟨h,rfl⟩ | ⟨_,h⟩
 . subst h;exact zj0 e
 . rw[h];congr 1;omega
section
variable (n:Int) (x1:Nat×Int)
def qn9:=x1.fst<=5/\x1.snd<=9223372036854775807/\(x1.fst=0/\x1.snd=n∨0<=x1.snd/\bC n=da x1.snd (sw x1))
def ZR:=decide (0<=bC n)
def qna:=false=ZR n
variable (x0:Nat×Int)
def Sr:=decide (x0.snd<0)
def QE:=decide (↑x0.fst<=(4:Int))
end
theorem zte (n:Int) (f:n<=9223372036854775807):KN 130 [co n] (.bool (decide (0<=bC n))):=by
 refine Kn (vR0 18 (zpc n)) Tryz.func130 ((∃ i,qn9 n i/\n=i.snd/\(0:Int)=↑i.fst)/\∀ i:Nat×Int,qn9 n i->(QE i=true->(Sr i=true->qna n)/\(Sr i=false->(Yt i=true->true=ZR n)/\(Yt i=false->(8:Int)≠(0:Int)/\aU j6 (i.snd.tmod (8:Int))/\(ZJ i=true->qna n)/\(ZJ i=false->(8:Int)≠(0:Int)/\aU j6 (i.snd.tdiv (8:Int))/\aU j6 (yM i)/\aU j6 (AB i)/\(∃ j,qn9 n j/\sw j<sw i/\yM i=j.snd/\AB i=↑j.fst)))))/\(QE i=false->qna n)) ?_;try delta sw qn9 ZR qna Sr Yt ZJ yM AB QE
 simp only[SZ];refine⟨⟨(0,n),⟨be,f, .inl eq⟩,rfl,rfl⟩,λi hi=>⟨λhle=>⟨λhneg=>?_,λhpos=>⟨λh8=>?_,λh8=>⟨by omega,by rw[tr (by omega)];exact za (by omega) (by omega),λh7=>?_,λh7=>⟨by omega,by rw[tq (by omega)];exact za (by omega) (by omega),by rw[tq (by omega)];exact za (by omega) (by omega),za (by omega) (by omega),(i.1+1,i.2.tdiv 8 - 1),⟨by show i.1+1<=5;omega, ?_, .inr ⟨?_, ?_⟩⟩,by show 5 - (i.1+1)<5 - i.1;omega,rfl,rfl⟩⟩⟩⟩,λhgt=>?_⟩⟩;all_goals have⟨a1,m,a3⟩:=hi
 . rcases a3 with⟨_,rfl⟩ | ⟨h,_⟩
   . rw[amn hneg];rfl
   . omega
 . have⟨k,hk,e⟩:=zfh (n:=n) (show i.1<5 by omega) (by omega) a3;rw[e,xO,x9 h8];symm;rw[xd];omega
 . have⟨k,hk,e⟩:=zfh (n:=n) (show i.1<5 by omega) (by omega) a3;rw[e,xO,x8 h8,x9 h7];rfl
 . show i.2.tdiv 8 - 1<=_;rw[tq (by omega)];omega
 . show 0<=i.2.tdiv 8 - 1;rw[tq (by omega)];omega
 . have⟨k,hk,e⟩:=zfh (n:=n) (show i.1<5 by omega) (by omega) a3;rw[e,xO,x8 h8,x8 h7,show 5 - (i.1+1)=k from by omega]
 . rcases a3 with⟨h,rfl⟩ | ⟨_,h⟩
   . omega
   . rw[h,show 5 - i.1=0 from by omega];rfl
section
variable (n:Int)
def FZ:=!ZR n
variable (x1:Nat×Int)
def qnb:=x1.fst<=5/\x1.snd<=9223372036854775807/\0<=x1.snd/\0<=bC n/\bC n=da x1.snd (sw x1)
variable (x0:Nat×Int)
def FD:=decide (8<=x0.snd)
end
theorem z160 (n:Int) (e:n<=9223372036854775807):KN 258 [co n] (co (max (bC n) 0)):=by
 refine Kn (vR0 15 (zpd n)) Tryz.func258 (KN 130 [co n] (AV.bool (ZR n))/\(FZ n=true->0=max (bC n) 0)/\(FZ n=false->(∃ i,qnb n i/\n=i.snd/\(0:Int)=↑i.fst)/\∀ i:Nat×Int,qnb n i->(FD i=true->(8:Int)≠(0:Int)/\aU j6 (i.snd.tdiv (8:Int))/\aU j6 (yM i)/\aU j6 (AB i)/\(∃ j,qnb n j/\sw j<sw i/\yM i=j.snd/\AB i=↑j.fst))/\(FD i=false->↑i.fst=max (bC n) 0))) ?_;try delta ZR FZ sw qnb yM AB FD
 simp only[SZ];refine⟨zte n e,λh=>ac,λh0=>⟨⟨(0,n),⟨be,e,(yO h0).1,h0,zj0 (yO h0).1⟩,rfl,rfl⟩,λi hi=>⟨λh8=>⟨ac,by rw[tq ac];exact dl,by rw[tq ac];exact dl,dl,(i.1+1,i.2.tdiv 8 - 1), ?_, ?_,rfl,rfl⟩,λh8=>?_⟩⟩⟩;all_goals have⟨a1,m,a3,f,a5⟩:=hi
 . have h4:i.1<5:=by
    rcases jt i.1 5 with h |h
    . exact h
    . rw[show 5 - i.1=0 from ac]at a5;have :bC n= -1:=a5;omega
   obtain⟨k,hk⟩:∃ k,5 - i.1=k+1:=⟨5 - i.1 - 1,ac⟩;rw[hk,xO,x8 ac]at a5;split at a5
   . omega
   . refine⟨by show i.1+1<=5;omega, ?_, ?_,h0, ?_⟩
     . show i.2.tdiv 8 - 1<=_;rw[tq ac];omega
     . show 0<=i.2.tdiv 8 - 1;rw[tq ac];omega
     . rw[a5];show _=da (i.2.tdiv 8 - 1) (5 - (i.1+1));rw[show 5 - (i.1+1)=k from ac]
 . have h4:i.1<5:=by
    rcases jt i.1 5 with h |h
    . exact h
    . rw[show 5 - i.1=0 from ac]at a5;have :bC n= -1:=a5;omega
   omega
 . rcases jt i.1 5 with h |h
   . obtain⟨k,hk⟩:∃ k,5 - i.1=k+1:=⟨5 - i.1 - 1,ac⟩;rw[hk,xO,x9 ac]at a5;omega
   . rw[show 5 - i.1=0 from ac]at a5;have :bC n= -1:=a5;omega
section
variable (t:aF)
def qgo:=decide (0<=bC t.id)
def qgp:=!qgo t
def qgq:=(!qgp t)=true
def xT:=qgq t->qgq t
def NZ:=qgp t||max (bC t.id) 0==4
def Eg:=(!NZ t)=true
def qnc:=Eg t->Eg t
def OM:=NZ t||decide (t.kids<0)
def JT:=(!OM t)=true
def qnd:=JT t->JT t
def Qe:=OM t||decide (7<=t.kids)
end
theorem zpf (h:t.az.length=8) (f:t.id<=9223372036854775807):KN 224 [vT t] (.ax [co (fZ t), .bool (cV t)]):=by
 refine Kn (vR0 31 λ_=>none) Tryz.func224 (KN 130 [co t.id] (AV.bool (qgo t))/\xT t/\xT t/\(qgq t->KN 258 [co t.id] (co (max (bC t.id) (0:Int))))/\xT t/\xT t/\qnc t/\qnc t/\qnc t/\qnd t/\qnd t/\qnd t/\(Qe t=true->0=fZ t/\false=cV t)/\(Qe t=false->aU j6 (qgg t)/\aU j6 (qgh t)/\aU j6 (ZI t)/\ZI t=fZ t/\true=cV t)) ?_;try delta qgo qgp qgq xT NZ Eg qnc OM JT qnd Qe qgg qgh ZI
 simp only[SZ];refine⟨zte _ f,λ_=>z160 _ f,λh=>?_,λh=>?_⟩
 . have e:cV t=false:=by unfold cV;simp;omega
   unfold fZ;rw[e];exact eq
 . have e:cV t=true:=by unfold cV;simp;omega
   have :=yO (id:=t.id) ac;unfold fZ;rw[e];exact⟨dl,dl,dl,rfl,rfl⟩
structure kP (p:aj):Prop where
 sm:bG p
 ok:(zc p).1=0
theorem zhe {p:aj}:∀ k,k<=p.al.length ->(vH p k).1=0 ->∀ i,p.al.length - k<=i ->i<p.al.length ->(z31 p (p.al.getD i bu)).1=0
 |0,_,_,i,o,j=>ac
 |k+1,r,h,i,o,j=>by
  simp only[vH]at h;split at h
  . rename_i f;have m:(z31 p (p.al.getD (p.al.length - (k+1)) bu)).1≠0:=by simpa using f
    omega
  . rename_i f;by_cases e:i=p.al.length - (k+1)
    . grind
    . exact zhe k ac h i ac j
theorem zl1 {p:aj} {f:cX}:∀ k,k<=f.code.length ->(nm p f k).1=0 ->∀ i,f.code.length - k<=i ->i<f.code.length ->iB p (f.code.getD i dp) f.code.length=0
 |0,_,_,i,r,m=>ac
 |k+1,s,h,i,r,m=>by
  simp only[nm]at h;split at h
  . rename_i j;have o:iB p (f.code.getD (f.code.length - (k+1)) dp) f.code.length≠0:=by simpa using j
    omega
  . rename_i j;by_cases e:i=f.code.length - (k+1)
    . grind
    . exact zl1 k ac h i ac m
theorem zl2 {p:aj}:∀ k,k<=p.af.length ->oP p k=0 ->∀ i,p.af.length - k<=i ->i<p.af.length ->(0<=(p.af.getD i dL).fn/\(p.af.getD i dL).fn<p.al.length)/\cl (p.af.getD i dL).arg=true
 |0,_,_,i,m,f=>ac
 |k+1,r,h,i,m,f=>by
  simp only[oP]at h;split at h
  . omega
  . split at h
    . omega
    . rename_i o j;by_cases e:i=p.af.length - (k+1)
      . subst e;exact⟨ac,by simpa using j⟩
      . exact zl2 k ac h i ac f
theorem zfi (h:(zc p).1=0):kj p=0/\(fq p).1=0/\kg p=0:=by grind[zc]
theorem kP.code (h:kP p) {f:Nat} (k:f<p.al.length):(p.al.getD f bu).code.length<=64/\∀ i,i<(p.al.getD f bu).code.length ->iB p ((p.al.getD f bu).code.getD i dp) (p.al.getD f bu).code.length=0:=by
 have e:=zhe p.al.length (xm _) (zfi h.ok).2.1 f ac k;unfold z31 at e;split at e
 . omega
 . rename_i hl;exact⟨ac,λi j=>zl1 _ (xm _) e i ac j⟩
theorem kP.af (h:kP p):(1<=p.af.length/\p.af.length<=8)/\∀ i,i<p.af.length ->(0<=(p.af.getD i dL).fn/\(p.af.getD i dL).fn<p.al.length)/\cl (p.af.getD i dL).arg=true:=by
 have e:=(zfi h.ok).2.2;unfold kg at e;split at e
 . omega
 . exact⟨ac,λi f=>zl2 _ (xm _) e i ac f⟩
theorem kP.ao4 (h:kP p):(p.vars.length<=8/\p.aS.length<=4/\p.conds.length<=4/\p.al.length<=8)/\∀ v∈p.vars,cl v.init=true:=by
 have e:=(zfi h.ok).1;grind[kj]
theorem qI:cl n=true↔ -2147483648<=n/\n<=2147483647:=by grind[cl]
theorem qC:wr n=n↔ -2147483648<=n/\n<=2147483647:=by unfold wr;omega
theorem BS {i:aP} {n:Int} (h:iB p i n=0):eG i=0/\lF p i=false/\((i.op=4∨i.op=5) ->0<=i.n/\i.n<=n):=by grind[iB]
theorem Fx {i:aP} (h:eG i=0):Rb i:=by
 have f:∀ k,k<3 ->jI i k=false:=by
  grind[eG]
 have e:∀ k,k<3 ->dC i.op k=true ->0<=cU i k/\cU i k<8:=by
  grind[jI]
 exact⟨e 0 ac,e 1 ac,e 2 ac⟩
theorem zpg {f:Int} (h:bw f≠[]):1<=f/\f<=10:=by
 unfold bw at h;split at h
 . exact absurd rfl h
 . omega
theorem zj1 {i:aP} (h:eG i=0):(dC i.op 6=true ->0<=i.ord/\i.ord<=2)/\(dC i.op 5=true ->1<=i.fn/\i.fn<=10)/\(i.op=1 -> -2147483648<=i.n/\i.n<=2147483647)/\∀ k,k<7 ->dC i.op k=false ->cU i k=0:=by
 unfold eG at h;split at h
 . omega
 . split at h
   . omega
   . rename_i q7;split at h
     . omega
     . split at h
       . omega
       . rename_i q1;split at h
         . omega
         . rename_i e;split at h
           . omega
           . rename_i q3;refine⟨λhu=>?_,λhu=>?_,λho=>?_,λk f hu=>?_⟩
             . grind
             . rw[hu,wd,xo]at e;exact zpg e
             . grind
             . have hb:dQ i k=false:=by
                grind
               unfold dQ at hb;grind
theorem zwc {f a b:Int} (h:1<=f/\f<=10):(app f a b).2=0:=by
 unfold app;repeat' split
 all_goals first |rfl |omega
def pR:aF:=if c7 t i≠0 then dm t 3 (c7 t i)else if t.steps=b then dm t 4 0 else t
def z4q (p:aj) (b:Int):Nat ->aF ->aF
 |0,t=>if ec p t=false then dm t 2 0 else if di (aI p t).op then pR b t (aI p t)else dm t 3 29
 |k+1,t=>if ec p t=false then dm t 2 0 else if di (aI p t).op then pR b t (aI p t)else
  if(aR t (aI p t)).2 then z4q p b k (aR t (aI p t)).1 else(aR t (aI p t)).1
def b8 (p:aj) (b:Int) (t:aF):aF:=z4q p b 256 t
def ab3:FuncId ->List AV ->Option AV
 |206,[.mc _ p, .int _ b, .mc _ t] |132,[.mc _ p, .int _ b, .mc _ t]=>some (vT (b8 (dP p) b (dT t)))
 |144,[.mc _ p, .mc _ t]=>some (iX ((dP p).al.getD (dT t).fn.toNat bu).code)
 |217,[.mc _ t, .mc _ i]=>some (co (c7 (dT t) (eQ i)))
 |218,[.mc _ t, .int _ e]=>some (vT (dm (dT t) 3 e))
 |257,[.seq _ n f, .int _ v]=>some (.bool (aW (zw n f) v))
 |f,l=>abj f l
def Yk (n:Nat) (inv:Nat ->Option Inv):bj:={C:=jY n,CC:=aL Tryz.prog GG,bb:=λ_ _=>ab3,inv:=inv}
structure kR (p:aj) (t:aF):Prop where
 ok:eL t
 fn:0<=t.fn/\t.fn<p.al.length
 pc:0<=t.pc/\t.pc<=((p.al.getD t.fn.toNat bu).code.length:Int)
def zpj (p:aj) (b:Int) (t:aF) (k:Nat):Option Inv:=match Nat.beq k 4 with
 |true=>some {ι:=Nat×aF,S:=λi=>⟨[(1, .int .i64 b),(3, .ptr 3 []),(5, .ptr 5 []),(6, .ptr 6 []),(7, .int .i64 i.1)],[(3, .cell 27 z7 (ak p)),(5, .cell 86 zk (aq i.2)),(6, .cell 86 zk (aq au))]⟩,μ:=λi=>256 - i.1,ok:=λi=>i.1<=256/\kR p i.2/\b8 p b t=z4q p b (256 - i.1) i.2}
 |false=>none
def zl3 (p:aj) (b:Int) (t:aF) (k:Nat):Option Inv:=match Nat.beq k 4 with
 |true=>some {ι:=Nat×aF,S:=λi=>⟨[(1, .int .i64 b),(3, .ptr 3 []),(5, .ptr 5 []),(6, .ptr 6 []),(7, .int .i64 i.1)],[(3, .cell 27 z7 (ak p)),(5, .cell 86 zk (aq i.2)),(6, .cell 86 zk (aq au))]⟩,μ:=λi=>256 - i.1,ok:=λi=>i.1<=256/\kR p i.2/\i.2.fault=0/\b8 p b t=z4q p b (256 - i.1) i.2}
 |false=>none
end
end Go.Proofs.S25
