import Derived.Test.YtgcpdfihjmmggaaGreatDoorXy
import Derived.Test.YtgcpdfihjmmggaaGreatDoorXx
namespace Go.Proofs.S25
open Go Go.AV Tryz
open Go.IntKind renaming i64 -> j6
open Go.AV.ex (ey)
noncomputable section
variable {sh:ex} (l:List bR) (p:ai) (b:Int) (s:ja) (i:Nat) (a:Int) (k:Nat)
theorem z12 {p:ai} {b:Int} {s:ja}:cQ p b s=true↔ec p s.l5=true/\s.ae.length=s.ab.length/\∀ j,j<s.ab.length ->z5e p b s.ab j/\zfu p (s.ab.getD j ao) (s.ae.getD j az)=true:=by
 unfold cQ;rw[xa,xa,xa,z9k,xo,yu];simp only[yl];constructor;rintro⟨i,h,f,k⟩;exact⟨i,h,λj e=>⟨f j e,k j e⟩⟩;rintro⟨i,h,f⟩;exact⟨i,h,λj e=>(f j e).1,λj e=>(f j e).2⟩
theorem nM {p:ai} {t:i5} {b:bR}:zfu p t b=true↔bQ b=true/\b.ay=t.id/\∀ j,j<b.bO.length ->(b.bO.getD j cc).var<p.eA.length:=by
 unfold zfu;rw[xa,xa,xo,lO _ _ cc];grind
theorem zu1 (l:List Int):AV.le [] [] (a8 l) (a8 l):=⟨rfl,rfl,λ_ _=>rfl⟩
theorem leM (m:i8):AV.le [] [] (aj m) (aj m):=⟨zu1 _,zu1 _,⟨rfl,rfl,λ_ _=>rfl⟩,zu1 _,trivial⟩
theorem leN:AV.le [] [] (fi s) (cx (bN s)):=⟨rfl,⟨rfl,rfl,λ_ _=>rfl⟩,leM _,rfl,trivial⟩
theorem cw.sc {s:ja} (h:cw s):cw (bN s):=⟨h.ab,h.ok,h.l5,xt _,λ_=>xt _⟩
theorem ad3 (e:bI p) (hs:cw s):KN 184 [vP p,fi s,d9 a] (.av [dh (bA p (bN s) a).1, .bool (bA p (bN s) a).2]):=
 (ads p (bN s) a e hs.sc).weaken (by rfl) ⟨kY p,leN s,⟨rfl,rfl⟩,trivial⟩
theorem acq (e:bI p) (hs:cw s):KN 116 [vP p,fi s] (a8 (cX p (bN s))):=
 (ac1 p (bN s) e hs.sc).weaken (by rfl) ⟨kY p,leN s,trivial⟩
theorem Pn (k:Int):KN 117 [nQ s k] (fi s):=by
 refine Kn (nn lX s k.toNat aW 10 λ_=>none) func117 (LT (aF s.ab)/\LT (aj s.l5)) ?_;simp only[SZ]
theorem ZX (e:ru s k):KN 125 [nQ s k] (.av [vT (s.ab.getD k ao),vB (s.ae.getD k az)]):=by
 refine Kn (nn lX s k aW 18 λ_=>none) func125 (af (↑k) s.ab.length/\af (↑k) s.ae.length/\LS (ak (s.ab.getD (↑k:Int).toNat ao)) (ak (s.ab.getD k ao))/\LS (aA (s.ae.getD (↑k:Int).toNat az)) (aA (s.ae.getD k az))) ?_;simp only[SZ];exact e
section
variable (s:ja) (k:Nat) (v:Int)
def Ty:Int:=(eY (s.ae.getD k az) v).fst
def qqj:Int×Bool:=(eY (s.ae.getD k az) v).snd
def Xx:Int:=(qqj s k v).fst
def vl:=(qqj s k v).snd
end
theorem zxm (v:Int) (hs:cw s) (e:ru s k):KN 179 [nQ s k,d9 v] (.av [d9 (fm s k v).1,d9 (fm s k v).2]):=by
 refine Kn (nn lX s k aW 37 λ_=>none) func179 (KN 125 [AV.mc jP (AV.agg [ze s,d9 ↑k])] (AV.av [AV.mc zk (ak (s.ab.getD k ao)),AV.mc c7 (aA (s.ae.getD k az))])/\KN 229 [AV.mc c7 (aA (s.ae.getD k az)),d9 v] (AV.av [d9 (Ty s k v),d9 (Xx s k v),AV.bool (vl s k v)])/\Z (vl s k v) (Ty s k v=(fm s k v).fst/\Xx s k v=(fm s k v).snd) (KN 227 [AV.mc zm (aj s.l5),d9 v] (AV.av [d9 (fo s.l5 v).fst,d9 (fo s.l5 v).snd])/\(fo s.l5 v).fst=(fm s k v).fst/\-1=(fm s k v).snd)) ?_;try delta Z Ty qqj Xx vl
 try simp only[SZ]
 refine⟨ZX s k e,akh _ _ (hs.nw k),λh=>?_,λh=>⟨zpx _ _ hs.l5, ?_⟩⟩;unfold fm;rw[x9 h];exact⟨rfl,rfl⟩;unfold fm;rw[x8 (by rw[h];simp)];exact⟨rfl,rfl⟩
section
variable (s:ja) (k:Nat)
def Q0:=0=(cg s k).fst.ord
def PE:=0=(cg s k).fst.read
def SH:=↑(s.ae.getD k az).bO.length==(0:Int)
def EJ:=af 0 (s.ae.getD k az).bO.length
def P6:cD:=(s.ae.getD k az).bO.getD (Int.toNat 0) cc
end
theorem aff (hs:cw s) (f:ru s k) (i:0<=(s.ab.getD k ao).id):KN 122 [nQ s k] (.av [dh (cg s k).1, .bool (cg s k).2]):=by
 refine Kn (nn lX s k aW 34 λ_=>none) func122 (KN 125 [AV.mc jP (AV.agg [ze s,d9 ↑k])] (AV.av [AV.mc zk (ak (s.ab.getD k ao)),AV.mc c7 (aA (s.ae.getD k az))])/\aH ↑(s.ae.getD k az).bO.length/\Z (SH s k) ((0=(cg s k).fst.aC/\0=(cg s k).fst.ly/\0=(cg s k).fst.kind/\0=(cg s k).fst.ii/\0=(cg s k).fst.k7/\0=(cg s k).fst.entry/\Q0 s k/\PE s k/\0=(cg s k).fst.i4)/\false=(cg s k).snd) (KN 118 [d9 (s.ab.getD k ao).id] (d9 (m6 (s.ab.getD k ao).id))/\EJ s k/\EJ s k/\(m6 (s.ab.getD k ao).id=(cg s k).fst.aC/\(s.ae.getD k az).first=(cg s k).fst.ly/\4=(cg s k).fst.kind/\(P6 s k).var=(cg s k).fst.ii/\-1=(cg s k).fst.k7/\(s.ae.getD k az).first=(cg s k).fst.entry/\Q0 s k/\PE s k/\(P6 s k).val=(cg s k).fst.i4)/\true=(cg s k).snd)) ?_;try delta Z aH Q0 PE SH EJ P6
 simp only[SZ];have h:=hs.nw k;refine⟨ZX s k f,O,λh=>?_,λh=>⟨aaa _ ⟨?_,(hs.ok k).id⟩,⟨O,O⟩,⟨O,O⟩, ?_⟩⟩;have e:cg s k=(aW,false):=by unfold cg;rw[x9 O]
 rw[e];exact⟨⟨rfl,rfl,rfl,rfl,rfl,rfl,rfl,rfl,rfl⟩,rfl⟩;omega;have e:cg s k=(⟨m6 (s.ab.getD k ao).id,(s.ae.getD k az).first,4,((s.ae.getD k az).bO.getD 0 cc).var,-1,(s.ae.getD k az).first,0,0,((s.ae.getD k az).bO.getD 0 cc).val⟩,true):=by unfold cg;rw[x8 O]
 rw[e];exact⟨⟨rfl,rfl,rfl,rfl,rfl,rfl,rfl,rfl,rfl⟩,rfl⟩
theorem zxn {p:ai} {s:ja} {k:Nat} (h:cm p (s.ab.getD k ao)=false):bU p s k=(aW,false):=by unfold bU;rw[x9 h]
theorem zhn {p:ai} {s:ja} {k:Nat} (h:cm p (s.ab.getD k ao)) (e:(zg p (s.ab.getD k ao)).op=8∨(zg p (s.ab.getD k ao)).op=14):bU p s k=(⟨(s.ab.getD k ao).id,(s.ab.getD k ao).io,if(zg p (s.ab.getD k ao)).op=14 then 8 else 1,(zg p (s.ab.getD k ao)).ii,-1,(fm s k (zg p (s.ab.getD k ao)).ii).2,(zg p (s.ab.getD k ao)).ord,(fm s k (zg p (s.ab.getD k ao)).ii).1,0⟩,true):=by
 unfold bU;rw[x8 (by rw[h];simp),x9 e]
theorem zqr {p:ai} {s:ja} {k:Nat} (h:cm p (s.ab.getD k ao)) (e:(zg p (s.ab.getD k ao)).op=9):bU p s k=(⟨(s.ab.getD k ao).id,(s.ab.getD k ao).io,3,(zg p (s.ab.getD k ao)).ii,-1,(s.ae.getD k az).first+(s.ae.getD k az).bO.length,(zg p (s.ab.getD k ao)).ord,0,bp (s.ab.getD k ao) (zg p (s.ab.getD k ao)).b⟩,true):=by
 unfold bU;rw[x8 (by rw[h];simp),x8 O,x9 e]
theorem zqs {p:ai} {s:ja} {k:Nat} (h:cm p (s.ab.getD k ao)) (i:¬(zg p (s.ab.getD k ao)).op=8) (f:¬(zg p (s.ab.getD k ao)).op=14) (e:¬(zg p (s.ab.getD k ao)).op=9):bU p s k=bA p (bN s) (s.ab.getD k ao).id:=by
 unfold bU;rw[x8 (by rw[h];simp),x8 O,x8 e]
section
variable (s:ja) (k:Nat)
def Wa:=AV.mc jP (AV.agg [ze s,d9 ↑k])
def DP:List AV:=[Wa s k]
end
section
variable (p:ai) (s:ja) (k:Nat)
def Ra:=0=(bU p s k).fst.read
def KG:=0=(bU p s k).fst.i4
def Xf:Int:=(fm s k (zg p (s.ab.getD k ao)).ii).fst
def Co:Int:=(fm s k (zg p (s.ab.getD k ao)).ii).snd
def IZ:=KN 179 [Wa s k,d9 (zg p (s.ab.getD k ao)).ii] (AV.av [d9 (Xf p s k),d9 (Co p s k)])
def qqk:=(s.ab.getD k ao).id=(bU p s k).fst.aC
def qql:=(s.ab.getD k ao).io=(bU p s k).fst.ly
def AM:=(zg p (s.ab.getD k ao)).ii=(bU p s k).fst.ii
def MQ:=-1=(bU p s k).fst.k7
def Aa:=(zg p (s.ab.getD k ao)).ord=(bU p s k).fst.ord
def RU:=AM p s k/\MQ p s k/\Co p s k=(bU p s k).fst.entry/\Aa p s k/\Xf p s k=(bU p s k).fst.read/\KG p s k
def TY:=(zg p (s.ab.getD k ao)).op==14
def Dy:=TY p s k=true
def Ox:=TY p s k=false
def Cl:=(Dy p s k->IZ p s k/\(qqk p s k/\qql p s k/\8=(bU p s k).fst.kind/\RU p s k)/\true=(bU p s k).snd)/\(Ox p s k->IZ p s k/\(qqk p s k/\qql p s k/\1=(bU p s k).fst.kind/\RU p s k)/\true=(bU p s k).snd)
def WX:=(zg p (s.ab.getD k ao)).op==8
def Jv:=WX p s k=true
def IM:Int:=(s.ae.getD k az).first+↑(s.ae.getD k az).bO.length
def JD:=(zg p (s.ab.getD k ao)).op==9
def mF:=AV.mc aI (AV.agg [aF s.ab,aj s.l5,AV.ax])
def I4:=bX (bA p (bN s) (s.ab.getD k ao).id).fst
def A7:=(bA p (bN s) (s.ab.getD k ao).id).snd
def QF:=Z (JD p s k) (af (zg p (s.ab.getD k ao)).b 8/\aH ↑(s.ae.getD k az).bO.length/\aM j6 (IM s k)/\(qqk p s k/\qql p s k/\3=(bU p s k).fst.kind/\AM p s k/\MQ p s k/\IM s k=(bU p s k).fst.entry/\Aa p s k/\Ra p s k/\(s.ab.getD k ao).aw.getD (zg p (s.ab.getD k ao)).b.toNat 0=(bU p s k).fst.i4)/\true=(bU p s k).snd) (KN 117 (DP s k) (mF s)/\KN 184 [AV.mc z7 (ah p),mF s,d9 (s.ab.getD k ao).id] (AV.av [AV.mc bF (I4 p s k),AV.bool (A7 p s k)])/\LS (I4 p s k) (bX (bU p s k).fst)/\A7 p s k=(bU p s k).snd)
def Fj:=WX p s k=false
end
theorem aej (hp:bI p) (hs:cw s) (hk:ru s k) (hv:ec p s.l5) (hb:bQ (s.ae.getD k az)):KN 123 [nQ s k,vP p] (.av [dh (bU p s k).1, .bool (bU p s k).2]):=by
 refine Kn (nn p s k aW 79 λ_=>none) func123 (KN 125 (DP s k) (AV.av [AV.mc zk (ak (s.ab.getD k ao)),AV.mc c7 (aA (s.ae.getD k az))])/\KN 177 [AV.mc z7 (ah p),AV.mc zk (ak (s.ab.getD k ao))] (AV.av [AV.mc zy (k8 (zg p (s.ab.getD k ao))),AV.bool (cm p (s.ab.getD k ao))])/\Z (!cm p (s.ab.getD k ao)) ((0=(bU p s k).fst.aC/\0=(bU p s k).fst.ly/\0=(bU p s k).fst.kind/\0=(bU p s k).fst.ii/\0=(bU p s k).fst.k7/\0=(bU p s k).fst.entry/\0=(bU p s k).fst.ord/\Ra p s k/\KG p s k)/\false=(bU p s k).snd) ((Jv p s k->(Jv p s k->Cl p s k)/\(Fj p s k->QF p s k))/\(Fj p s k->(Dy p s k->Cl p s k)/\(Ox p s k->QF p s k)))) ?_;try delta Z aH Wa DP Ra KG Xf Co IZ qqk qql AM MQ Aa RU TY Dy Ox Cl WX Jv IM JD mF I4 A7 QF Fj
 simp only[SZ];have hr:=((z21 _).1 hb).1;refine⟨ZX s k hk,ztj p _ hp (hs.ok k),λh=>?_,λh=>?_⟩;rw[zxn h];exact⟨⟨rfl,rfl,rfl,rfl,rfl,rfl,rfl,rfl,rfl⟩,rfl⟩;have⟨k1,k2⟩:=Ud hp (hs.ok k) hv h;rw[<- k2]at k1;have hS:=zxm s k (zg p (s.ab.getD k ao)).ii hs hk;have hL:KN 117 [nQ s k] (fi s)/\_:=⟨Pn s k,ad3 p s (s.ab.getD k ao).id hp hs⟩;refine⟨λh8=>⟨λ_=>⟨λh14=>O,λh14=>⟨hS, ?_⟩⟩,λhn=>absurd h8 hn⟩,λh8=>⟨λh14=>⟨λ_=>⟨hS, ?_⟩,λhn=>absurd h14 hn⟩,λh14=>⟨λh9=>⟨k1.b O,O,f9, ?_⟩,λh9=>⟨hL.1,hL.2, ?_⟩⟩⟩⟩;rw[zhn h (.inl h8),x8 h14];exact⟨⟨rfl,rfl,rfl,rfl,rfl,rfl,rfl,rfl,rfl⟩,rfl⟩;rw[zhn h (.inr h14),x9 h14];exact⟨⟨rfl,rfl,rfl,rfl,rfl,rfl,rfl,rfl,rfl⟩,rfl⟩;rw[zqr h h9];exact⟨⟨rfl,rfl,rfl,rfl,rfl,rfl,rfl,rfl,rfl⟩,rfl⟩;rw[zqs h h8 h14 h9];exact⟨⟨rfl,rfl,rfl,rfl,rfl,rfl,rfl,rfl,rfl⟩,rfl⟩
section
variable (s:ja) (a:Int)
def qx:Int:=max (aS s.ab (aX a)) 0
def me:=decide (0<=aS s.ab (aX a))
end
theorem ab2 (hs:cw s) (e:jY a):KN 55 [cx s,d9 a] (.av [nQ s (max (aS s.ab (aX a)) 0), .bool (decide (0<=aS s.ab (aX a)))]):=by
 refine Kn (nn lX s 0 aW 20 λ_=>none) func55 (KN 121 [d9 a] (d9 (aX a))/\KN 120 [aF s.ab,d9 (aX a)] (AV.av [d9 (qx s a),AV.bool (me s a)])/\(LT (ze s)/\RR (qx s a))/\RR (me s a)) ?_;try delta qx me
 simp only[SZ];exact⟨ad5 a e,Xi _ _ hs.ab hs.r8⟩
structure SOd (p:ai) (s:ja):Prop where
 wo:SWk s
 s:∀ b,cQ p b s=true ->cw s
theorem cw.o {p:ai} {s:ja} (h:cw s):SOd p s:=⟨h.wo,λ_ _=>h⟩
theorem zu2 {p:ai} {m:i8} (h:ec p m):(zc p).1=0:=by grind[ec]
section
variable (p:ai)
def JK:=(zc p).fst==0
def CR:=!JK p
def qqm:=(!CR p)=true
def Xl:=qqm p->qqm p
variable (s:ja)
def Eh:=CR p||!ec p s.l5
def qim:=(!Eh p s)=true
def vZ:=qim p s->qim p s
def Et:=Eh p s||(↑s.ae.length:Int) !=(↑s.ab.length:Int)
end
section
variable (p:ai) (b:Int) (s:ja) (x3:Nat)
def qqn:=∀ j:Nat,j<x3->z5e p b s.ab j/\zfu p (s.ab.getD j ao) (s.ae.getD j az)=true
def wJ:=x3<=s.ab.length/\ec p s.l5=true/\s.ae.length=s.ab.length/\qqn p b s x3
def PU:=fq p b (dT (ak (s.ab.getD (↑x3:Int).toNat ao)))
def qin:=!PU p b s x3
def qio:=!qin p b s x3
def vD:=qio p b s x3=true
def mG:=vD p b s x3->vD p b s x3
def q1m:=(qio p b s x3&&mh x3)=true
def qh:=q1m p b s x3->q1m p b s x3
def uc:=qin p b s x3||mh x3&&decide ((s.ab.getD (↑x3:Int).toNat ao).id<=(s.ab.getD ((↑x3:Int) - 1).toNat ao).id)
def qqo:=(!uc p b s x3)=true
def qqp:=qqo p b s x3->qqo p b s x3
variable (x1:Nat)
def X6:=bQ (dB (aA (s.ae.getD (↑x1:Int).toNat az)))
def zR:=uc p b s x3||!X6 s x3
def HR:=(!zR p b s x3)=true
def Vx:=HR p b s x3->HR p b s x3
def Mi:=zR p b s x3||(s.ae.getD (↑x3:Int).toNat az).ay !=(s.ab.getD (↑x3:Int).toNat ao).id
def J4:Int:=(↑(s.ae.getD (↑x1:Int).toNat az).bO.length:Int)
variable (x4:Nat)
def vQ:=x4<=(s.ae.getD x3 az).bO.length/\x3<s.ab.length/\ec p s.l5=true/\s.ae.length=s.ab.length/\qqn p b s x3/\z5e p b s.ab x3/\bQ (s.ae.getD x3 az)=true/\(s.ae.getD x3 az).ay=(s.ab.getD x3 ao).id/\∀ j:Nat,j<x4->((s.ae.getD x3 az).bO.getD j cc).var<↑p.eA.length
end
section
variable (p:ai) (s:ja) (x2:Nat) (x3:Nat)
def qe4:=decide ((↑p.eA.length:Int)<=((s.ae.getD x2 az).bO.getD (↑x3:Int).toNat cc).var)
end
section
variable (s:ja) (x1:Nat) (x2:Nat)
def Ti:Nat:=(s.ae.getD x1 az).bO.length - x2
def SU:=decide ((↑x2:Int)<(↑(s.ae.getD x1 az).bO.length:Int))
end
theorem z124 (k:bI p) (hs:SWk s):KN 52 [vP p,d9 b,cx s] (.bool (cQ p b s)):=by
 refine Kn {nn p s 0 aW 92 (ajn p b s)with ui:=zxj p b s} func52 (KN 111 [AV.mc z7 (ah p)] (AV.bool (JK p))/\Xl p/\Xl p/\Xl p/\(qqm p->KN 112 [AV.mc z7 (ah p),AV.mc zm (aj s.l5)] (AV.bool (ec p s.l5)))/\Xl p/\Xl p/\vZ p s/\vZ p s/\(qim p s->aH ↑s.ae.length)/\vZ p s/\vZ p s/\(qim p s->mW s)/\vZ p s/\vZ p s/\vZ p s/\Z (Et p s) (false=cQ p b s) (mW s/\(∃ i,wJ p b s i/\(RR b/\LT (aF s.ab)/\RR (↑s.ab.length:Int)/\0=(↑i:Int))/\LT (ah p)/\LT (ze s))/\∀ i:Nat,wJ p b s i->Z (qc s i) (af (↑i) s.ab.length/\af (↑i) s.ae.length/\KN 113 [AV.mc z7 (ah p),d9 b,AV.mc zk (ak (s.ab.getD (↑i:Int).toNat ao))] (AV.bool (PU p b s i))/\mG p b s i/\mG p b s i/\qh p b s i/\qh p b s i/\(q1m p b s i->aM j6 (qg i))/\qh p b s i/\qh p b s i/\(q1m p b s i->af (qg i) s.ab.length)/\qh p b s i/\qh p b s i/\qh p b s i/\qh p b s i/\qh p b s i/\mG p b s i/\(vD p b s i->mh i=true->q1m p b s i)/\mG p b s i/\qqp p b s i/\(qqo p b s i->KN 114 [AV.mc c7 (aA (s.ae.getD (↑i:Int).toNat az))] (AV.bool (X6 s i)))/\qqp p b s i/\qqp p b s i/\Vx p b s i/\Vx p b s i/\Vx p b s i/\Vx p b s i/\Vx p b s i/\Z (Mi p b s i) (false=cQ p b s) (J4 s i<=9223372036854775807/\(∃ p_1,(∃ f,vQ p b s p_1 f/\(RR b/\LT (aF s.ab)/\RR (↑s.ab.length:Int)/\(↑i:Int)=(↑p_1:Int)/\LS (bY (s.ae.getD (↑i:Int).toNat az).bO) (bY (s.ae.getD p_1 az).bO)/\J4 s i=(↑(s.ae.getD p_1 az).bO.length:Int)/\0=(↑f:Int))/\LT (ah p)/\LT (ze s))/\∀ (f:Nat),vQ p b s p_1 f->Z (SU s p_1 f) (af (↑f:Int) (s.ae.getD p_1 az).bO.length/\(↑p.eA.length:Int)<=9223372036854775807/\Z (qe4 p s p_1 f) (false=cQ p b s) (qa f/\∃ j,vQ p b s p_1 j/\Ti s p_1 j<Ti s p_1 f/\(RR b/\LT (aF s.ab)/\RR (↑s.ab.length:Int)/\RR (↑p_1:Int)/\LT (bY (s.ae.getD p_1 az).bO)/\RR (↑(s.ae.getD p_1 az).bO.length:Int)/\qb f j)/\LT (ah p)/\LT (ze s))) (qa p_1/\∃ j,wJ p b s j/\s.ab.length - j<s.ab.length - i/\(RR b/\LT (aF s.ab)/\RR (↑s.ab.length:Int)/\qb p_1 j)/\LT (ah p)/\LT (ze s))))) (true=cQ p b s))) ?_;try delta Z aH JK CR qqm Xl Eh qim vZ mW Et qqn wJ PU qin qio vD mG mh q1m qh qg uc qqo qqp X6 zR HR Vx Mi J4 vQ qe4 q9 qa Ti qb SU qc
 simp only[SZ];have h1:=hs.ab;have h2:=hs.ae;have h3:=k.eA;have eT:∀ i,dT (ak (s.ab.getD i ao))=s.ab.getD i ao:=λi=>iz _ (hs.ok i).aw;simp only[eT];refine⟨zox p k,λ_=>abm p s.l5 k hs.l5,λ_=>O,λ_=>O,λh=>eI λhv=>?_,λh=>⟨O,⟨0,⟨O,h.1.2,O,λj hj=>O⟩,rfl⟩,λi hi=>⟨λhlt=>⟨hlt,O,zj8 p b _ k (hs.ok i),λ_=>f9,λ_=>O,λ_=>zty _ (hs.nw i),λh=>eI λhv=>?_,λh=>⟨by have :=hs.nw i;omega,i,⟨0,⟨O,hlt,hi.2.1,hi.2.2.1,hi.2.2.2,⟨h.1.1.1,λh0=>?_⟩,h.1.2,h.2,λj hj=>O⟩,rfl,⟨rfl,λ_ _=>rfl⟩,rfl,rfl⟩,λq hq=>⟨λhlt2=>⟨hlt2,O,λhn=>eI λhv=>?_,λhn=>⟨za (by have :=hs.nw i;omega) (by have :=hs.nw i;omega),q+1,⟨O,hlt,hq.2.2.1,hq.2.2.2.1,hq.2.2.2.2.1,hq.2.2.2.2.2.1,hq.2.2.2.2.2.2.1,hq.2.2.2.2.2.2.2.1,λj hj=>?_⟩,O,O⟩⟩,λhge=>⟨f9,i+1,⟨O,hi.2.1,hi.2.2.1,λj hj=>?_⟩,O,O⟩⟩⟩⟩,λhge=>?_⟩⟩⟩;have⟨v1,v2,_⟩:=z12.1 hv;rcases h with(h |h) |h
 exact h (zu2 v1);grind;omega;have⟨v1,v2⟩:=(z12.1 hv).2.2 i hlt;have⟨b1,b2,_⟩:=nM.1 v2;rcases h with((h | ⟨h,h'⟩) |h) |h
 rw[v1.1]at h;cases h;have :=v1.2 O;rw[show((i:Int) - 1).toNat=i - 1 from O]at h';omega;rw[b1]at h;cases h;exact h b2;simp_all;have :=(nM.1 ((z12.1 hv).2.2 i hlt).2).2.2 q hlt2;omega;by_cases e:j=q;subst e;omega;exact hq.2.2.2.2.2.2.2.2 j O;by_cases e:j=i;subst e;exact⟨hq.2.2.2.2.2.1,nM.2 ⟨hq.2.2.2.2.2.2.1,hq.2.2.2.2.2.2.2.1,λj hj=>hq.2.2.2.2.2.2.2.2 j O⟩⟩;exact hi.2.2.2 j O;exact XJ λhv=>Bool.noConfusion (hv.symm.trans (z12.2 ⟨hi.2.1,hi.2.2.1,λj hj=>hi.2.2.2 j O⟩))
section
variable (p:ai) (s:ja) (k:Nat)
def G6:=(!WX p s k)=true
def qqq:=G6 p s k->G6 p s k
def Ag:=WX p s k||(zg p (s.ab.getD k ao)).op==9
def Om:=d9 (Xf p s k)
def HI:=af (zg p (s.ab.getD k ao)).b 8
def qqr:Int:=(s.ab.getD k ao).aw.getD (zg p (s.ab.getD k ao)).b.toNat 0
def GI:List AV:=[d9 (qqr p s k)]
def IY:Int×Int:=app (zg p (s.ab.getD k ao)).fn (Xf p s k) (qqr p s k)
def I0:Int:=(IY p s k).fst
def NC:Int:=(IY p s k).snd
def DR:=NC p s k==0
def Jc:=DR p s k=true
def Kb:=Jc p s k->Jc p s k
def qqs:=nN (zg p (s.ab.getD k ao)).op=true
def XY:=qqs p s k->qqs p s k
def Kx:=nN (zg p (s.ab.getD k ao)).op&&decide ((0:Int)<↑(s.ae.getD k az).bO.length)
def qqt:=(!Kx p s k)=true
def Vz:=qqt p s k->qqt p s k
variable (on:List Int)
def Sh:=aQ (zw on.length λi=>d9 (on.getD i 0)) (s.ab.getD k ao).id
def Sg:=Kx p s k||!Sh s k on
def qqu:Int:=max (db s.ae (qqr p s k)) 0
def qqv:=decide (0<=db s.ae ((s.ab.getD k ao).aw.getD (zg p (s.ab.getD k ao)).b.toNat 0))
def qiq:=qqv p s k=true
def se:=qiq p s k->qiq p s k
def Gx:Int:=↑(s.ae.getD (qqu p s k).toNat az).bO.length
def Re:=(zg p (s.ab.getD k ao)).op==22
end
theorem al1 (e:List Int) (f:bI p) (hs:cw s) (i:ru s k) (u:ec p s.l5) (hl:e.length<=1000000):KN 119 [nQ s k,vP p,a8 e] (.bool (fu p s k e)):=by
 refine Kn (nn p s k aW 112 λ_=>none) func119 (KN 125 [Wa s k] (AV.av [AV.mc zk (ak (s.ab.getD k ao)),AV.mc c7 (aA (s.ae.getD k az))])/\KN 177 [AV.mc z7 (ah p),AV.mc zk (ak (s.ab.getD k ao))] (AV.av [AV.mc zy (k8 (zg p (s.ab.getD k ao))),AV.bool (cm p (s.ab.getD k ao))])/\Z (!cm p (s.ab.getD k ao)) (false=fu p s k e) (qqq p s k/\qqq p s k/\qqq p s k/\Z (Ag p s k) (true=fu p s k e) (Z (TY p s k) (KN 179 [Wa s k,d9 (zg p (s.ab.getD k ao)).ii] (AV.av [Om p s k,d9 (fm s k (zg p (s.ab.getD k ao)).ii).snd])/\HI p s k/\KN 180 (d9 (zg p (s.ab.getD k ao)).fn::Om p s k::GI p s k) (AV.av [d9 (I0 p s k),d9 (NC p s k)])/\Kb p s k/\Kb p s k/\(DR p s k&&I0 p s k !=0)=fu p s k e) (KN 181 [d9 (zg p (s.ab.getD k ao)).op] (AV.bool (nN (zg p (s.ab.getD k ao)).op))/\XY p s k/\XY p s k/\(qqs p s k->aH ↑(s.ae.getD k az).bO.length)/\XY p s k/\XY p s k/\Vz p s k/\Vz p s k/\Vz p s k/\(qqt p s k->KN 53 [a8 e,d9 (s.ab.getD k ao).id] (AV.bool (Sh s k e)))/\Vz p s k/\Vz p s k/\Z (Sg p s k e) (false=fu p s k e) (Z (Re p s k) (HI p s k/\KN 132 (aY s.ae::GI p s k) (AV.av [d9 (qqu p s k),AV.bool (qqv p s k)])/\se p s k/\se p s k/\se p s k/\se p s k/\(qiq p s k->af (qqu p s k) s.ae.length)/\se p s k/\se p s k/\se p s k/\(qiq p s k->Gx p s k<=9223372036854775807)/\se p s k/\se p s k/\(qqv p s k&&Gx p s k==0)=fu p s k e) (true=fu p s k e)))))) ?_;try delta Z aH Wa WX G6 qqq Ag Xf Om HI qqr GI IY I0 NC DR Jc Kb TY qqs XY Kx qqt Vz Sh Sg qqu qqv qiq se Gx Re
 simp only[SZ];simp only[oR];have h1:=hs.nw k;have h2:=hs.ae;refine⟨ZX s k i,ztj p _ f (hs.ok k),λh=>?_,λh=>?_⟩;unfold fu;rw[x9 h];have⟨k1,m⟩:=Ud f (hs.ok k) u h;rw[<- m]at k1;have hS:=zxm s k (zg p (s.ab.getD k ao)).ii hs i;have y:=zlm s.ae ((s.ab.getD k ao).aw.getD (zg p (s.ab.getD k ao)).b.toNat 0);refine⟨λh8=>?_,λh8=>⟨λh14=>⟨hS,k1.b O,sW _ _ _, ?_⟩,λh14=>⟨z105 _,λ_=>O,λ_=>Ny _ _ O,λhd=>?_,λhd=>⟨λh22=>⟨k1.b O,zql _ _ h2,λh=>O,λh=>by have :=hs.nw (max (db s.ae ((s.ab.getD k ao).aw.getD (zg p (s.ab.getD k ao)).b.toNat 0)) 0).toNat;omega, ?_⟩,λh22=>?_⟩⟩⟩⟩;unfold fu;rw[x8 (by rw[h];simp),x9 h8];unfold fu;rw[x8 (by rw[h];simp),x8 O,x9 h14];rfl;unfold fu;rw[x8 (by rw[h];simp),x8 O,x8 h14,x9];grind;all_goals
  unfold fu;rw[x8 (by rw[h];simp),x8 O,x8 h14,x8 (by
   rw[xk,xa,xd,xi];rintro(⟨q1,x⟩ |q);grind;rw[hd.2]at q;cases q)]
 rw[x9 h22];show _=(decide (0<=db s.ae ((s.ab.getD k ao).aw.getD (zg p (s.ab.getD k ao)).b.toNat 0))&&_);by_cases j:0<=db s.ae ((s.ab.getD k ao).aw.getD (zg p (s.ab.getD k ao)).b.toNat 0);rw[yc j];congr 1;rw[wk,xo,xo];unfold bp;omega;rw[jn j,je,je];rw[x8 h22]
theorem ajq (j:0<i) (f:i<=l.length):dt l (i - 1)=dt l i++(if 0<(l.getD (i - 1) az).bO.length then [m6 (l.getD (i - 1) az).ay]else []):=by
 unfold dt;have e:l.drop (i - 1)=l.getD (i - 1) az::l.drop i:=by
  rw[List.drop_eq_getElem_cons (show i - 1<l.length by omega),show i - 1+1=i by omega,x7,xe (show i - 1<l.length by omega)];rfl
 by_cases h:0<(l.getD (i - 1) az).bO.length;grind;grind
theorem z9m:(dt l i).length<=l.length:=by grind[dt]
theorem zxo:dt l l.length=[]:=by unfold dt;rw[List.drop_length];rfl
theorem zbd:(ap4 p s i).length<=i:=by grind[ap4]
theorem zxp:ap4 p s (i+1)=ap4 p s i++(if fu p s i (cX p (bN s))then [(s.ab.getD i ao).id]else []):=by
 unfold ap4;rw[List.range_succ,List.filter_append,List.map_append];simp[List.filter_cons];split<;>rfl
theorem ahe {p:ai} {s:ja} {i:Nat} (h:fu p s i (cX p (bN s))):iQ p s (i+1)=iQ p s i++[(s.ab.getD i ao).id]:=by
 unfold iQ;rw[zxp,x9 h,wq]
theorem ahm {p:ai} {s:ja} {i:Nat} (h:fu p s i (cX p (bN s))=false):iQ p s (i+1)=iQ p s i:=by grind[iQ,zxp]
theorem zjf:(cX p s).length<=s.ab.length:=by grind[cX]
section
variable (s:ja)
def zJ:Int:=↑s.ae.length - 1
variable (x1:Nat)
def NJ:=(dt s.ae x1).length=0
def HW:=af (qg x1) s.ae.length
def Jd:bR:=s.ae.getD (qg x1).toNat az
def Sc:Int:=(Jd s x1).ay
def EC:=d9 (m6 (Sc s x1))
def qir:Nat:=(dt s.ae x1).length+1
variable (x0:Nat)
def Pk:=aM j6 (sR x0)
variable (x2:Nat)
def Ju:=qir s x1=(dt s.ae x2).length
end
section
variable (x0:Nat) (x1:Nat)
def An:=sR x0=qg x1
end
section
variable (s:ja) (x1:Nat) (x2:Nat)
def TA:=d9 ((dt s.ae x1).getD x2 0)
def E6:=decide ((0:Int)<↑(s.ae.getD (↑x1 - (1:Int)).toNat az).bO.length)
def OD:=(dt s.ae x1).length=(dt s.ae x2).length
end
section
variable (p:ai) (s:ja) (x2:Nat) (x3:Nat)
def Rg:=(dt s.ae x2).length=(iQ p s x3).length
def Ui:=d9 ((iQ p s x2).getD x3 0)
def qis:Nat:=(iQ p s x2).length+1
def P9:=qis p s x2=(iQ p s x3).length
def NS:=(iQ p s x2).length=(iQ p s x3).length
end
theorem ab5 (u:bI p) (hs:cw s) {b:Int} (E:cQ p b s):KN 54 [vP p,cx s] (a8 (cL p s)):=by
 refine Kn (nn p s 0 aW 62 (al3 p s)) func54 (KN 117 [AV.mc jP (AV.agg [ze s,d9 (0:Int)])] (mF s)/\KN 116 [AV.mc z7 (ah p),mF s] (a8 (cX p (bN s)))/\aH ↑s.ae.length/\aM j6 (zJ s)/\(∃ i,i<=s.ae.length/\(LT (a8 (cX p (bN s)))/\NJ s i/\zJ s=qg i)/\LT (ah p)/\LT (ze s)/\NJ s i)/\∀ i:Nat,i<=s.ae.length->Z (sL i) (HW s i/\aH ↑(Jd s i).bO.length/\Z (E6 s i) (HW s i/\KN 118 [d9 (Sc s i)] (EC s i)/\qr/\(RR (dt s.ae i).length/\↑(qir s i)*↑(8:Nat)<=(140737488355328:Int)/\qir s i<=9223372036854775807)/\qf/\Pk i/\(∃ j,j<=s.ae.length/\j<i/\(LT (a8 (cX p (bN s)))/\Ju s i j/\An i j)/\LT (ah p)/\LT (ze s)/\Ju s i j/\∀ (i_1:Nat),i_1<qir s i->(if i_1<(dt s.ae i).length then TA s i i_1 else(mI.set 0 (aq (EC s i))).getD (i_1 - (dt s.ae i).length) AV.any)=TA s j i_1)) (Pk i/\(∃ j,j<=s.ae.length/\j<i/\(LT (a8 (cX p (bN s)))/\OD s i j/\An i j)/\LT (ah p)/\LT (ze s)/\OD s i j/\∀ (i_1:Nat),i_1<(dt s.ae i).length->TA s i i_1=TA s j i_1))) (aH ↑s.ab.length/\(∃ i_1,i_1<=s.ab.length/\(LT (a8 (cX p (bN s)))/\Rg p s i i_1/\LT (aF s.ab)/\RR (↑s.ab.length:Int)/\0=(↑i_1:Int))/\LT (ah p)/\LT (ze s)/\Rg p s i i_1/\∀ (f:Nat),f<(dt s.ae i).length->TA s i f=Ui p s i_1 f)/\∀ (i:Nat),i<=s.ab.length->Z (qc s i) (af (↑i:Int) s.ab.length/\KN 119 [AV.mc jP (AV.agg [ze s,d9 (↑i:Int)]),AV.mc z7 (ah p),a8 (cX p (bN s))] (AV.bool (fu p s (↑i:Int).toNat (cX p (bN s))))/\Z (fu p s (↑i:Int).toNat (cX p (bN s))) (qr/\(RR (iQ p s i).length/\(↑(qis p s i):Int)*(↑(8:Nat):Int)<=(140737488355328:Int)/\qis p s i<=(9223372036854775807:Nat))/\qf/\qa i/\∃ j,j<=s.ab.length/\lr s i j/\(LT (a8 (cX p (bN s)))/\P9 p s i j/\VC s i j)/\LT (ah p)/\LT (ze s)/\P9 p s i j/\∀ (i_1:Nat),i_1<qis p s i->(if i_1<(iQ p s i).length then Ui p s i i_1 else(mI.set (0:Nat) (aq (d9 (s.ab.getD (↑i:Int).toNat ao).id))).getD (i_1 - (iQ p s i).length) AV.any)=Ui p s j i_1) (qa i/\∃ j,j<=s.ab.length/\lr s i j/\(LT (a8 (cX p (bN s)))/\NS p s i j/\VC s i j)/\LT (ah p)/\LT (ze s)/\NS p s i j/\∀ (i_1:Nat),i_1<(iQ p s i).length->Ui p s i i_1=Ui p s j i_1)) ((iQ p s i).length<=(iQ p s i).length/\LS (a8 (iQ p s i)) (a8 (cL p s))))) ?_;try delta Z aH mF zJ NJ qg HW Jd Sc EC qr qir qf sR Pk Ju An TA mI E6 OD sL Rg Ui qis q9 qa lr P9 VC NS qc
 simp only[SZ];have h1:=hs.ab;have h2:=hs.ae;have⟨y,v2,x⟩:=z12.1 E;have hon:=zjf p (bN s);have hon:(cX p (bN s)).length<=s.ab.length:=hon;refine⟨Pn s 0,acq p s u hs,O,f9,⟨s.ae.length,xm _,⟨by rw[zxo];rfl,rfl⟩,by rw[zxo];rfl⟩,λi hi=>⟨λh0=>?_,λh0=>?_⟩⟩;have e1:((i:Int) - 1).toNat=i - 1:=O;have e2:(i:Int) - 1 - 1=((i - 1:Nat):Int) - 1:=O;have hl:=z9m s.ae i;have hb:=nM.1 (x (i - 1) O).2;have H:=((z21 _).1 hb.1).1;have hid:=(hs.ok (i - 1)).id;have k:=ajq s.ae i O hi;rw[e1,e2];refine⟨⟨O,O⟩,by have :=hs.nw (i - 1);omega,λhg=>⟨⟨O,O⟩,aaa _ ⟨O,O⟩,am,⟨O,O⟩,f9,i - 1,O,O, ?_⟩,λhg=>⟨f9,i - 1,O,O, ?_⟩⟩;rw[k,x9 O];exact⟨⟨ap,rfl⟩,ap,λj hj=>kI _ _ j hj⟩;grind;have e0:i=0:=O;subst e0;have m:iQ p s 0=dt s.ae 0:=by unfold iQ ap4;simp
 refine⟨O,⟨0,O,by rw[m];exact⟨rfl,rfl⟩,by rw[m],λ_ _=>by rw[m]⟩,λi hi=>⟨λhlt=>?_,λhge=>?_⟩⟩;have hl:(iQ p s i).length<=2*s.ab.length:=by
  unfold iQ;rw[xl];have q1:=z9m s.ae 0;have F:=zbd p s i;omega
 refine⟨hlt,al1 p s i _ u hs ⟨hlt,O⟩ y O,λh=>⟨am,⟨O,O⟩,f9,i+1,O,O, ?_⟩,λh=>⟨f9,i+1,O,O, ?_⟩⟩;rw[ahe h];exact⟨⟨ap,O⟩,ap,λj hj=>kI _ _ j hj⟩;rw[ahm h];exact⟨⟨rfl,O⟩,rfl,λ_ _=>rfl⟩;have e:iQ p s i=cL p s:=by unfold iQ cL;rw[show i=s.ab.length from O]
 rw[e];exact⟨rfl,λ_ _=>rfl⟩
theorem abg (f:bI p) (hs:SOd p s):KN 22 [vP p,cx s] (a8 (cI p s)):=by
 refine Kn (nn p s 0 aW 12 λ_=>none) func22 (KN 52 [AV.mc z7 (ah p),d9 (32:Int),AV.mc aI (ze s)] (AV.bool (cQ p (32:Int) s))/\Z (!cQ p 32 s) ((cI p s).length=0) (KN 54 [AV.mc z7 (ah p),AV.mc aI (ze s)] (a8 (cL p s))/\LS (a8 (cL p s)) (a8 (cI p s)))) ?_;delta Z;simp only[SZ];refine⟨z124 p 32 s f hs.wo,λh=>?_,λh=>⟨ab5 p s f (hs.s _ h) h, ?_⟩⟩;unfold cI;rw[x8 (by rw[h];simp)];rfl;have e:cI p s=cL p s:=by unfold cI;rw[x9 h]
 grind
section
variable (s:ja) (a:Int)
def qqw:=AV.mc jP (AV.agg [ze s,d9 (max (aS s.ab (aX a)) 0)])
def WJ:=!me s a
end
section
variable (p:ai) (s:ja) (a:Int)
def Sm:=bX (bU p s (aS s.ab (aX a)).toNat).fst
end
theorem zxq (hp:bI p) (hs:cw s) {b:Int} (hv:cQ p b s) (ha:jY a):KN 56 [vP p,cx s,d9 a] (.av [dh (zu p s a).1, .bool (zu p s a).2]):=by
 refine Kn (nn p s (aS s.ab (aX a)).toNat aW 30 λ_=>none) func56 (KN 55 [AV.mc aI (ze s),d9 a] (AV.av [qqw s a,AV.bool (me s a)])/\Z (WJ s a) ((0=(zu p s a).fst.aC/\0=(zu p s a).fst.ly/\0=(zu p s a).fst.kind/\0=(zu p s a).fst.ii/\0=(zu p s a).fst.k7/\0=(zu p s a).fst.entry/\0=(zu p s a).fst.ord/\0=(zu p s a).fst.read/\0=(zu p s a).fst.i4)/\false=(zu p s a).snd) (KN 59 [d9 a] (AV.bool (mi a))/\Z (mi a) (KN 122 [qqw s a] (AV.av [AV.mc bF (bX (cg s (aS s.ab (aX a)).toNat).fst),AV.bool (cg s (aS s.ab (aX a)).toNat).snd])/\LS (bX (cg s (aS s.ab (aX a)).toNat).fst) (bX (zu p s a).fst)/\(cg s (aS s.ab (aX a)).toNat).snd=(zu p s a).snd) (KN 123 [qqw s a,AV.mc z7 (ah p)] (AV.av [AV.mc bF (Sm p s a),AV.bool (bU p s (aS s.ab (aX a)).toNat).snd])/\LS (Sm p s a) (bX (zu p s a).fst)/\(bU p s (aS s.ab (aX a)).toNat).snd=(zu p s a).snd))) ?_;try delta Z qqw me WJ mi Sm
 simp only[SZ];have⟨v1,v2,v3⟩:=z12.1 hv;have hf:=YW s.ab (aX a);refine⟨ab2 s a hs ha,λh=>?_,λh=>?_⟩;have e:zu p s a=(aW,false):=by unfold zu;rw[x9 O]
 rw[e];exact⟨⟨rfl,rfl,rfl,rfl,rfl,rfl,rfl,rfl,rfl⟩,rfl⟩;have hk:ru s (aS s.ab (aX a)).toNat:=⟨O,O⟩;have hb:=nM.1 (v3 (aS s.ab (aX a)).toNat O).2;have hr:=((z21 _).1 hb.1).1;have e0:max (aS s.ab (aX a)) 0=(((aS s.ab (aX a)).toNat:Nat):Int):=O;rw[e0];refine⟨aib a,λh0=>⟨aff s _ hs hk O, ?_⟩,λh0=>⟨aej p s _ hp hs hk v1 hb.1, ?_⟩⟩;have e:zu p s a=cg s (aS s.ab (aX a)).toNat:=by unfold zu;rw[x8 O,x9 h0]
 rw[e];exact⟨⟨rfl,rfl,rfl,rfl,rfl,rfl,rfl,rfl,rfl⟩,rfl⟩;have e:zu p s a=bU p s (aS s.ab (aX a)).toNat:=by unfold zu;rw[x8 O,x8 h0]
 rw[e];exact⟨⟨rfl,rfl,rfl,rfl,rfl,rfl,rfl,rfl,rfl⟩,rfl⟩
theorem zqt (f:bI p) (hs:SOd p s) (i:jY a):KN 26 [vP p,cx s,d9 a] (.av [dh (zf p s a).1, .bool (zf p s a).2]):=by
 refine Kn (nn p s 0 aW 19 λ_=>none) func26 (KN 52 [AV.mc z7 (ah p),d9 (32:Int),AV.mc aI (ze s)] (AV.bool (cQ p (32:Int) s))/\Z (!cQ p 32 s) ((0=(zf p s a).fst.aC/\0=(zf p s a).fst.ly/\0=(zf p s a).fst.kind/\0=(zf p s a).fst.ii/\0=(zf p s a).fst.k7/\0=(zf p s a).fst.entry/\0=(zf p s a).fst.ord/\0=(zf p s a).fst.read/\0=(zf p s a).fst.i4)/\false=(zf p s a).snd) (KN 56 [AV.mc z7 (ah p),AV.mc aI (ze s),d9 a] (AV.av [AV.mc bF (bX (zu p s a).fst),AV.bool (zu p s a).snd])/\LS (bX (zu p s a).fst) (bX (zf p s a).fst)/\(zu p s a).snd=(zf p s a).snd)) ?_;delta Z;simp only[SZ];refine⟨z124 p 32 s f hs.wo,λh=>?_,λh=>⟨zxq p s a f (hs.s _ h) h i, ?_⟩⟩;have e:zf p s a=(aW,false):=by unfold zf;rw[x9 h]
 rw[e];exact⟨⟨rfl,rfl,rfl,rfl,rfl,rfl,rfl,rfl,rfl⟩,rfl⟩;have e:zf p s a=zu p s a:=by unfold zf;rw[x8 (by rw[h];simp)]
 rw[e];exact⟨⟨rfl,rfl,rfl,rfl,rfl,rfl,rfl,rfl,rfl⟩,rfl⟩
theorem aqc {α:Type} (enc:α ->AV) (d:α) (l:List α) (k:Nat) (x:α) (j:Nat) (f:j<l.length):(if j=k then enc x else enc (l.getD j d))=enc ((l.set k x).getD j d):=by
 rw[x7 (l:=l.set _ _),gq];by_cases e:k=j;grind;rw[x8 (λh=>e h.symm),x8 e,x7]
theorem rh:mt.ab.length=0/\(mt.l5.eA.length=0/\mt.l5.aa.length=0/\mt.l5.a6.length=0/\mt.l5.lT.length=0)/\mt.ae.length=0:=⟨rfl,df,rfl⟩
theorem YN:0=aW.aC/\0=aW.ly/\0=aW.kind/\0=aW.ii/\0=aW.k7/\0=aW.entry/\0=aW.ord/\0=aW.read/\0=aW.i4:=⟨rfl,rfl,rfl,rfl,rfl,rfl,rfl,rfl,rfl⟩
section
variable (s:ja) (k:Nat)
def PC:List AV:=[AV.mc c7 (aA (s.ae.getD k az))]
def aA8:=aA (bH (s.ae.getD k az)).fst
def Nj:cD×Int×Int:=(bH (s.ae.getD k az)).snd
def KT:Int×Int:=(Nj s k).snd
def Lz:Int:=(KT s k).snd
end
section
variable (p:ai) (b:Int) (s:ja) (k:Nat) (e:Ev)
def qit:=((dn p b s k e).fst.ab.length=0/\((dn p b s k e).fst.l5.eA.length=0/\(dn p b s k e).fst.l5.aa.length=0/\(dn p b s k e).fst.l5.a6.length=0/\(dn p b s k e).fst.l5.lT.length=0)/\(dn p b s k e).fst.ae.length=0)/\30=(dn p b s k e).snd
def ND:=Lz s k !=0
def OC:List AV:=[d9 e.ii,d9 e.i4]
def HZ:=(zr s.l5 e.ii e.i4).snd !=0
def Bx:=s.ae.length=(dn p b s k e).fst.ae.length
variable (x5:Nat)
def yJ:=aA ((dn p b s k e).fst.ae.getD x5 az)
def qqx:=0=(dn p b s k e).snd
def Ce:=aA (cq (s.ae.getD k az) e.ii e.i4).fst
def Ir:Int×Int:=(cq (s.ae.getD k az) e.ii e.i4).snd
def RK:Int:=(Ir s k e).snd
def Cb:=RK s k e !=0
def FF:=ak (cd p b (s.ab.getD k ao) e.read).fst
def Ms:Int:=(cd p b (s.ab.getD k ao) e.read).snd
def QK:=KN 129 [AV.mc z7 (ah p),d9 b,AV.mc zk (ak (s.ab.getD k ao)),d9 e.read] (AV.av [AV.mc zk (FF p b s k e),d9 (Ms p b s k e)])
def JC:=Ms p b s k e !=0
def EX:=JC p b s k e=true->qit p b s k e
def CB:=s.ab.length=(dn p b s k e).fst.ab.length/\∀ i:Nat,i<s.ab.length->(if i=(↑k:Int).toNat then FF p b s k e else ak (s.ab.getD i ao))=ak ((dn p b s k e).fst.ab.getD i ao)
def Rr:=LS (aj s.l5) (aj (dn p b s k e).fst.l5)
def zA:=JC p b s k e=false
end
theorem ac7 (e:Ev) (m:bI p) (hs:cw s) (f:ru s k):KN 57 [nQ s k,vP p,d9 b,dh e] (.av [cx (dn p b s k e).1,d9 (dn p b s k e).2]):=by
 refine Kn (nn p s k e 107 λ_=>none) func57 ((KF (124:Nat) [AV.mc aI (ze s)] (AV.mc aI (AV.agg [AV.own (0:Nat) s.ab.length,aj s.l5,AV.own (1:Nat) s.ae.length])) [ar.row (51:TypeId) zk s.ab.length λi=>ak (s.ab.getD i ao),ar.row (68:TypeId) c7 s.ae.length λi=>aA (s.ae.getD i az)])/\KN 125 [AV.mc jP (AV.agg [ze s,d9 ↑k])] (AV.av (AV.mc zk (ak (s.ab.getD k ao))::PC s k))/\Z (e.kind==4) (KN 126 (PC s k) (AV.av [AV.mc c7 (aA8 s k),AV.mc dz (cF (Nj s k).fst),d9 (KT s k).fst,d9 (Lz s k)])/\Z (ND s k) (qit p b s k e) (KN 127 (AV.mc zm (aj s.l5)::OC e) (AV.av [AV.mc zm (aj (zr s.l5 e.ii e.i4).fst),d9 (zr s.l5 e.ii e.i4).snd])/\Z (HZ s e) (qit p b s k e) (af (↑k) s.ae.length/\(↑k:Int).toNat<s.ae.length/\s.ab.length<=s.ab.length/\s.ae.length<=s.ae.length/\(LS (aF s.ab) (aF (dn p b s k e).fst.ab)/\LS (aj (zr s.l5 e.ii e.i4).fst) (aj (dn p b s k e).fst.l5)/\Bx p b s k e/\∀ i:Nat,i<s.ae.length->(if i=(↑k:Int).toNat then aA8 s k else aA (s.ae.getD i az))=yJ p b s k e i)/\qqx p b s k e))) (Z (e.kind==3) (KN 128 (AV.mc c7 (aA (s.ae.getD k az))::OC e) (AV.av [AV.mc c7 (Ce s k e),d9 (Ir s k e).fst,d9 (RK s k e)])/\Z (Cb s k e) (qit p b s k e) (af (↑k) s.ae.length/\(↑k:Int).toNat<s.ae.length/\QK p b s k e/\EX p b s k e/\(zA p b s k e->af (↑k) s.ab.length/\(↑k:Int).toNat<s.ab.length/\s.ab.length<=s.ab.length/\s.ae.length<=s.ae.length/\(CB p b s k e/\Rr p b s k e/\Bx p b s k e/\∀ i:Nat,i<s.ae.length->(if i=(↑k:Int).toNat then Ce s k e else aA (s.ae.getD i az))=yJ p b s k e i)/\qqx p b s k e))) (QK p b s k e/\EX p b s k e/\(zA p b s k e->af (↑k) s.ab.length/\(↑k:Int).toNat<s.ab.length/\s.ab.length<=s.ab.length/\s.ae.length<=s.ae.length/\(CB p b s k e/\Rr p b s k e/\LS (aY s.ae) (aY (dn p b s k e).fst.ae))/\qqx p b s k e)))) ?_;try delta Z PC aA8 Nj KT Lz qit ND OC HZ Bx yJ qqx Ce Ir RK Cb FF Ms QK JC EX CB Rr zA
 simp only[SZ];have k1:=f.1;have k2:=f.2;have hC:=λr=>z117 p b (s.ab.getD k ao) r m (hs.ok k);refine⟨agf s hs,ZX s k f,λh4=>⟨ad2 _ (hs.nw k),λh=>?_,λh=>⟨zjb _ _ _ hs.l5,λh'=>?_,λh'=>⟨k2,k2, ?_⟩⟩⟩,λh4=>⟨λh3=>⟨aji _ _ _ (hs.nw k),λh=>?_,λh=>⟨k2,k2,hC _,λh'=>?_,λh'=>⟨k1,k1, ?_⟩⟩⟩,λh3=>⟨hC _,λh=>?_,λh=>⟨k1,k1, ?_⟩⟩⟩⟩;have e:dn p b s k e=(mt,30):=by unfold dn;rw[x9 h4,x9 h]
 rw[e];exact⟨rh,rfl⟩;have e:dn p b s k e=(mt,30):=by unfold dn;rw[x9 h4,x8 O,x9 h']
 rw[e];exact⟨rh,rfl⟩;have e:dn p b s k e=({s with ae:=s.ae.set k (bH (s.ae.getD k az)).1,l5:=(zr s.l5 e.ii e.i4).1},0):=by unfold dn;rw[x9 h4,x8 O,x8 O]
 rw[e];exact⟨⟨⟨rfl,λ_ _=>rfl⟩,⟨⟨rfl,λ_ _=>rfl⟩,⟨rfl,λ_ _=>rfl⟩,⟨rfl,λ_ _=>rfl⟩,rfl,λ_ _=>rfl⟩,ap,λj hj=>aqc aA az _ _ _ j hj⟩,rfl⟩;have e:dn p b s k e=(mt,30):=by unfold dn;rw[x8 h4,x9 h3,x9 h]
 rw[e];exact⟨rh,rfl⟩;have e:dn p b s k e=(mt,30):=by unfold dn;rw[x8 h4,x9 h3,x8 O,x9 h']
 rw[e];exact⟨rh,rfl⟩;have e:dn p b s k e=({s with ae:=s.ae.set k (cq (s.ae.getD k az) e.ii e.i4).1,ab:=s.ab.set k (cd p b (s.ab.getD k ao) e.read).1},0):=by unfold dn;rw[x8 h4,x9 h3,x8 O,x8 O]
 rw[e];exact⟨⟨⟨ap,λj hj=>aqc ak ao _ _ _ j hj⟩,⟨⟨rfl,λ_ _=>rfl⟩,⟨rfl,λ_ _=>rfl⟩,⟨rfl,λ_ _=>rfl⟩,rfl,λ_ _=>rfl⟩,ap,λj hj=>aqc aA az _ _ _ j hj⟩,rfl⟩;have e:dn p b s k e=(mt,30):=by unfold dn;rw[x8 h4,x8 h3,x9 h]
 rw[e];exact⟨rh,rfl⟩;have e:dn p b s k e=({s with ab:=s.ab.set k (cd p b (s.ab.getD k ao) e.read).1},0):=by unfold dn;rw[x8 h4,x8 h3,x8 O]
 rw[e];exact⟨⟨⟨ap,λj hj=>aqc ak ao _ _ _ j hj⟩,⟨⟨rfl,λ_ _=>rfl⟩,⟨rfl,λ_ _=>rfl⟩,⟨rfl,λ_ _=>rfl⟩,rfl,λ_ _=>rfl⟩,rfl,λ_ _=>rfl⟩,rfl⟩
section
variable (p:ai) (b:Int) (s:ja) (a:Int)
def Vi:=(zt p b s a).fst.ab.length=0/\((zt p b s a).fst.l5.eA.length=0/\(zt p b s a).fst.l5.aa.length=0/\(zt p b s a).fst.l5.a6.length=0/\(zt p b s a).fst.l5.lT.length=0)/\(zt p b s a).fst.ae.length=0
def qp:Ev:=(zt p b s a).snd.fst
def q26:=0=(qp p b s a).aC/\0=(qp p b s a).ly/\0=(qp p b s a).kind/\0=(qp p b s a).ii/\0=(qp p b s a).k7/\0=(qp p b s a).entry/\0=(qp p b s a).ord/\0=(qp p b s a).read/\0=(qp p b s a).i4
def qy:Int:=(zt p b s a).snd.snd
def T8:=(zc p).fst !=0
def K7:=aQ (zw (cL p s).length λi=>d9 ((cL p s).getD i 0)) a
def KE:=!K7 p s a
def uM:List AV:=[AV.mc aI (ze s),d9 a]
def qqy:=AV.mc jP (AV.agg [ze s,d9 (qx s a)])
variable (x4:Bool)
def Tk:=((zc p).fst=0/\(1<=b/\b<=32)/\cQ p b s=true/\aQ (cL p s) a=true)/\x4=fj (zu p s a).fst
def qqz:=(zu p s a).fst.kind==1
def YD:=LT (ah p)/\(bt/\(bt/\bt/\bt/\bt)/\bt)/\(RR (0:Int)/\RR (0:Int)/\RR (0:Int)/\RR (0:Int)/\RR (0:Int)/\RR (0:Int)/\RR (0:Int)/\RR (0:Int)/\RR (0:Int))/\(LT (ze s)/\RR (qx s a))/\LT (bX (zu p s a).fst)
def qr0:=(zu p s a).fst.kind==8
def qr1:=(zu p s a).fst.kind==3
def Dm:ja×Int:=dn p b s (aS s.ab (aX a)).toNat (zu p s a).fst
def NB:=ze (Dm p b s a).fst
def qr2:Int:=(Dm p b s a).snd
def Oa:=qr2 p b s a !=0
def Rz:=bX (qp p b s a)
def A0:=bX (dH p b s a).snd.fst
def Vj:Int:=(dH p b s a).snd.snd
end
theorem zqu (f:bI p) (hs:SOd p s) (k:jY a) (hn:s.ab.length<=400000) (m:(zc p).1=0 ->1<=b ->b<=32 ->cQ p b s=true ->aQ (cL p s) a=true ->fj (zu p s a).1=false ->KN 58 [nQ s (max (aS s.ab (aX a)) 0),vP p,d9 b,d9 a] (.av [cx (dH p b s a).1,dh (dH p b s a).2.1,d9 (dH p b s a).2.2])):KN 21 [vP p,d9 b,cx s,d9 a] (.av [cx (zt p b s a).1,dh (zt p b s a).2.1,d9 (zt p b s a).2.2]):=by
 refine Kn {nn p s (aS s.ab (aX a)).toNat (zu p s a).1 97 (λ_=>none)with cut:=aje p b s a} func21 (KN 51 [AV.mc z7 (ah p)] (AV.av [d9 (zc p).fst,d9 (zc p).snd.fst,d9 (zc p).snd.snd])/\Z (T8 p) (Vi p b s a/\q26 p b s a/\(zc p).fst=qy p b s a) (q13 b/\q13 b/\Z (l7 b) (Vi p b s a/\q26 p b s a/\2=qy p b s a) (KN 52 [AV.mc z7 (ah p),d9 b,AV.mc aI (ze s)] (AV.bool (cQ p b s))/\Z (!cQ p b s) (Vi p b s a/\q26 p b s a/\1=qy p b s a) (KN 54 [AV.mc z7 (ah p),AV.mc aI (ze s)] (a8 (cL p s))/\KN 53 [a8 (cL p s),d9 a] (AV.bool (K7 p s a))/\Z (KE p s a) (Vi p b s a/\q26 p b s a/\19=qy p b s a) (KN 55 (uM s a) (AV.av [qqy s a,AV.bool (decide ((0:Int)<=aS s.ab (aX a)))])/\KN 56 (AV.mc z7 (ah p)::uM s a) (AV.av [AV.mc bF (bX (zu p s a).fst),AV.bool (zu p s a).snd])/\(Z (qqz p s a) (∃ j,Tk p b s a j/\(RR b/\RR a/\qqz p s a=j)/\YD p s a) (Z (qr0 p s a) (∃ j,Tk p b s a j/\(RR b/\RR a/\qr0 p s a=j)/\YD p s a) (Z (qr1 p s a) (∃ j,Tk p b s a j/\(RR b/\RR a/\qr1 p s a=j)/\YD p s a) (∃ j,Tk p b s a j/\(RR b/\RR a/\((zu p s a).fst.kind==4)=j)/\YD p s a))))/\∀ i:Bool,Tk p b s a i->Z i (KN 57 [qqy s a,AV.mc z7 (ah p),d9 b,AV.mc bF (bX (zu p s a).fst)] (AV.av [AV.mc aI (NB p b s a),d9 (qr2 p b s a)])/\Z (Oa p b s a) (Vi p b s a/\q26 p b s a/\qr2 p b s a=qy p b s a) (LS (NB p b s a) (ze (zt p b s a).fst)/\LS (bX (zu p s a).fst) (Rz p b s a)/\0=qy p b s a)) (KN 58 [qqy s a,AV.mc z7 (ah p),d9 b,d9 a] (AV.av [AV.mc aI (ze (dH p b s a).fst),AV.mc bF (A0 p b s a),d9 (Vj p b s a)])/\LS (ze (dH p b s a).fst) (ze (zt p b s a).fst)/\LS (A0 p b s a) (Rz p b s a)/\Vj p b s a=qy p b s a)))))) ?_;try delta Z bt Vi qp q26 qy T8 wH wO q13 l7 K7 KE uM qx qqy Tk qqz YD qr0 qr1 Dm NB qr2 Oa Rz A0 Vj
 simp only[SZ];simp only[oR];have hon:cQ p b s=true ->(cL p s).length<=1000000:=by
  intro hv;have q1:=z9m s.ae 0;have q2:=zbd p s s.ab.length;have h2:=(z12.1 hv).2.1;unfold cL;rw[xl];omega
 refine⟨zcr p f,λh=>?_,λh=>⟨λhb=>?_,λhb=>⟨z124 p b s f hs.wo,λhv=>?_,λhv=>⟨ab5 p s f (hs.s _ hv) hv,Ny _ _ (by have :=hon hv;omega),λhc=>?_,λhc=>⟨ab2 s a (hs.s _ hv) k,zxq p s a f (hs.s _ hv) hv k, ?_, ?_⟩⟩⟩⟩⟩;have e:zt p b s a=(mt,aW,(zc p).1):=by unfold zt;rw[x9 h]
 rw[e];exact⟨rh,YN,rfl⟩;have e:zt p b s a=(mt,aW,2):=by unfold zt;rw[x8 O,x9 O]
 rw[e];exact⟨rh,YN,rfl⟩;have e:zt p b s a=(mt,aW,1):=by unfold zt;rw[x8 O,x8 O,x9 hv]
 rw[e];exact⟨rh,YN,rfl⟩;have e:zt p b s a=(mt,aW,19):=by unfold zt;rw[x8 O,x8 O,x8 (by rw[hv];simp),x9 hc]
 rw[e];exact⟨rh,YN,rfl⟩
 . have F:(zc p).1=0/\(1<=b/\b<=32)/\cQ p b s=true/\aQ (cL p s) a=true:=⟨h,O,hv,hc⟩;refine⟨λq1=>⟨_,⟨F,rfl⟩, ?_⟩,λq1=>⟨λq2=>⟨_,⟨F,rfl⟩, ?_⟩,λq2=>⟨λq3=>⟨_,⟨F,rfl⟩, ?_⟩,λq3=>⟨_,⟨F,rfl⟩, ?_⟩⟩⟩⟩;all_goals unfold fj
   rw[q1];rfl;rw[q2];rfl;rw[q3];rfl;rw[xp.2 q1,xp.2 q2,xp.2 q3,jb,jb,jb]
 rintro i ⟨_,rfl⟩;have hf:=YW s.ab (aX a);refine⟨λho=>?_,λho=>?_⟩;have⟨v1,v2,v3⟩:=z12.1 hv;have h0:0<=aS s.ab (aX a):=by
  refine we λhn=>?_;have e:zu p s a=(aW,false):=by unfold zu;rw[x9 O]
  rw[e]at ho;cases ho
 have hk:ru s (aS s.ab (aX a)).toNat:=⟨O,O⟩;have e0:max (aS s.ab (aX a)) 0=(((aS s.ab (aX a)).toNat:Nat):Int):=O;rw[e0];refine⟨ac7 p b s _ _ f (hs.s _ hv) hk,λhz=>?_,λhz=>?_⟩;have e:zt p b s a=(mt,aW,(dn p b s (aS s.ab (aX a)).toNat (zu p s a).1).2):=by unfold zt;rw[x8 O,x8 O,x8 (by rw[hv];simp),x8 (by rw[hc];simp),x9 ho,x9 hz]
 rw[e];exact⟨rh,YN,rfl⟩;have e:zt p b s a=((dn p b s (aS s.ab (aX a)).toNat (zu p s a).1).1,(zu p s a).1,0):=by unfold zt;rw[x8 O,x8 O,x8 (by rw[hv];simp),x8 (by rw[hc];simp),x9 ho,x8 O]
 rw[e];exact⟨⟨⟨rfl,λ_ _=>rfl⟩,⟨⟨rfl,λ_ _=>rfl⟩,⟨rfl,λ_ _=>rfl⟩,⟨rfl,λ_ _=>rfl⟩,rfl,λ_ _=>rfl⟩,rfl,λ_ _=>rfl⟩,⟨rfl,rfl,rfl,rfl,rfl,rfl,rfl,rfl,rfl⟩,rfl⟩;have e:zt p b s a=dH p b s a:=by unfold zt;rw[x8 O,x8 O,x8 (by rw[hv];simp),x8 (by rw[hc];simp),x8 (by rw[ho];simp)]
 rw[e];exact⟨m h O O hv hc ho,⟨⟨rfl,λ_ _=>rfl⟩,⟨⟨rfl,λ_ _=>rfl⟩,⟨rfl,λ_ _=>rfl⟩,⟨rfl,λ_ _=>rfl⟩,rfl,λ_ _=>rfl⟩,rfl,λ_ _=>rfl⟩,⟨rfl,rfl,rfl,rfl,rfl,rfl,rfl,rfl,rfl⟩,rfl⟩
def Rd (x y:AV):Prop:=∀ (w:World) (F:Nat ->Prop) (v:Value),au w F v x ->au w F v y
def dG (sh:ex) (x y:AV):Prop:=∀ j,j<sh.size ->Rd (z6 sh x j) (z6 sh y j)
theorem dG.refl (sh:ex) (x:AV):dG sh x x:=λ_ _ _ _ _ h=>h
theorem dG.ey {x y:AV} (i:x.b8=true) (f:y.b8=true) (h:Rd x y):dG .ey x y:=λj _ w F v e=>by
 have e:au w F v (eC x):=e
 show au w F v (eC y)
 unfold eC at *
 rw[i]at e
 rw[f]
 exact h w F v e
theorem dG.mc {x y:AV} (h:dG sh x y):Rd (.mc sh x) (.mc sh y):=λw F v f=>by
 cases f with
 |mc k _ _ hs i=>exact .mc k _ _ hs λj e=>h j e w F _ (i j e)
theorem dG.seq {n:Nat} {f g:Nat ->AV} (h:∀ i,i<n ->dG sh (f i) (g i)):Rd (.seq sh n f) (.seq sh n g):=λw F v m=>by
 cases m with
 |cH=>exact .cH _ _ _ _
 |seq g o n cap sh f y x u s r=>exact .seq g o n cap _ _ y x u s λi k j e=>h i k j e w F _ (r i k j e)
def zQ:List ex ->List AV ->List AV ->Prop
 | [],_,_=>True
 |s::ss,x::xs,y::ys=>dG s x y/\zQ ss xs ys
 |_,_,_=>False
theorem zqv:∀ (e:List ex) (xs f:List AV),zQ e xs f ->∀ j,j<ex.m4 e ->Rd (zh e xs j) (zh e f j)
 | [],_,_,_,j,i=>absurd i (jo j)
 |s::e,x::xs,y::f,h,j,i=>by
  simp[zh]
  by_cases q:j<s.size
  rw[x9 q,x9 q];exact h.1 j q
  rw[x8 q,x8 q];exact zqv e xs f h.2 _ (by simp[ex.m4]at i;omega)
 |_::_,[],_,h,_,_=>h.elim
 |_::_,_::_,[],h,_,_=>h.elim
theorem dG.agg {f:List ex} {xs e:List AV} (h:zQ f xs e):dG (.agg f) (.agg xs) (.agg e):=λj i=>zqv f xs e h j i
theorem Rd.known {P:Program} {G:List (Nat×AV)} {f:FuncId} {args:List AV} {sh:ex} {x y:AV} (h:mp P G f args (.mc sh x)) (i:dG sh x y):mp P G f args (.mc sh y):=
 h.imp λw F v e=>(dG.mc i) w F v e
theorem Pq {f g:Nat ->AV} (j:dG sh (f 0) (g 0)) (h:dG sh (f 1) (g 1)):dG .ey (.seq sh 2 f) (.seq sh 2 g):=
 dG.ey rfl rfl (dG.seq λi e=>match i,e with
  |0,_=>j
  |1,_=>h)
def aah (t:i5):Bool:=t.aw.length==8&&(decide (t.id<=9223372036854775807)&&(decide (t.pc<9223372036854775807)&&decide (t.ic.length<=1000)))
def Hm:Bool:=decide (s.ab.length<=1000)&&(s.ab.all aah&&(decide (s.l5.eA.length<=1000)&&(decide (s.l5.aa.length<=1000)&&(decide (s.l5.a6.length<=1000)&&(decide (s.l5.lT.length<=1000)&&(decide ((kw s.l5).length<=1000)&&(decide (s.ae.length<=1000)&&s.ae.all λb=>decide (b.bO.length<=1000))))))))
theorem adb {s:ja} (h:Hm s):cw s:=by
 unfold Hm at h;simp only[xa,xd]at h;have⟨F,i,E,y,x,u,m,k,f⟩:=h;refine⟨O,λj=>?_,⟨O,O,O,O,O⟩,O,λj=>?_⟩;by_cases e:j<s.ab.length;have :=(lO _ _ ao).1 i j e;unfold aah at this;simp at this;exact⟨this.1,this.2.1,this.2.2.1,this.2.2.2⟩;rw[x7,y9 O];exact ou;by_cases e:j<s.ae.length;have :=(lO _ _ az).1 f j e;simp only[xd]at this;omega;rw[x7,y9 O];exact xt _
structure alx (p:ai):Prop where
 eA:p.eA.length<=140737488355328
 aP:p.aP.length<=140737488355328
 kC:p.kC.length<=140737488355328
 ef:p.ef.length<=140737488355328
 ab:p.ab.length<=140737488355328
 code:∀ i,(p.ef.getD i bL).code.length<=140737488355328
structure NmP (p:ai):Prop where
 vn:∀ i,(p.eA.getD i dY).name.length<=140737488355328
 mn:∀ i,(p.aP.getD i []).length<=140737488355328
 cn:∀ i,(p.kC.getD i []).length<=140737488355328
 fn:∀ i,(p.ef.getD i bL).name.length<=140737488355328
end
end Go.Proofs.S25
