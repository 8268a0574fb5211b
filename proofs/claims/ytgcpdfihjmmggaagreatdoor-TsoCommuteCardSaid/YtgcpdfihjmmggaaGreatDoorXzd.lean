import Derived.Test.YtgcpdfihjmmggaaGreatDoorXzc
import Derived.Test.YtgcpdfihjmmggaaGreatDoorXzb
namespace Go.Proofs.S25
open Go Go.AV Tryz
open Go.IntKind renaming i64 -> j6
open Go.AV.ex (ey)
noncomputable section
variable (m:i8) (l:List i5) (p:ai) (b:Int) (s:ja) (t:i5) (i:aK) (k:Nat) (e:Ev)
theorem akl (l:List bR) (hl:l.length<=1000000) (k:∀ j,(l.getD j az).bO.length<=1000000):KF 65 [aY l] (.own 0 l.length) [Cg l]:=by
 refine nc (qJ 20 (ztu l)) func65 ((∃ i,i<=l.length/\(LT (aY l)/\T7 l i/\(0:Int)=↑i)/\T7 l i)/\∀ i:Nat,i<=l.length->aH ↑l.length/\Z (kW l i) (af (↑i) l.length/\KN 140 [AV.mc c7 (aA (l.getD (↑i:Int).toNat az))] (AV.mc c7 (AV.agg [d9 (l.getD (↑i:Int).toNat az).ay,d9 (l.getD (↑i:Int).toNat az).first,bY (dR dE (bY (l.getD (↑i:Int).toNat az).bO))]))/\1*c7.size<=16777216/\(RR (List.take i l).length/\↑(nZ l i)*↑(40:Nat)<=(140737488355328:Int)/\nZ l i<=9223372036854775807)/\1<=1/\aM j6 (q9 i)/\(∃ j,j<=l.length/\l.length - j<l.length - i/\(LT (aY l)/\uD l i j/\q9 i=(↑j:Int))/\uD l i j/\∀ (f:Nat),f<nZ l i->(if f<(List.take i l).length then aA ((List.take i l).getD f az)else((List.replicate 1 (AV.agg [d9 0,d9 0,AV.ax])).set 0 (aA (dB (aA (l.getD (↑i:Int).toNat az))))).getD (f - (List.take i l).length) AV.any)=aA ((List.take j l).getD f az))) ((List.take i l).length=l.length/\(List.take i l).length=l.length/\∀ (f:Nat),f<(List.take i l).length->aA ((List.take i l).getD f az)=aA (l.getD f az))) ?_;try delta Z aH T7 nZ q9 uD kW
 simp only[SZ];refine⟨⟨0,O,⟨rfl,rfl⟩,rfl⟩,λi r=>⟨O,λhlt=>?_,λhge=>?_⟩⟩;have m:(l.take i).length=i:=by rw[xr];omega
 have e:l.take (i+1)=l.take i++[l.getD i az]:=by
  simp_all
 refine⟨hlt,R9 _ (k i),am,O,f9,i+1,O,O, ?_, ?_⟩;rw[e];exact⟨ap,O⟩;rw[e];exact⟨ap,λj h=>nS aA _ az _ _ j h⟩;rw[xu O];exact⟨rfl,rfl,λ_ _=>rfl⟩
section
variable (l:List bR) (b:bR)
def qs2:Int:=max (db (dR dB (aY l)) b.ay) 0
def qs3:=decide (0<=db (dR dB (aY l)) b.ay)
def QW:=l.length<=(dR dB (aY l)).length
end
theorem ai5 (l:List bR) (b:bR) (hl:l.length<=1000000) (h:∀ j,(l.getD j az).bO.length<=1000000) (k:b.bO.length<=1000000):KN 74 [aY l,vB b] (aY (fc l b)):=by
 refine Kn (vPu 24 λ_=>none) func74 ((KF (65:Nat) [aY l] (AV.own (0:Nat) l.length) [ar.row (68:TypeId) c7 (dR dB (aY l)).length λi=>aA ((dR dB (aY l)).getD i az)])/\KN 64 [aY l,d9 b.ay] (AV.av [d9 (qs2 l b),AV.bool (qs3 l b)])/\Z (qs3 l b) (KN 140 [AV.mc c7 (aA b)] (AV.mc c7 (AV.agg [d9 b.ay,d9 b.first,bY (dR dE (bY b.bO))]))/\af (qs2 l b) l.length/\(qs2 l b).toNat<(dR dB (aY l)).length/\QW l/\l.length=(fc l b).length/\∀ i:Nat,i<l.length->(if i=(max (db (dR dB (aY l)) b.ay) 0).toNat then aA (dB (aA b))else aA ((dR dB (aY l)).getD i az))=aA ((fc l b).getD i az)) (QW l/\l.length=(fc l b).length/\∀ i:Nat,i<l.length->aA ((dR dB (aY l)).getD i az)=aA ((fc l b).getD i az))) ?_;try delta Z qs2 qs3 QW
 simp only[SZ];have hf:=zlm l b.ay;refine⟨akl l hl h,XX l _ hl,λh0=>?_,λh0=>?_⟩;have e:fc l b=l.set (db l b.ay).toNat b:=by unfold fc;rw[x9 h0]
 have em:max (db l b.ay) 0=db l b.ay:=O;rw[e,em];refine⟨R9 b k,⟨h0,hf.1⟩,O,ap,λi m=>?_⟩;by_cases f:i=(db l b.ay).toNat;grind;rw[x8 f,x7,x7,k9 O];have e:fc l b=l:=by unfold fc;rw[x8 h0]
 grind
def z1c:Ev:=
 if i.op=18 then(if t.gH=0 then {e with kind:=12,k7:=i.n}else if t.gH=1 then {e with kind:=13}else {e with kind:=9,ii:=i.n})
 else if i.op=19 then {e with kind:=14,read:=min (nK s.l5 i.ii) 1}else if i.op=20 then {e with kind:=15,read:=nK s.l5 i.ii}
 else if i.op=21 then {e with kind:=16,ii:=eU t}else if i.op=22 then {e with kind:=17,ii:=bp t i.b}else e
structure mA (m:i8) (i:aK):Prop where
 ok:VW m i
 form:ca m=true
 b:0<=i.b/\i.b<8
 c:0<=i.c/\i.c<8
 ord:¬ (i.op=8∨i.op=9∨i.op=10∨i.op=11∨i.op=12∨i.op=14) ->i.ord=0
 v:(i.op=8∨i.op=9∨i.op=10∨i.op=11∨i.op=12∨i.op=14) ->0<=i.ii/\i.ii<m.eA.length
theorem zjm {m:i8} (h:ca m) {x:Int} (f:0<=x/\x<m.eA.length):(fo m x).1=m.eA.getD x.toNat 0:=by
 have e:bC m x m.eA.length=0:=by grind[bC]
 unfold fo;rw[e,x8 (λh=>h rfl)]
def oR3:FuncId ->List AV ->Option AV
 |42,[.seq _ n f, .int _ v]=>some (.bool (aQ (zw n f) v))
 |156,[_, .int _ v]=>some (.bool (xT s.ab v))
 |92,[.bool b]=>some (d9 (ek b))
 |91,[.int _ f, .int _ a, .int _ b]=>some (d9 (app f a b).1)
 |94,[_,_,_, .mc _ e]=>some (dh (z1c s t i (jX e)))
 |45,[_,_,_]=>some (dh (m8 s t i))
 |90,[_,_,_]=>some (.bool (z20 s t i))
 |88,[_, .int _ b,_]=>some (.bool (rZ p b s.ab))
 |41,[_, .int _ b,_]=>some (.bool (bT p b s))
 |150,[.int _ f, .int _ a, .int _ b]=>some (.av [d9 (app f a b).1,d9 (app f a b).2])
 |44,[_, .int _ v]=>some (.av [d9 (max (aS s.ab v) 0), .bool (decide (0<=aS s.ab v))])
 |157,[_]=>some (.av [d9 (eU t), .bool (cA t)])
 |102,[_, .int _ b, .mc _ t]=>some (.bool (fq p b (dT t)))
 |93,[_, .int _ v]=>some (.bool (iJ s.l5 v))
 |89,[_,_]=>some (.bool (ec p s.l5))
 |87,[_]=>some (.bool ((zc p).1==0))
 |_,_=>none
noncomputable def tR (p:ai) (s:ja) (t:i5) (i:aK) (n:Nat) (I:Nat ->Option lm):bm:={C:=di n λ_ _=>false,CC:=mp prog GG,b9:=λ_ _=>oR3 p s t i,inv:=I}
def zrh (l:List Int) (v:Int) (k:Nat):Option lm:=match Nat.beq k 2 with
 |true=>iw l.length (λj=>⟨[(0,a8 l),(1,d9 v),(5,d9 j)],[]⟩) λj=>∀ n,n<j ->l.getD n 0≠v
 |false=>none
def Xt (i:aK):Prop:=i.op<=14/\i.op≠13
instance (i:aK):Decidable (Xt i):=by unfold Xt;infer_instance
def iH:Int:=if Xt i then m.eA.getD i.ii.toNat 0 else 0
def zym:Option lm:=match Nat.beq k 6 with
 |true=>some {ι:=Unit,S:=λ_=>⟨[(3, .ptr 3 []),(4, .ptr 4 []),(5, .ptr 5 []),(6, .ptr 6 []),(7, .ptr 7 []),(8,d9 (bp t i.b)),(9,d9 (bp t i.c)),(10,d9 (iH s.l5 i))],[(3,fb s),(4, .cell 51 zk (ak t)),(5, .cell 92 zy (k8 i)),(6,Wl aW),(7,Wl {iP t i with ord:=i.ord})]⟩,μ:=λ_=>0,ok:=λ_=>True}
 |false=>none
def zrk:Option lm:=match Nat.beq k 2 with
 |true=>iw s.ab.length (λj=>⟨[(1,d9 b),(2,aF s.ab),(3, .ptr 3 []),(7,d9 j)],[(3,iM p)]⟩) λj=>∀ n,n<j ->z5e p b s.ab n
 |false=>none
section
variable (l:List Int) (v:Int) (x2:Nat)
def qs4:=x2<=l.length/\∀ n:Nat,n<x2->l.getD n 0≠v
def UE:=RR l.length/\∀ (i:Nat),i<l.length->RR (d9 (l.getD i 0))
end
theorem zyq (l:List Int) (v:Int) (hl:l.length<=1000000):KN 42 [a8 l,d9 v] (.bool (aQ l v)):=by
 refine Kn (tR lX mt ao dL 18 (zrh l v)) func42 ((∃ i,qs4 l v i/\UE l/\RR v/\(0:Int)=↑i)/\∀ i:Nat,qs4 l v i->aH ↑l.length/\Z (qe l i) (af (↑i) l.length/\Z (sP l v i) (true=aQ l v) (aM j6 (q9 i)/\(∃ j,qs4 l v j/\l.length - j<l.length - i/\UE l/\RR v/\q9 i=↑j))) (false=aQ l v)) ?_;try delta Z aH qs4 UE sP q9 qe
 simp only[SZ];refine⟨⟨0,⟨O,λn k=>O⟩,rfl⟩,λi f=>⟨O,λhlt=>⟨hlt,λh=>?_,λh=>⟨f9,i+1,⟨O,λn k=>?_⟩,O,O⟩⟩,λhge=>?_⟩⟩;exact((tY l v).2 ⟨i,hlt,h.symm⟩).symm;by_cases e:n=i;grind;exact f.2 n O;apply eI;intro h;have⟨n,m,h2⟩:=(tY l v).1 h;exact f.2 n O h2.symm
section
variable (s:ja) (v:Int)
def qjc:=decide (0<=aS s.ab v)
def qjd:=qjc s v=true
def uU:=qjd s v->qjd s v
def Ao:=af (max (aS s.ab v) 0) s.ab.length
def GM:Int:=(s.ab.getD (max (aS s.ab v) 0).toNat ao).ip
def MV:=GM s v==2
def BH:=!MV s v
def qje:=(qjc s v&&BH s v)=true
def Tv:=qje s v->qje s v
end
theorem ajo (v:Int) (hs:cw s):KN 156 [aF s.ab,d9 v] (.bool (xT s.ab v)):=by
 refine Kn (tR lX s ao dL 30 λ_=>none) func156 (KN 44 [aF s.ab,d9 v] (AV.av [d9 (max (aS s.ab v) (0:Int)),AV.bool (qjc s v)])/\uU s v/\uU s v/\(qjd s v->Ao s v)/\uU s v/\uU s v/\uU s v/\uU s v/\Tv s v/\Tv s v/\(qje s v->Ao s v)/\Tv s v/\Tv s v/\Tv s v/\uU s v/\(qjd s v->BH s v=true->qje s v)/\uU s v/\(qjc s v&&(MV s v||GM s v==3))=xT s.ab v) ?_;try delta qjc qjd uU Ao GM MV BH qje Tv
 simp only[SZ];have f:=YW s.ab v;refine⟨KW _ _ hs.ab,λh=>O,λh=>O, ?_⟩;unfold xT;by_cases e:0<=aS s.ab v;rw[yc e];rw[jn e,je,je]
theorem zyr (b:Bool):KN 92 [.bool b] (d9 (ek b)):=by
 refine Kn (tR lX mt ao dL 4 λ_=>none) func92 (Z b (1=ek b) (0=ek b)) ?_;delta Z;try simp only[SZ]
 unfold ek;grind
theorem zys (f a b:Int):KN 91 [d9 f,d9 a,d9 b] (d9 (app f a b).1):=by
 refine Kn (tR lX mt ao dL 17 λ_=>none) func91 (KN 150 [d9 f,d9 a,d9 b] (AV.av [d9 (app f a b).fst,d9 (app f a b).snd])/\RR (app f a b).fst) ?_;simp only[SZ];exact G9 f a b
section
variable (s:ja) (t:i5) (i:aK) (e:Ev)
def DY:=e.entry=(z1c s t i e).entry/\e.ord=(z1c s t i e).ord/\e.read=(z1c s t i e).read/\e.i4=(z1c s t i e).i4
def qjf:=e.k7=(z1c s t i e).k7/\DY s t i e
end
theorem ac4 (hs:cw s) (h:dU t) (f:mA s.l5 i):KN 94 [cx s,vT t,vI i,dh e] (dh (z1c s t i e)):=by
 refine Kn (tR lX s t i 72 λ_=>none) func94 (Z (i.op==18) (Z (t.gH==0) (e.aC=(z1c s t i e).aC/\e.ly=(z1c s t i e).ly/\12=(z1c s t i e).kind/\e.ii=(z1c s t i e).ii/\i.n=(z1c s t i e).k7/\DY s t i e) (Z (t.gH==1) (e.aC=(z1c s t i e).aC/\e.ly=(z1c s t i e).ly/\13=(z1c s t i e).kind/\e.ii=(z1c s t i e).ii/\qjf s t i e) (e.aC=(z1c s t i e).aC/\e.ly=(z1c s t i e).ly/\9=(z1c s t i e).kind/\i.n=(z1c s t i e).ii/\qjf s t i e))) (Z (i.op==19) (af i.ii s.l5.a6.length/\U7 s i/\e.aC=(z1c s t i e).aC/\e.ly=(z1c s t i e).ly/\14=(z1c s t i e).kind/\e.ii=(z1c s t i e).ii/\e.k7=(z1c s t i e).k7/\e.entry=(z1c s t i e).entry/\e.ord=(z1c s t i e).ord/\(if(1:Int)<↑(s.l5.a6.getD i.ii.toNat []).length then(1:Int)else Sr s i)=(z1c s t i e).read/\e.i4=(z1c s t i e).i4) (Z (i.op==20) (af i.ii s.l5.a6.length/\U7 s i/\e.aC=(z1c s t i e).aC/\e.ly=(z1c s t i e).ly/\15=(z1c s t i e).kind/\e.ii=(z1c s t i e).ii/\e.k7=(z1c s t i e).k7/\e.entry=(z1c s t i e).entry/\e.ord=(z1c s t i e).ord/\Sr s i=(z1c s t i e).read/\e.i4=(z1c s t i e).i4) (Z (i.op==21) (KN 157 [AV.mc zk (ak t)] (AV.av [d9 (eU t),AV.bool (cA t)])/\e.aC=(z1c s t i e).aC/\e.ly=(z1c s t i e).ly/\16=(z1c s t i e).kind/\eU t=(z1c s t i e).ii/\qjf s t i e) (Z (i.op==22) (af i.b 8/\e.aC=(z1c s t i e).aC/\e.ly=(z1c s t i e).ly/\17=(z1c s t i e).kind/\t.aw.getD i.b.toNat 0=(z1c s t i e).ii/\qjf s t i e) (LS (bX e) (bX (z1c s t i e)))))))) ?_;try delta Z DY qjf Sr U7
 simp only[SZ];have j:=hs.l5.q i.ii.toNat;refine⟨λh18=>⟨λh=>?_,λh=>⟨λh'=>?_,λh'=>?_⟩⟩,λh18=>⟨λh19=>⟨f.ok.q O,O, ?_⟩,λh19=>⟨λh20=>⟨f.ok.q O,O, ?_⟩,λh20=>⟨λh21=>⟨zpf t h.aw h.id, ?_⟩,λh21=>⟨λh22=>⟨f.b, ?_⟩,λh22=>?_⟩⟩⟩⟩⟩;all_goals unfold z1c
 all_goals simp[*,nK,bp,iL]
 omega
theorem agh (x:AV) (e:x=bX (jX x)) (hs:cw s) (f:dU t) (h:mA s.l5 i):KN 94 [cx s,vT t,vI i, .mc bF x] (dh (z1c s t i (jX x))):=by
 have :=ac4 s t i (jX x) hs f h;unfold dh at this;rw[<- e]at this;exact this
theorem AS (e:mA s.l5 i) (x:AV) (h:z1c s t i (jX x)=m8 s t i):LS (bX (z1c s t i (jX x))) (bX (m8 s t i)):=fp (by rw[h])
section
variable (i:aK)
def Iz:=decide (i.op<=14)
def Mf:=Iz i=true
def qs5:=Mf i->Mf i
end
section
variable (t:i5) (i:aK)
def D7:=t.aw.getD i.b.toNat 0=bp t i.b
def Ef:=t.aw.getD i.c.toNat 0=bp t i.c
end
section
variable (s:ja) (t:i5) (i:aK)
def Im:=LS (ze s) (ze s)/\LS (ak t) (ak t)/\LS (k8 i) (k8 i)/\(RR (0:Int)/\RR (0:Int)/\RR (0:Int)/\RR (0:Int)/\RR (0:Int)/\RR (0:Int)/\RR (0:Int)/\Wg)/\RR t.id/\RR t.io/\RR (0:Int)/\RR i.ii/\RR (-1)/\RR (-1)/\RR i.ord/\Wg
def Ax:=Iz i&&i.op !=13
def qs6:List AV:=[d9 i.ii,d9 (-1),d9 (-1),d9 i.ord,d9 (iH s.l5 i),d9 0]
def Ex:=AV.agg (d9 t.id::d9 t.io::d9 1::qs6 s i)
def EG:=bX (z1c s t i (jX (Ex s t i)))
def zD:=AV.agg (d9 t.id::d9 t.io::d9 8::qs6 s i)
def NU:=bX (z1c s t i (jX (zD s t i)))
def Gw:=AV.agg [d9 t.id,d9 t.io,d9 2,d9 i.ii,d9 (-1),d9 (-1),d9 i.ord,d9 0,d9 (bp t i.b)]
def zK:=bX (z1c s t i (jX (Gw t i)))
def Ca:List AV:=[d9 (iH s.l5 i),d9 (bp t i.b)]
def Rj:=AV.agg (d9 t.id::d9 t.io::d9 5::d9 i.ii::d9 (-1)::d9 (-1)::d9 i.ord::Ca s t i)
def KJ:=bX (z1c s t i (jX (Rj s t i)))
def Pj:=d9 (wr (wr (iH s.l5 i)+wr (bp t i.b)))
def EH:=AV.agg [d9 t.id,d9 t.io,d9 5,d9 i.ii,d9 (-1),d9 (-1),d9 i.ord,d9 (iH s.l5 i),Pj s t i]
def PV:=bX (z1c s t i (jX (EH s t i)))
def EU:=AV.agg [d9 t.id,d9 t.io,d9 5,d9 i.ii,d9 (-1),d9 (-1),d9 i.ord,d9 (iH s.l5 i),d9 (bp t i.c)]
def Pt:=bX (z1c s t i (jX (EU s t i)))
def GC:=iH s.l5 i==bp t i.b
def LH:=AV.agg (d9 t.id::d9 t.io::d9 6::qs6 s i)
def A5:=bX (z1c s t i (jX (LH s t i)))
def qjg:List AV:=[d9 i.ii,d9 (-1),d9 (-1),d9 i.ord,d9 0,d9 0]
def RQ:=AV.agg (d9 t.id::d9 t.io::d9 7::qjg i)
def Hh:=bX (z1c s t i (jX (RQ t i)))
def MN:=AV.agg (d9 t.id::d9 t.io::d9 9::qjg i)
def AQ:=bX (z1c s t i (jX (MN t i)))
def Qv:=AV.agg (d9 t.id::d9 t.io::d9 10::qjg i)
def Cm:=bX (z1c s t i (jX (Qv t i)))
def Hr:=AV.agg [d9 t.id,d9 t.io,d9 11,d9 i.ii,d9 (-1),d9 (-1),d9 i.ord,d9 (ek (iJ s.l5 i.ii)),d9 0]
def C5:=bX (z1c s t i (jX (Hr s t i)))
def Es:=AV.agg (d9 t.id::d9 t.io::d9 0::qjg i)
def Iy:=bX (z1c s t i (jX (Es t i)))
end
theorem zyt (hs:cw s) (u:dU t) (k:mA s.l5 i):KN 45 [cx s,vT t,vI i] (dh (m8 s t i)):=by
 refine Kn ({tR lX s t i 113 (λ_=>none)with cut:=zym s t i}) func45 (af i.b 8/\af i.c 8/\(qs5 i/\qs5 i/\qs5 i/\Z (Ax i) (af i.ii s.l5.eA.length/\(∃ (j:Unit),True/\(D7 t i/\Ef t i/\s.l5.eA.getD i.ii.toNat 0=iH s.l5 i)/\Im s t i)) (∃ (j:Unit),True/\(D7 t i/\Ef t i/\0=iH s.l5 i)/\Im s t i))/\∀ (y:Unit),True->Z (i.op==(8:Int)) (KN 94 [AV.mc aI (ze s),AV.mc zk (ak t),AV.mc zy (k8 i),AV.mc bF (Ex s t i)] (AV.mc bF (EG s t i))/\LS (EG s t i) (bX (m8 s t i))) (Z (i.op==(14:Int)) (KN 94 [AV.mc aI (ze s),AV.mc zk (ak t),AV.mc zy (k8 i),AV.mc bF (zD s t i)] (AV.mc bF (NU s t i))/\LS (NU s t i) (bX (m8 s t i))) (Z (i.op==(9:Int)) (KN 94 [AV.mc aI (ze s),AV.mc zk (ak t),AV.mc zy (k8 i),AV.mc bF (Gw t i)] (AV.mc bF (zK s t i))/\LS (zK s t i) (bX (m8 s t i))) (Z (i.op==(10:Int)) (KN 94 [AV.mc aI (ze s),AV.mc zk (ak t),AV.mc zy (k8 i),AV.mc bF (Rj s t i)] (AV.mc bF (KJ s t i))/\LS (KJ s t i) (bX (m8 s t i))) (Z (i.op==(11:Int)) (KN 91 (d9 (1:Int)::Ca s t i) (Pj s t i)/\KN 94 [AV.mc aI (ze s),AV.mc zk (ak t),AV.mc zy (k8 i),AV.mc bF (EH s t i)] (AV.mc bF (PV s t i))/\LS (PV s t i) (bX (m8 s t i))) (Z (i.op==(12:Int)) (Z (GC s t i) (KN 94 [AV.mc aI (ze s),AV.mc zk (ak t),AV.mc zy (k8 i),AV.mc bF (EU s t i)] (AV.mc bF (Pt s t i))/\LS (Pt s t i) (bX (m8 s t i))) (KN 94 [AV.mc aI (ze s),AV.mc zk (ak t),AV.mc zy (k8 i),AV.mc bF (LH s t i)] (AV.mc bF (A5 s t i))/\LS (A5 s t i) (bX (m8 s t i)))) (Z (i.op==(13:Int)) (KN 94 [AV.mc aI (ze s),AV.mc zk (ak t),AV.mc zy (k8 i),AV.mc bF (RQ t i)] (AV.mc bF (Hh s t i))/\LS (Hh s t i) (bX (m8 s t i))) (Z (i.op==(15:Int)) (KN 94 [AV.mc aI (ze s),AV.mc zk (ak t),AV.mc zy (k8 i),AV.mc bF (MN t i)] (AV.mc bF (AQ s t i))/\LS (AQ s t i) (bX (m8 s t i))) (Z (i.op==(16:Int)) (KN 94 [AV.mc aI (ze s),AV.mc zk (ak t),AV.mc zy (k8 i),AV.mc bF (Qv t i)] (AV.mc bF (Cm s t i))/\LS (Cm s t i) (bX (m8 s t i))) (Z (i.op==(17:Int)) (KN 93 [AV.mc zm (aj s.l5),d9 i.ii] (AV.bool (iJ s.l5 i.ii))/\KN 92 [AV.bool (iJ s.l5 i.ii)] (d9 (ek (iJ s.l5 i.ii)))/\KN 94 [AV.mc aI (ze s),AV.mc zk (ak t),AV.mc zy (k8 i),AV.mc bF (Hr s t i)] (AV.mc bF (C5 s t i))/\LS (C5 s t i) (bX (m8 s t i))) (KN 94 [AV.mc aI (ze s),AV.mc zk (ak t),AV.mc zy (k8 i),AV.mc bF (Es t i)] (AV.mc bF (Iy s t i))/\LS (Iy s t i) (bX (m8 s t i))))))))))))) ?_;try delta Z Iz Mf qs5 D7 Ef Wg Im Ax qs6 Ex EG zD NU Gw zK Ca Rj KJ Pj EH PV EU Pt GC LH A5 qjg RQ Hh MN AQ Qv Cm Hr C5 Es Iy
 simp only[SB,af];have m:=k.ok.op;have K:=λx E=>agh s t i x E hs u k;have V:i.op<=14/\i.op≠13 ->iH s.l5 i=(fo s.l5 i.ii).1:=λh=>by
  unfold iH;rw[x9 (show Xt i from h),zjm k.form (k.v O)]
 refine⟨k.b,k.c,⟨λh=>⟨k.v O,(),⟨rfl,rfl,by unfold iH;rw[x9 (show Xt i from h)]⟩,fp rfl,fp rfl,fp rfl⟩,λh=>⟨(),⟨rfl,rfl,by unfold iH;rw[x8 (by unfold Xt;omega)]⟩,fp rfl,fp rfl,fp rfl⟩⟩,λ_ _=>⟨λh8=>⟨K _ rfl,AS _ _ _ k _ ?_⟩,λh8=>⟨λh14=>⟨K _ rfl,AS _ _ _ k _ ?_⟩,λh14=>⟨λh9=>⟨K _ rfl,AS _ _ _ k _ ?_⟩,λh9=>⟨λh10=>⟨K _ rfl,AS _ _ _ k _ ?_⟩,λh10=>⟨λh11=>⟨zys 1 _ _,K _ rfl,AS _ _ _ k _ ?_⟩,λh11=>⟨λh12=>⟨λh=>⟨K _ rfl,AS _ _ _ k _ ?_⟩,λh=>⟨K _ rfl,AS _ _ _ k _ ?_⟩⟩,λh12=>⟨λh13=>⟨K _ rfl,AS _ _ _ k _ ?_⟩,λh13=>⟨λh15=>⟨K _ rfl,AS _ _ _ k _ ?_⟩,λh15=>⟨λh16=>⟨K _ rfl,AS _ _ _ k _ ?_⟩,λh16=>⟨λh17=>⟨zjh _ _ hs.l5,zyr _,K _ rfl,AS _ _ _ k _ ?_⟩,λh17=>⟨K _ rfl,AS _ _ _ k _ ?_⟩⟩⟩⟩⟩⟩⟩⟩⟩⟩⟩⟩;all_goals rw[XL]
 all_goals have f:=k.ord
 all_goals clear K hs u k
 iterate 2
  have v:=V O;clear V f m;simp only[z1c,m8,bz,iP,v, *,reduceIte,Int.reduceEq]
 clear V f m;simp only[z1c,m8,bz,iP, *,reduceIte,Int.reduceEq];iterate 2
  have v:=V O;clear V f m;simp only[z1c,m8,bz,iP,v, *,reduceIte,Int.reduceEq];try rfl
 have v:=V O;rw[v]at h ⊢;clear V f m v;simp only[z1c,m8,bz,iP, *,reduceIte,Int.reduceEq];have v:=V O;rw[v]at h ⊢;clear V f m v;simp only[z1c,m8,bz,iP, *,reduceIte,Int.reduceEq];iterate 4
  have o:=f O;clear V f m;simp only[z1c,m8,iP,o, *,reduceIte,Int.reduceEq]
 . have o:=f O;have F:i.op=18∨i.op=19∨i.op=20∨i.op=21∨i.op=22:=O;clear V f m;rcases F with e |e |e |e |e;simp only[z1c,m8,im,iP,o,e,reduceIte,Int.reduceEq];simp only[z1c,m8,iP,o,e,reduceIte,Int.reduceEq];rw[Int.min_comm];all_goals simp only[z1c,m8,iP,o,e,reduceIte,Int.reduceEq]
section
variable (s:ja) (i:aK)
def CQ:Int:=s.l5.eA.getD i.ii.toNat 0
end
section
variable (s:ja) (t:i5) (i:aK)
def D6:Int:=(app i.fn (CQ s i) (t.aw.getD i.b.toNat 0)).fst
def qs7:=(!t.gH==0)=true
def TF:=qs7 t->qs7 t
def LF:=xT s.ab (t.aw.getD i.b.toNat 0)
end
theorem afc (hs:cw s) (ht:dU t) (hi:mA s.l5 i) (hph:t.gH=0∨t.gH=1∨t.gH=2):KN 90 [cx s,vT t,vI i] (.bool (z20 s t i)):=by
 refine Kn (tR lX s t i 65 λ_=>none) func90 (Z (i.op==14) (af i.ii s.l5.eA.length/\af i.b 8/\KN 91 (d9 i.fn::d9 (CQ s i)::Te t i) (d9 (D6 s t i))/\(D6 s t i !=0)=z20 s t i) (Z (i.op==15) (KN 93 [AV.mc zm (aj s.l5),d9 i.ii] (AV.bool (iJ s.l5 i.ii))/\iJ s.l5 i.ii=z20 s t i) (Z (i.op==18) (Z (t.gH==1) (KN 42 [a8 s.l5.lT,d9 t.id] (AV.bool (qco s t))/\qco s t=z20 s t i) (TF t/\TF t/\TF t/\TF t/\(qs7 t->KN 93 [AV.mc zm (aj s.l5),d9 i.n] (AV.bool (iJ s.l5 i.n)))/\TF t/\(t.gH==0||iJ s.l5 i.n)=z20 s t i)) (Z (i.op==22) (af i.b 8/\KN 156 (aF s.ab::Te t i) (AV.bool (LF s t i))/\LF s t i=z20 s t i) (true=z20 s t i))))) ?_;try delta Z CQ Te D6 qco qs7 TF LF
 simp only[SZ];simp only[oR];refine⟨λh=>⟨hi.v O,hi.b,zys _ _ _, ?_⟩,λh14=>⟨λh=>⟨zjh _ _ hs.l5, ?_⟩,λh15=>⟨λh=>⟨λh2=>⟨zyq _ _ hs.l5.lT, ?_⟩,λh2=>⟨λ_=>zjh _ _ hs.l5, ?_⟩⟩,λh18=>⟨λh=>⟨hi.b,ajo s _ hs, ?_⟩,λh22=>?_⟩⟩⟩⟩;unfold z20;rw[x9 h,zjm hi.form (hi.v O)];rfl;unfold z20;rw[x8 h14,x9 h];unfold z20;rw[x8 h14,x8 h15,x9 h,x9 h2];unfold z20;rw[x8 h14,x8 h15,x9 h,x8 h2];rcases hph with e |e |e;grind;omega;grind;unfold z20;rw[x8 h14,x8 h15,x8 h18,x9 h];rfl;unfold z20;rw[x8 h14,x8 h15,x8 h18,x8 h22]
section
variable (p:ai) (b:Int) (s:ja) (x3:Nat)
def qs8:=x3<=s.ab.length/\∀ n:Nat,n<x3->z5e p b s.ab n
end
theorem akz (m:bI p) (hs:cw s):KN 88 [vP p,d9 b,aF s.ab] (.bool (rZ p b s.ab)):=by
 refine Kn (tR p s ao dL 40 (zrk p b s)) func88 ((∃ i,qs8 p b s i/\(RR b/\nh s/\(0:Int)=↑i)/\LS (ah p) (ah p))/\∀ i:Nat,qs8 p b s i->aH ↑s.ab.length/\Z (qc s i) (af (↑i) s.ab.length/\KN 102 [AV.mc z7 (ah p),d9 b,AV.mc zk (ak (s.ab.getD (↑i:Int).toNat ao))] (AV.bool (PU p b s i))/\mG p b s i/\mG p b s i/\qh p b s i/\(q1m p b s i->aM j6 (qg i))/\qh p b s i/\qh p b s i/\(q1m p b s i->af (qg i) s.ab.length)/\qh p b s i/\qh p b s i/\qh p b s i/\qh p b s i/\(q1m p b s i->af (↑i) s.ab.length)/\qh p b s i/\qh p b s i/\qh p b s i/\qh p b s i/\mG p b s i/\(vD p b s i->mh i=true->q1m p b s i)/\mG p b s i/\Z (uc p b s i) (false=rZ p b s.ab) (aM j6 (q9 i)/\(∃ j,qs8 p b s j/\s.ab.length - j<s.ab.length - i/\(RR b/\nh s/\q9 i=↑j)/\LS (ah p) (ah p)))) (true=rZ p b s.ab)) ?_;try delta Z aH qs8 nh PU qin qio vD mG mh q1m qh qg uc q9 qc
 simp only[SB,af];have u:=hs.ab;have eT:∀ i,dT (ak (s.ab.getD i ao))=s.ab.getD i ao:=λi=>iz _ (hs.ok i).aw;simp only[eT,iL];refine⟨⟨0,⟨O,λj hj=>O⟩,rfl,trivial⟩,λi f=>⟨O,λhlt=>⟨hlt,zbb p b _ m (hs.ok i).wo,λ_=>f9,λh=>⟨O,O⟩,λ_=>hlt,λh=>?_,λh=>⟨f9,i+1,⟨O,λj hj=>?_⟩,O,O,trivial⟩⟩,λhge=>?_⟩⟩;apply eI;intro k;have :=z9k.1 k i hlt;rcases h with h | ⟨h,h'⟩;rw[this.1]at h;cases h;have :=this.2 O;rw[show((i:Int) - 1).toNat=i - 1 from O]at h';omega;by_cases e:j=i;subst e;refine⟨h.1,λh0=>?_⟩;simp_all;exact f.2 j O;symm;rw[z9k];exact λj hj=>f.2 j (O)
section
variable (p:ai)
def qs9:=JK p=true
def TK:=qs9 p->qs9 p
variable (b:Int) (s:ja)
def L6:=JK p&&rZ p b s.ab
def qsa:=L6 p b s=true
def qjh:=qsa p b s->qsa p b s
def MF:=L6 p b s&&ec p s.l5
def qsb:=MF p b s=true
def qji:=qsb p b s->qsb p b s
end
theorem zrl (e:bI p) (hs:cw s):KN 41 [vP p,d9 b,cx s] (.bool (bT p b s)):=by
 refine Kn (tR p s ao dL 28 λ_=>none) func41 (KN 87 [AV.mc z7 (ah p)] (AV.bool (JK p))/\TK p/\TK p/\TK p/\TK p/\(qs9 p->KN 88 [AV.mc z7 (ah p),d9 b,aF s.ab] (AV.bool (rZ p b s.ab)))/\TK p/\qjh p b s/\qjh p b s/\qjh p b s/\(qsa p b s->KN 89 [AV.mc z7 (ah p),AV.mc zm (aj s.l5)] (AV.bool (ec p s.l5)))/\qjh p b s/\qji p b s/\qji p b s/\(qsb p b s->aH ↑s.ae.length)/\qji p b s/\qji p b s/\(MF p b s&&↑s.ae.length==(0:Int))=bT p b s) ?_;try delta aH JK qs9 TK L6 qsa qjh MF qsb qji
 simp only[SZ];have f:=hs.ae;refine⟨zoj p e,λ_=>akz p b s e hs,λ_=>zy3 p s.l5 e hs.l5.wo,λ_=>O, ?_⟩;grind[bT,ec]
def bW:i8×Int:=
 if e.kind=2∨e.kind=5 then zr m e.ii e.i4
 else if e.kind=9 then bc m e.ii e.aC (-1) e.aC
 else if e.kind=11 then(if e.read=1 then bc m e.ii e.aC (-1) e.aC else(m,0))
 else if e.kind=10 then bc m e.ii e.aC e.aC (-1)
 else if e.kind=12 then(if(bc m e.k7 e.aC e.aC (-1)).2≠0 then(m,(bc m e.k7 e.aC e.aC (-1)).2)else aZ (bc m e.k7 e.aC e.aC (-1)).1 e.ii e.aC)
 else if e.kind=13 then dD m e.aC
 else if e.kind=14 then((zi m e.ii 1).1,(zi m e.ii 1).2.2)
 else if e.kind=15 then((zi m e.ii (z1z m.a6)).1,(zi m e.ii (z1z m.a6)).2.2)
 else(m,0)
def eG:Int:=
 if i.op=8∨i.op=14∨i.op=10∨i.op=11∨i.op=17 then e.read else if i.op=12 then ek (e.kind==5)else if i.op=21 then e.ii else 0
def iq (id:Int) (n:Nat):List i5:=(l.take n).filter λt=>decide (t.id<id)
def nJ (id:Int) (n:Nat):List i5:=(l.take n).filter λt=>decide (id<t.id)
def mJ:List i5:=iq l t.id l.length++(t::nJ l t.id l.length)
abbrev wK:Prop:=∀ (m:i8) (c id:Int),dk m ->KN 97 [vM m,d9 c,d9 id] (.av [vM (aZ m c id).1,d9 (aZ m c id).2])
def oR4:FuncId ->List AV ->Option AV
 |73,[.mc _ m, .int _ x, .int _ v]=>some (.av [vM (zr (dM m) x v).1,d9 (zr (dM m) x v).2])
 |95,[.mc _ m, .int _ i, .int _ id]=>some (.av [vM (bc (dM m) i id (-1) id).1,d9 (bc (dM m) i id (-1) id).2])
 |96,[.mc _ m, .int _ i, .int _ id]=>some (.av [vM (bc (dM m) i id id (-1)).1,d9 (bc (dM m) i id id (-1)).2])
 |97,[.mc _ m, .int _ c, .int _ id]=>some (.av [vM (aZ (dM m) c id).1,d9 (aZ (dM m) c id).2])
 |98,[.mc _ m, .int _ id]=>some (.av [vM (dD (dM m) id).1,d9 (dD (dM m) id).2])
 |99,[.mc _ m, .int _ c]=>some (.av [vM (zi (dM m) c 1).1,d9 (zi (dM m) c 1).2.1,d9 (zi (dM m) c 1).2.2])
 |100,[.mc _ m, .int _ c]=>some (.av [vM (zi (dM m) c (z1z (dM m).a6)).1,d9 (zi (dM m) c (z1z (dM m).a6)).2.1,d9 (zi (dM m) c (z1z (dM m).a6)).2.2])
 |101,[.mc _ m]=>some (vM (dM m))
 |92,[.bool b]=>some (d9 (ek b))
 |_,_=>none
noncomputable def vR4 (n:Nat) (I:Nat ->Option lm):bm:={C:=di n λ_ _=>false,CC:=mp prog GG,b9:=λ_ _=>oR4,inv:=I}
def KnE:Prop:=((m.eA.length=(bW m e).1.eA.length/\∀ i:Nat,i<m.eA.length ->d9 (m.eA.getD i 0)= d9 ((bW m e).1.eA.getD i 0))/\(m.aa.length=(bW m e).1.aa.length/\∀ i:Nat,i<m.aa.length ->d9 (m.aa.getD i 0)= d9 ((bW m e).1.aa.getD i 0))/\(m.a6.length=(bW m e).1.a6.length/\∀ i:Nat,i<m.a6.length ->a8 (m.a6.getD i [])=a8 ((bW m e).1.a6.getD i []))/\m.lT.length=(bW m e).1.lT.length/\∀ i:Nat,i<m.lT.length ->d9 (m.lT.getD i 0)= d9 ((bW m e).1.lT.getD i 0))/\0=(bW m e).2
def Bw:AV:= .mc aI (.agg [.own 0 s.ab.length,aj s.l5, .own 1 s.ae.length])
def zyx:Option lm:=match Nat.beq k 3 with
 |true=>iv l.length λi=>⟨[(0,aF l),(3, .ptr 3 []),(5, .own 28 (iq l t.id i).length),(6,d9 i)],[(3, .cell 51 zk (ak t)),(28,eO (iq l t.id i))]⟩
 |false=>match Nat.beq k 9 with
  |true=>iv l.length λi=>⟨[(0,aF l),(3, .ptr 3 []),(5, .own 28 (iq l t.id l.length++(t::nJ l t.id i)).length),(7,d9 i)],[(3, .cell 51 zk (ak t)),(28,eO (iq l t.id l.length++(t::nJ l t.id i)))]⟩
  |false=>none
def zyz:Option lm:=match Nat.beq k 3 with
 |true=>iv s.ab.length λi=>⟨[(1, .ptr 1 []),(2, .ptr 2 []),(3, .ptr 3 []),(4,d9 i)],[(1,fb s),(2,fb mt),(3, .cell 35 aI (.agg [.own 33 (s.ab.take i).length,aj s.l5, .ax])),(33,eO (s.ab.take i))]⟩
 |false=>match Nat.beq k 9 with
  |true=>iv s.ae.length λi=>⟨[(1, .ptr 1 []),(2, .ptr 2 []),(3, .ptr 3 []),(6,d9 i)],[(1,fb s),(2,fb mt),(3, .cell 35 aI (.agg [.own 33 s.ab.length,aj s.l5, .own 56 (s.ae.take i).length])),(33,eO s.ab),(56,Cg (s.ae.take i))]⟩
  |false=>none
end
end Go.Proofs.S25
