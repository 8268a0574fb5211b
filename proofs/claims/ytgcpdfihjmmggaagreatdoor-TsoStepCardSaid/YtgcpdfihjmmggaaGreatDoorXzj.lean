import Derived.Test.YtgcpdfihjmmggaaGreatDoorXzi
import Derived.Test.YtgcpdfihjmmggaaGreatDoorXzc
import Derived.Test.YtgcpdfihjmmggaaGreatDoorXze
namespace Go.Proofs.S25
open Go Go.AV
open Go.IntKind renaming i64 -> j6
open Go.AV.Shape (leaf)
noncomputable section
variable (m:Mem) (n:Nat) (p:ai) (b:Int) (s:ag) (a:Int) (l:List Int) (k:Nat)
theorem ai0 (hp:bI p) (hs:cw s) (hE:wK) (hl:s.ab.length<1000000):KN 20 [vP p, .int .i64 b,fi s, .int .i64 a] (.av [cx (da p b (bN s) a).1,dh (da p b (bN s) a).2.1, .int .i64 (da p b (bN s) a).2.2]):=
 (af5 p b (bN s) a hp hs.sc hE hl).weaken (by rfl) ⟨kY p,⟨rfl,rfl⟩,leN s,⟨rfl,rfl⟩,trivial⟩
theorem zg2 {p:ai} {s:ag} {a:Int} (hp:bI p) (hs:cw s) (hv:cQ p 32 s=true) (h0:0<=aS s.ab (aX a)) (hn:¬ a<0) (hb:cm p (s.ab.getD (bb s a) ao)=true) (hx:(¬ (zg p (s.ab.getD (bb s a) ao)).op=8/\¬ (zg p (s.ab.getD (bb s a) ao)).op=14)/\¬ (zg p (s.ab.getD (bb s a) ao)).op=9) (hl:zf p s a=bA p (bN s) a):
 (zf p s a).1=bP p (bN s) a/\(zf p s a).1.kind≠1/\(zf p s a).1.kind≠8/\(zf p s a).1.kind≠3/\(zf p s a).1.kind≠4:=by
 obtain⟨f1,f2,_⟩:=zhu hp (hs.ok (bb s a)) (z12.1 hv).1 hb
 rw[<- f2]at f1
 have ea:aX a=a:=by unfold aX;rw[x8 hn]
 have h0':=h0
 rw[ea]at h0'
 have eA:(aS s.ab a).toNat=bb s a:=by unfold bb;rw[ea]
 have hr:bg p (bN s) a=(s.ab.getD (bb s a) ao,zg p (s.ab.getD (bb s a) ao),true):=by
  unfold bg
  rw[x8 (show ¬ aS (bN s).ab a<0 from(by omega:¬ aS s.ab a<0))]
  show(s.ab.getD (aS s.ab a).toNat ao,zg p (s.ab.getD (aS s.ab a).toNat ao),cm p (s.ab.getD (aS s.ab a).toNat ao))=_
  rw[eA,hb]
 have e:(zf p s a).1=bP p (bN s) a:=by
  rw[hl];unfold bA bP cl c5
  rw[x8 (by rw[ab6 hv];simp),x8 (by rw[hr];simp)]
 have e2:bP p (bN s) a=aR (bN s) (s.ab.getD (bb s a) ao) (zg p (s.ab.getD (bb s a) ao)):=by unfold bP cl c5;rw[hr]
 refine⟨e, ?_⟩
 rw[e,e2]
 exact ajl (bN s) _ f1.ok.op hx.1.1 hx.1.2 hx.2
theorem aa9 {L:List aB} {M:Mem} {B:List bR} {e:Ev} {r:ag×Ev×Int} (hr:r=(⟨L,M,B⟩,e,0)):
 ((L.length=r.1.ab.length/\∀ i:Nat,i<L.length ->ak (L.getD i ao)=ak (r.1.ab.getD i ao))/\LS (aj M) (aj r.1.mem)/\B.length=r.1.ae.length/\∀ i:Nat,i<B.length ->aA (B.getD i az)=aA (r.1.ae.getD i az))/\LS (bX e) (bX r.2.1)/\0=r.2.2:=by
 subst hr;exact⟨⟨⟨rfl,λ_ _=>rfl⟩,fp rfl,rfl,λ_ _=>rfl⟩,fp rfl,rfl⟩
theorem Yk {L:List aB} {k:Nat} {x:aB} {M:Mem} {B:List bR} {e:Ev} {r:ag×Ev×Int} (hk:k<L.length) (hr:r=(⟨L.set k x,M,B⟩,e,0)):
 ((L.length=r.1.ab.length/\∀ i:Nat,i<L.length ->(if i=k then ak x else ak (L.getD i ao))=ak (r.1.ab.getD i ao))/\LS (aj M) (aj r.1.mem)/\B.length=r.1.ae.length/\∀ i:Nat,i<B.length ->aA (B.getD i az)=aA (r.1.ae.getD i az))/\LS (bX e) (bX r.2.1)/\0=r.2.2:=by
 subst hr;exact⟨⟨⟨by simp,λi _=>zfz i hk⟩,fp rfl,rfl,λ_ _=>rfl⟩,fp rfl,rfl⟩
section
variable (p:ai) (b:Int) (s:ag) (a:Int)
def qt2:Nat:=(zt p b s a).fst.ab.length
def Tw:Nat:=(zt p b s a).fst.ae.length
def IP:=qt2 p b s a=0/\((zt p b s a).fst.mem.vars.length=0/\(zt p b s a).fst.mem.aa.length=0/\(zt p b s a).fst.mem.a6.length=0/\(zt p b s a).fst.mem.sig.length=0)/\Tw p b s a=0
def AO:=AV.mc c7 (aA (s.ae.getD (uw s a) az))
def J0:=aA (bH (s.ae.getD (bb s a) az)).fst
def LZ:=AV.mc c7 (J0 s a)
def BR:cD×Int×Int:=(bH (s.ae.getD (bb s a) az)).snd
def qt3:cD:=(BR s a).fst
def Q3:Int×Int:=(BR s a).snd
def CJ:Int:=(qt3 s a).var
def zC:Int:=(qt3 s a).val
def Pr:Mem×Int:=zr s.mem (CJ s a) (zC s a)
def BC:=aj (Pr s a).fst
def qt4:List bR:=fc s.ae (dB (J0 s a))
def qt5:=s.ab.length=qt2 p b s a
variable (x4:Nat)
def YJ:=ak ((zt p b s a).fst.ab.getD x4 ao)
def C9:Nat:=(qt4 s a).length
def qjv:=aA ((zt p b s a).fst.ae.getD x4 az)
def qjw:=LS (bX (zf p s a).fst) (bX (qp p b s a))/\0=qy p b s a
def EZ:=(zf p s a).fst.kind==4
def qjx:=af (qx s a) s.ab.length
def K3:=AV.mc zk (ak (s.ab.getD (uw s a) ao))
def HB:aB×Int:=cd p b (s.ab.getD (bb s a) ao) (zf p s a).fst.read
def Km:=ak (HB p b s a).fst
def D0:=uw s a<s.ab.length
def It:=LS (aj s.mem) (aj (zt p b s a).fst.mem)
def FE:=qjx s a/\KN 49 [AV.mc z7 (ah p),AV.int j6 b,K3 s a,AV.int j6 (zf p s a).fst.read] (AV.av [AV.mc zk (Km p b s a),AV.int j6 (HB p b s a).snd])/\qjx s a/\D0 s a/\s.ab.length<=s.ab.length/\s.ae.length<=s.ae.length/\((qt5 p b s a/\∀ i:Nat,i<s.ab.length->(if i=(max (aS s.ab (aX a)) 0).toNat then Km p b s a else ak (s.ab.getD i ao))=YJ p b s a i)/\It p b s a/\s.ae.length=Tw p b s a/\∀ i:Nat,i<s.ae.length->aA (s.ae.getD i az)=qjv p b s a i)/\qjw p b s a
def EI:=(zf p s a).fst.kind==1
def Kk:=EI p s a=true
def RY:bR×Int×Int:=cq (s.ae.getD (bb s a) az) (zf p s a).fst.obj (zf p s a).fst.wrote
def FO:=aA (RY p s a).fst
def BD:=AV.mc c7 (FO p s a)
def FP:Int×Int:=(RY p s a).snd
def Nq:Int:=(FP p s a).snd
def O5:=Nq p s a !=0
def Ma:aB×Int:=cd p b (s.ab.getD (bb s a) ao) 0
def JG:=ak (Ma p b s a).fst
def qt6:List bR:=fc s.ae (dB (FO p s a))
def zO:Nat:=(qt6 p s a).length
def IJ:=(zf p s a).fst.kind==3
def Rp:=AV.mc aI (ze (da p b (bN s) a).fst)
def qt7:Int:=(da p b (bN s) a).snd.snd
def Bn:=qt7 p b s a !=0
def CY:=aj (da p b (bN s) a).fst.mem
def qt8:Nat:=(da p b (bN s) a).fst.ab.length
def qt9:List bR:=eJ (da p b (bN s) a).fst.ab s.ae (qt8 p b s a)
def Ac:Nat:=(qt9 p b s a).length
def Gd:=(IJ p s a=true->Ub s a/\KN 75 [AO s a,AV.int j6 (zf p s a).fst.obj,AV.int j6 (zf p s a).fst.wrote] (AV.av [BD p s a,AV.int j6 (FP p s a).fst,AV.int j6 (Nq p s a)])/\(O5 p s a=true->IP p b s a/\nC p b s a/\30=qy p b s a)/\(O5 p s a=false->qjx s a/\KN 49 [AV.mc z7 (ah p),AV.int j6 b,K3 s a,AV.int j6 (0:Int)] (AV.av [AV.mc zk (JG p b s a),AV.int j6 (Ma p b s a).snd])/\qjx s a/\D0 s a/\s.ab.length<=s.ab.length/\s.ab.length<=s.ab.length/\s.ae.length<=s.ae.length/\s.ab.length<=s.ab.length/\s.ae.length<=s.ae.length/\KN 74 [aY s.ae,BD p s a] (aY (qt6 p s a))/\((qt5 p b s a/\∀ i:Nat,i<s.ab.length->(if i=(max (aS s.ab (aX a)) 0).toNat then JG p b s a else ak (s.ab.getD i ao))=YJ p b s a i)/\It p b s a/\zO p s a=Tw p b s a/\∀ i:Nat,i<zO p s a->aA ((qt6 p s a).getD i az)=qjv p b s a i)/\qjw p b s a))/\(IJ p s a=false->KN 76 [AV.mc aI (ze s)] (mF s)/\KN 20 [AV.mc z7 (ah p),AV.int j6 b,mF s,AV.int j6 a] (AV.av [Rp p b s a,AV.mc bF (bX (da p b (bN s) a).snd.fst),AV.int j6 (qt7 p b s a)])/\(Bn p b s a=true->IP p b s a/\nC p b s a/\qt7 p b s a=qy p b s a)/\(Bn p b s a=false->KN 29 [Rp p b s a,aY s.ae] (AV.mc aI (AV.agg [aF (da p b (bN s) a).fst.ab,CY p b s a,aY (qt9 p b s a)]))/\((qt8 p b s a=qt2 p b s a/\∀ i:Nat,i<qt8 p b s a->ak ((da p b (bN s) a).fst.ab.getD i ao)=YJ p b s a i)/\LS (CY p b s a) (aj (zt p b s a).fst.mem)/\Ac p b s a=Tw p b s a/\∀ i:Nat,i<Ac p b s a->aA ((qt9 p b s a).getD i az)=qjv p b s a i)/\qjw p b s a))
def Rv:=EI p s a=false
def Cf:=(zf p s a).fst.kind==8
end
theorem zs4 (hp:bI p) (hs:cw s) (hE:wK) (hI:jY a) (hq:(allI s.mem).length<400000):KN 35 [vP p, .int .i64 b,cx s, .int .i64 a] (.av [cx (zt p b s a).1,dh (zt p b s a).2.1, .int .i64 (zt p b s a).2.2]):=by
 refine Kn (vR8 p b s a 204) Tryz.func35 (KN 68 [AV.mc z7 (ah p)] (AV.av [AV.int j6 (zc p).fst,AV.int j6 (zc p).snd.fst,AV.int j6 (zc p).snd.snd])/\(T8 p=true->IP p b s a/\nC p b s a/\(zc p).fst=qy p b s a)/\(T8 p=false->l8 b/\l8 b/\(l7 b=true->IP p b s a/\nC p b s a/\2=qy p b s a)/\(l7 b=false->KN 69 [AV.mc z7 (ah p),AV.int j6 b,AV.mc aI (ze s)] (AV.bool (cQ p b s))/\((!cQ p b s)=true->IP p b s a/\nC p b s a/\1=qy p b s a)/\((!cQ p b s)=false->KN 37 [AV.mc z7 (ah p),AV.mc aI (ze s)] (a8 (cI p s))/\KN 70 [a8 (cI p s),AV.int j6 a] (AV.bool (aQ (cI p s) a))/\((!aQ (cI p s) a)=true->IP p b s a/\nC p b s a/\19=qy p b s a)/\((!aQ (cI p s) a)=false->KN 36 (AV.mc z7 (ah p)::uM s a) (AV.av [AV.mc bF (bX (zf p s a).fst),AV.bool (zf p s a).snd])/\KN 71 (uM s a) (AV.av [AV.int j6 (qx s a),AV.bool (decide ((0:Int)<=aS s.ab (aX a)))])/\(KF (47:Nat) [AV.mc aI (ze s)] (AV.mc aI (AV.agg [AV.own (0:Nat) s.ab.length,aj s.mem,AV.own (1:Nat) s.ae.length])) [ar.row (51:TypeId) zk s.ab.length λi=>ak (s.ab.getD i ao),ar.row (68:TypeId) c7 s.ae.length λi=>aA (s.ae.getD i az)])/\(EZ p s a=true->Ub s a/\KN 72 [AO s a] (AV.av [LZ s a,AV.mc dz (cF (qt3 s a)),AV.int j6 (Q3 s a).fst,AV.int j6 (Q3 s a).snd])/\KN 73 [AV.mc zm (aj s.mem),AV.int j6 (CJ s a),AV.int j6 (zC s a)] (AV.av [AV.mc zm (BC s a),AV.int j6 (Pr s a).snd])/\s.ab.length<=s.ab.length/\s.ae.length<=s.ae.length/\s.ab.length<=s.ab.length/\s.ae.length<=s.ae.length/\KN 74 [aY s.ae,LZ s a] (aY (qt4 s a))/\((qt5 p b s a/\∀ i:Nat,i<s.ab.length->ak (s.ab.getD i ao)=YJ p b s a i)/\LS (BC s a) (aj (zt p b s a).fst.mem)/\C9 s a=Tw p b s a/\∀ i:Nat,i<C9 s a->aA ((qt4 s a).getD i az)=qjv p b s a i)/\qjw p b s a)/\(EZ p s a=false->(Kk p s a->(Kk p s a->FE p b s a)/\(Rv p s a->Gd p b s a))/\(Rv p s a->(Cf p s a=true->FE p b s a)/\(Cf p s a=false->Gd p b s a)))))))) ?_
 try delta qt2 Tw IP qp nC qy T8 wH wO l8 l7 uM qx Ub uw AO J0 LZ BR qt3 Q3 CJ zC Pr BC qt4 qt5 YJ C9 qjv qjw EZ qjx K3 HB Km D0 It FE EI Kk RY FO BD FP Nq O5 Ma JG qt6 zO IJ mF Rp qt7 Bn CY qt8 qt9 Ac Gd Rv Cf
 simp only[SB,af]
 have ld:zt p b s a=if(zc p).1≠0 then(aN,aW,(zc p).1)else if b<1∨32<b then(aN,aW,2)else if cQ p b s=false then(aN,aW,1)
  else if aQ (cL p s) a=false then(aN,aW,19)
  else if fj (zu p s a).1 then
   (if(dn p b s (bb s a) (zu p s a).1).2≠0 then(aN,aW,(dn p b s (bb s a) (zu p s a).1).2)else((dn p b s (bb s a) (zu p s a).1).1,(zu p s a).1,0))
  else dH p b s a:=rfl
 refine⟨zoi p hp,λh=>qO (by rw[ld,x9 h]),λh1=>⟨λh=>qO (by rw[ld,x8 (by simp[h1]),x9 h]),λh2=>⟨zrx p b s hp hs,λh=>qO (by rw[ld,x8 (by simp[h1]),x8 (by omega),x9 h]),λhvb=>?_⟩⟩⟩
 rw[x8 (by simp[h1]),x8 (by omega),x8 (by simp[hvb])]at ld
 have hv:=afz hvb
 have hen:cI p s=cL p s:=by unfold cI;rw[x9 hv]
 rw[hen]
 have hn:=Yc hv
 have hag:(cL p s).length<=1000000:=by
  have q1:=z9m s.ae 0
  have q2:=zbd p s s.ab.length
  have h2:=(z12.1 hv).2.1
  unfold cL;rw[xl];omega
 refine⟨by rw[<- hen];exact aap p s hp hs,Ts _ _ hag,λh=>qO (by rw[ld,x9 h]),λha=>?_⟩
 rw[x8 (by simp[ha])]at ld
 obtain⟨h0,lT,lC⟩:=zs0 hv ha
 rw[<- lT]at ld
 obtain⟨hk,eF,hid,vM,hlen,hbv,hbe⟩:=zuj hvb h0
 have eK:(aS s.ab (aX a)).toNat=bb s a:=rfl
 simp only[yc h0,eK]
 have hk1:=hk.1
 have hk2:=hk.2
 have heb:=hs.cf (bb s a)
 have hform:ca s.mem=true:=by
  unfold ec at vM
  simp only[xa,xo]at vM
  exact vM.2.1
 have vT:=((z12.1 hvb).2.2 (bb s a) hk1).1.1
 have kf:=zjp s a hs hI
 rw[yc h0]at kf
 have bO:∀ r,wr r=r ->cm p (s.ab.getD (bb s a) ao)=true ->(cd p b (s.ab.getD (bb s a) ao) r).2=0:=λr hr hb=>by
  unfold cm at hb
  rw[xa,xo]at hb
  exact zz2 vT hb.1 hr
 have B:(zf p s a).1.kind=1∨(zf p s a).1.kind=8 ->cm p (s.ab.getD (bb s a) ao)=true/\wr (zf p s a).1.read=(zf p s a).1.read:=λhk=>by
  rcases lC with lC | ⟨ln,lb,lC |lC |lC⟩
  . have :=lC.2.2.1;omega
  . rw[lC.2.2];exact⟨lb,ac8 hform _⟩
  . have :=lC.2.1;omega
  . exfalso
    have :=(zg2 hp hs hv h0 ln lb lC.1 lC.2).2
    omega
 have fB:(zf p s a).1.kind=1∨(zf p s a).1.kind=8 ->zt p b s a=(⟨s.ab.set (bb s a) (cd p b (s.ab.getD (bb s a) ao) (zf p s a).1.read).1,s.mem,s.ae⟩,(zf p s a).1,0):=λhk=>by
  have e1:fj (zf p s a).1=true:=by unfold fj;simp only[xk,xo];omega
  have e2:dn p b s (bb s a) (zf p s a).1=(⟨s.ab.set (bb s a) (cd p b (s.ab.getD (bb s a) ao) (zf p s a).1.read).1,s.mem,s.ae⟩,0):=by
   unfold dn;rw[x8 (by omega),x8 (by omega),x8 (by rw[bO _ (B hk).2 (B hk).1];exact λh=>h rfl)]
  rw[ld,x9 e1,e2,x8 (λh=>h rfl)]
 have kB:∀ x:bR,x.entries.length<=1000000 ->_:=λx hx=>ai5 s.ae x hs.ae hs.cf hx
 have kC:=λr=>zpu p b (s.ab.getD (bb s a) ao) r hp (hs.ok (bb s a))
 have Bg:∀ hk:(zf p s a).1.kind=1∨(zf p s a).1.kind=8,_:=λhk=>Yk hk1 (fB hk)
 have D:(zf p s a).1.kind≠4 ->(zf p s a).1.kind≠1 ->(zf p s a).1.kind≠8 ->(zf p s a).1.kind≠3 ->zt p b s a=dH p b s a/\(zf p s a).1=bP p (bN s) a:=λq4 q1 q8 q3=>by
  refine⟨by rw[ld,x8 (by unfold fj;simp only[xk,xo];omega)], ?_⟩
  rcases lC with lC | ⟨ln,lb,lC |lC |lC⟩
  . exact absurd lC.2.2.1 q4
  . omega
  . exact absurd lC.2.1 q3
  . exact(zg2 hp hs hv h0 ln lb lC.1 lC.2).1
 have C:(zf p s a).1.kind=3 ->cm p (s.ab.getD (bb s a) ao)=true/\(zf p s a).1.read=0:=λq3=>by
  rcases lC with lC | ⟨ln,lb,lC |lC |lC⟩
  . have :=lC.2.2.1;omega
  . omega
  . exact⟨lb,lC.2.2.2.2⟩
  . have :=(zg2 hp hs hv h0 ln lb lC.1 lC.2).2;omega
 have Cg:(zf p s a).1.kind=3 ->∀ q:¬ (cq (s.ae.getD (bb s a) az) (zf p s a).1.obj (zf p s a).1.wrote).2.2≠0,zt p b s a=(⟨s.ab.set (bb s a) (cd p b (s.ab.getD (bb s a) ao) 0).1,s.mem,fc s.ae (cq (s.ae.getD (bb s a) az) (zf p s a).1.obj (zf p s a).1.wrote).1⟩,(zf p s a).1,0):=λq3 q=>by
  have e1:fj (zf p s a).1=true:=by unfold fj;simp only[xk,xo];omega
  have e2:dn p b s (bb s a) (zf p s a).1=(⟨s.ab.set (bb s a) (cd p b (s.ab.getD (bb s a) ao) 0).1,s.mem,fc s.ae (cq (s.ae.getD (bb s a) az) (zf p s a).1.obj (zf p s a).1.wrote).1⟩,0):=by
   unfold dn
   rw[x8 (by omega),x9 q3,x8 q,(C q3).2,x8 (by rw[bO 0 rfl (C q3).1];exact λh=>h rfl),zs2 hvb h0 (ajb (ye.1 q))]
  rw[ld,x9 e1,e2,x8 (λh=>h rfl)]
 refine⟨zz9 p s a hp hs hI,kf,Yi s hs,λh4=>?_,λh4=>?_⟩
 . rcases lC with lC | ⟨ln,lb,lC |lC |lC⟩
   . obtain⟨_,le,_,lo,lw⟩:=lC
     have hpop:=al4 hbv le
     have hen0:mv ((s.ae.getD (bb s a) az).entries.getD 0 cc)=true:=((z21 _).1 hbv).2 0 le
     unfold mv at hen0
     simp only[xa,xd]at hen0
     have hvar:=hbe 0 le
     have hml:s.mem.vars.length=p.vars.length:=by
      unfold ec at vM
      simp only[xa,xo]at vM
      omega
     refine⟨⟨h0,by omega⟩,adt _ heb,zfx _ _ _ hs.mem,kB _ ?_,aa9 ?_⟩
     . rw[hpop];show(List.drop 1 _).length<=_;rw[wn];omega
     have e1:fj (zf p s a).1=true:=by unfold fj;simp only[xk,xo];omega
     have e2:dn p b s (bb s a) (zf p s a).1=(⟨s.ab,(zr s.mem (bH (s.ae.getD (bb s a) az)).2.1.var (bH (s.ae.getD (bb s a) az)).2.1.val).1,fc s.ae (bH (s.ae.getD (bb s a) az)).1⟩,0):=by
      unfold dn
      rw[x9 h4,zs2 hvb h0 (by rw[hpop]),lo,lw,hpop]
      rw[x8 (λh=>h rfl),x8 (by rw[z138 hform (by omega) (by omega)];exact λh=>h rfl)]
     rw[ld,x9 e1,e2,x8 (λh=>h rfl)]
   . omega
   . have :=lC.2.1;omega
   . have :=(zg2 hp hs hv h0 ln lb lC.1 lC.2).2;omega
 have kp:=zjo s
 have kS:=ai0 p b s a hp hs hE (by omega)
 refine⟨λq1=>⟨λ_=>⟨⟨h0,by omega⟩,kC _,⟨h0,by omega⟩,hk1,Bg (.inl q1)⟩,λq=>absurd q1 q⟩,λq1=>⟨λq8=>⟨⟨h0,by omega⟩,kC _,⟨h0,by omega⟩,hk1,Bg (.inr q8)⟩,λq8=>⟨λq3=>⟨⟨h0,by omega⟩,aiz _ _ _ heb,λq=>qO ?_,λq=>⟨⟨h0,by omega⟩,kC 0,⟨h0,by omega⟩,hk1,kB _ ?_,Yk hk1 (Cg q3 (by rw[q];exact λh=>h rfl))⟩⟩,λq3=>⟨kp,kS,λq=>qO ?_,λq=>⟨zx6 _ _ ?_ hs.ae hs.cf, ?_⟩⟩⟩⟩⟩
 . have e1:fj (zf p s a).1=true:=by unfold fj;simp only[xk,xo];omega
   have e2:dn p b s (bb s a) (zf p s a).1=(aN,30):=by unfold dn;rw[x8 (by omega),x9 q3,x9 q]
   rw[ld,x9 e1,e2,x9 (by decide)]
 . have :=zm7 (s.ae.getD (bb s a) az) (zf p s a).1.obj (zf p s a).1.wrote
   have :=((z21 _).1 hbv).1
   omega
 . rw[(D h4 q1 q8 q3).1];unfold dH;rw[x9 q]
 . exact(zjl hp hs.sc hq (by show s.ab.length<1000000;omega)).1
 . refine aa9 ?_
   obtain⟨d1,d2⟩:=D h4 q1 q8 q3
   rw[d1,d2,<- z139 q]
   unfold dH
   rw[x8 (by rw[q];exact λh=>h rfl)]
   rfl
def tu (l:List aB):Prop:=∀ j,0<=(l.getD j ao).id
theorem zm8:tu []:=λ_=>yr _
theorem zjr {l:List aB} {k:Nat} {t:aB} (h:tu l) (ht:0<=t.id):tu (l.set k t):=λj=>by
 rw[x7,gq]
 split
 . split
   . exact ht
   . exact yr _
 . rw[<- x7];exact h j
theorem alc {l:List aB} {n:Nat} {t:aB} (hn:n<=l.length) (h:tu l) (ht:0<=t.id):tu (gB l t n):=λj=>by
 rw[z9r _ _ _ hn]
 split
 . exact h _
 . split
   . exact ht
   . exact h _
theorem zjs {p:ai} {b:Int} {t:aB} {r:Int} (h:0<=t.id):0<=(cd p b t r).1.id:=by
 unfold cd
 split
 . exact yr _
 . split
   . exact yr _
   . split
     . exact yr _
     . split
       . exact yr _
       . show 0<=(jw p b _ _).id
         rw[zbh,(Y2 _ _ _).1];exact h
theorem zs5 {p:ai} {b id fn arg:Int} (h:0<=id):0<=(ba p b id fn arg).1.id:=by
 unfold ba
 split
 . exact yr _
 . split
   . exact yr _
   . split
     . exact yr _
     . split
       . exact yr _
       . show 0<=(jw p b _ _).id
         rw[zbh];exact h
theorem afx (t:aB):0<=eU t:=by
 unfold eU
 split
 . rename_i h
   unfold cA at h
   simp only[xi,xg,xh]at h
   have :=tO (id:=t.id) (by omega)
   omega
 . decide
theorem zul {p:ai} {b:Int} {s:ag} {a:Int} (h:tu s.ab):tu (da p b s a).1.ab:=by
 have ld:∀ {w:ag×Int},w=(if(bP p s a).kind=16 then eH p b {s with mem:=(cW p s a).1} (bP p s a).obj (c5 p s a).obj (bp (cl p s a) (c5 p s a).b)else({s with mem:=(cW p s a).1},0)) ->da p b s a=
  if aV p b≠0 then(aN,aW,aV p b)else if bT p b s=false then(aN,aW,1)else if(bg p s a).2.2=false∨z20 s (cl p s a) (c5 p s a)=false then(aN,aW,19)else if(cW p s a).2.2≠0 then(aN,aW,30)
  else if w.2≠0 then(aN,aW,w.2)else if(gY p b s a).2≠0 then(aN,aW,(gY p b s a).2)else({w.1 with ab:=w.1.ab.set (aS w.1.ab a).toNat (gY p b s a).1},bP p s a,0):=λh=>by subst h;rfl
 obtain⟨w,hw⟩:∃ w:ag×Int,w=(if(bP p s a).kind=16 then eH p b {s with mem:=(cW p s a).1} (bP p s a).obj (c5 p s a).obj (bp (cl p s a) (c5 p s a).b)else({s with mem:=(cW p s a).1},0)):=⟨_,rfl⟩
 have h1:tu w.1.ab:=by
  rw[hw]
  split
  . rename_i hk
    unfold eH
    split
    . exact zm8
    . split
      . exact zm8
      . refine alc (uj _ _) h (zs5 ?_)
        rw[show(bP p s a).obj=eU (cl p s a)from(z9s hk).2];exact afx _
  . exact h
 have ht:0<=(cl p s a).id:=by
  unfold cl bg
  split
  . exact yr _
  . exact h _
 rw[ld hw]
 repeat' split
 all_goals first
  |exact zm8
  |exact zjr h1 (zjs ht)
structure mz (s:ag) (i n:Nat):Prop where
 sm:cw s
 all:(allI s.mem).length<=n
 ab:s.ab.length<=n
 cf:∀ j,(s.ae.getD j az).entries.length<=i
 ids:tu s.ab
theorem zbi {l:List bR} {k n:Nat} {x:bR} (h:∀ j,(l.getD j az).entries.length<=n) (hx:x.entries.length<=n) (j:Nat):((l.set k x).getD j az).entries.length<=n:=by
 rw[x7,gq]
 split
 . split
   . exact hx
   . exact xt _
 . rw[<- x7];exact h j
theorem ae0 (b:bR):(bH b).1.entries.length<=b.entries.length:=by
 unfold bH
 repeat' split
 . exact xt _
 . exact xt _
 . show(List.drop 1 _).length<=_;rw[wn];omega
theorem aj7 {l:List bR} {t:Int} {n:Nat} (he:∀ j,(l.getD j az).entries.length<=n):(sC l t).entries.length<=n:=by
 unfold sC;split
 . exact he _
 . exact xt _
theorem zs6 (ts:List aB) {l:List bR} {n:Nat} (he:∀ j,(l.getD j az).entries.length<=n) (j:Nat):((eJ ts l ts.length).getD j az).entries.length<=n:=by
 by_cases hj:j<ts.length
 . rw[z9l _ _ _ (xm _) j hj];exact aj7 he
 . rw[x7,y9 (by rw[xY _ _ _ (xm _)];omega)];exact xt _
theorem pr (i n:Nat):mz aN i n:=⟨zft,xt _,xt _,λ_=>xt _,zm8⟩
theorem ajp {p:ai} {b:Int} {s:ag} {i n k:Nat} {e:Ev} (hp:bI p) (w:mz s i n) (hi:i<1000000):mz (dn p b s k e).1 (i+1) (n+1):=by
 have hs:=w.sm
 have wl:=w.all
 have wt:=w.ab
 have he:∀ j,(s.ae.getD j az).entries.length<=i+1:=λj=>by have :=w.cf j;omega
 have ht:∀ r,dU (cd p b (s.ab.getD k ao) r).1:=λr=>zm4 hp (hs.ok k)
 unfold dn
 simp only
 split
 . split
   . exact pr _ _
   . split
     . exact pr _ _
     . have Z:=zhs hs.mem e.obj e.wrote
       have hx:(bH (s.ae.getD k az)).1.entries.length<=i+1:=by have :=ae0 (s.ae.getD k az);have :=he k;omega
       have :=Z.2
       exact⟨⟨hs.ab,hs.ok,Z.1,by simp only[yy];exact hs.ae,λj=>yd (zbi he hx j) (by omega)⟩,by show(allI (zr s.mem e.obj e.wrote).1).length<=_;omega,by show s.ab.length<=_;omega,zbi he hx,w.ids⟩
 . split
   . split
     . exact pr _ _
     . split
       . exact pr _ _
       . have hx:(cq (s.ae.getD k az) e.obj e.wrote).1.entries.length<=i+1:=by have :=zm7 (s.ae.getD k az) e.obj e.wrote;have :=w.cf k;omega
         exact⟨⟨by simp only[yy];exact hs.ab,zfy hs.ok (ht _),hs.mem,by simp only[yy];exact hs.ae,λj=>yd (zbi he hx j) (by omega)⟩,by show(allI s.mem).length<=_;omega,by simp only[yy];omega,zbi he hx,zjr w.ids (zjs (w.ids k))⟩
   . split
     . exact pr _ _
     . exact⟨⟨by simp only[yy];exact hs.ab,zfy hs.ok (ht _),hs.mem,hs.ae,hs.cf⟩,by show(allI s.mem).length<=_;omega,by simp only[yy];omega,he,zjr w.ids (zjs (w.ids k))⟩
theorem agd {p:ai} {b:Int} {s:ag} {a:Int} {i n:Nat} (hp:bI p) (w:mz s i n) (hn:n<400000) (hi:i<1000000):mz (dH p b s a).1 (i+1) (n+1):=by
 have hs:=w.sm
 have wl:=w.all
 have wt:=w.ab
 unfold dH
 split
 . exact pr _ _
 . obtain⟨h1,h2,h3⟩:=zjl (b:=b) (a:=a) hp hs.sc (show(allI s.mem).length<400000 by omega) (show s.ab.length<1000000 by omega)
   have h2:(allI (da p b (bN s) a).1.mem).length<=(allI s.mem).length+1:=h2
   have h3:(da p b (bN s) a).1.ab.length<=s.ab.length+1:=h3
   refine⟨⟨h1.ab,h1.ok,h1.mem, ?_,λj=>?_⟩, ?_, ?_,λj=>?_,zul (s:=bN s) w.ids⟩
   . show(eJ _ _ _).length<=_;rw[xY _ _ _ (xm _)];exact h1.ab
   . exact zs6 _ hs.cf j
   . show(allI (da p b (bN s) a).1.mem).length<=_;omega
   . show(da p b (bN s) a).1.ab.length<=_;omega
   . have :=zs6 (da p b (bN s) a).1.ab w.cf j;exact Nat.le_succ_of_le this
theorem zza {p:ai} {b:Int} {s:ag} {a:Int} {i n:Nat} (hp:bI p) (w:mz s i n) (hn:n<400000) (hi:i<1000000):mz (zt p b s a).1 (i+1) (n+1):=by
 unfold zt
 split
 . exact pr _ _
 . split
   . exact pr _ _
   . split
     . exact pr _ _
     . split
       . exact pr _ _
       . split
         . split
           . exact pr _ _
           . exact ajp hp w hi
         . exact agd hp w hn hi
def qM (p:ai) (b:Int) (l:List Int):Nat ->ag
 |0=>(zp p b).1
 |i+1=>(zt p b (qM p b l i) (l.getD i 0)).1
def H7 (p:ai) (b:Int) (l:List Int):Nat ->Nat ->Nat
 |0,i=>i
 |k+1,i=>if(zt p b (qM p b l i) (l.getD i 0)).2.2≠0 then i else H7 p b l k (i+1)
def lJ:Nat:=min l.length 200
def W5:Nat:=H7 p b l (lJ l) 0
def hZ:ag:=if(zp p b).2≠0 then(zp p b).1 else qM p b l (W5 p b l)
theorem zzb (p:ai) (b:Int) (l:List Int):∀ k i,H7 p b l k i<=i+k
 |0,i=>xm _
 |k+1,i=>by
  unfold H7
  split
  . omega
  . have :=zzb p b l k (i+1);omega
theorem F9 {p:ai} {b:Int} (l:List Int) {n:Nat} (hp:bI p) (h0:mz (zp p b).1 0 n) (hn:n<=399000):∀ i,i<=200 ->mz (qM p b l i) i (n+i)
 |0,_=>h0
 |i+1,hi=>zza (n:=n+i) hp (F9 l hp h0 hn i (by omega)) (by omega) (by omega)
def oRc:FuncId ->List AV ->Option AV
 |13,_=>some (.av [cx (zp p b).1, .int .i64 (zp p b).2])
 |35,[_,_, .mc _ s, .int _ a]=>some (.av [cx (zt p b (eu s) a).1,dh (zt p b (eu s) a).2.1, .int .i64 (zt p b (eu s) a).2.2])
 |_,_=>none
noncomputable def vRc (p:ai) (b:Int) (n:Nat) (I:Nat ->Option Inv):bm:={C:=di n λ_ _=>false,CC:=aH Tryz.prog GG,b9:=λ_ _=>oRc p b,inv:=I}
def ae9:Option Inv:=match Nat.beq k 5 with
 |true=>some {ι:=Nat,S:=λi=>⟨[(1, .int .i64 b),(2,a8 l),(3, .ptr 3 []),(6, .ptr 6 []),(8, .ptr 8 []),(10, .int .i64 i)],[(3,iM p),(6,fb aN),(8,fb (qM p b l i))]⟩,μ:=λi=>l.length - i,ok:=λi=>i<=lJ l/\H7 p b l (lJ l - i) i=W5 p b l}
 |false=>none
section
variable (p:ai) (b:Int)
def Tu:=(zp p b).snd==0
def GH:=(zp p b).snd !=0
variable (l:List Int) (x3:Nat)
def qta:=x3<=lJ l/\H7 p b l (lJ l - x3) x3=W5 p b l
def Jn:ag×Ev×Int:=zt p b (eu (ze (qM p b l x3))) (og l x3)
def Si:=ze (Jn p b l x3).fst
def MI:Ev×Int:=(Jn p b l x3).snd
def Br:Int:=(MI p b l x3).snd
def yQ:=LS (ze (qM p b l x3)) (ze (hZ p b l))/\true=Tu p b
def SQ:=Br p b l x3 !=0
variable (x1:Nat)
def G5:=qe l x1&&decide (↑x1<(200:Int))
end
theorem aka (hp:bI p) (hE:wK) (hw:mz (zp p b).1 0 399000) (hl:(l.length:Int)<=9223372036854775807) (hI:∀ i,jY (l.getD i 0)):KN 17 [vP p, .int .i64 b,a8 l] (.av [cx (hZ p b l), .bool ((zp p b).2==0)]):=by
 refine Kn (vRc p b 50 (ae9 p b l)) Tryz.func17 (KN 13 [AV.mc z7 (ah p),AV.int j6 b] (AV.av [AV.mc aI (ze (zp p b).fst),AV.int j6 (zp p b).snd])/\(GH p b=true->LS (ze (zp p b).fst) (ze (hZ p b l))/\false=Tu p b)/\(GH p b=false->(∃ (i:Nat),qta p b l i/\(RR b/\UE l/\(0:Int)=(↑i:Int))/\LS (ah p) (ah p)/\((0:Nat)=(0:Nat)/\((0:Nat)=(0:Nat)/\(0:Nat)=(0:Nat)/\(0:Nat)=(0:Nat)/\(0:Nat)=(0:Nat))/\(0:Nat)=(0:Nat))/\LS (ze (Prod.fst (zp p b))) (ze (qM p b l i)))/\∀ i:Nat,qta p b l i->↑l.length<=(9223372036854775807:Int)/\sx l i/\sx l i/\(G5 l i=true->af (↑i) l.length/\KN 35 [AV.mc z7 (ah p),AV.int j6 b,AV.mc aI (ze (qM p b l i)),AV.int j6 (og l i)] (AV.av [AV.mc aI (Si p b l i),AV.mc bF (bX (MI p b l i).fst),AV.int j6 (Br p b l i)])/\(SQ p b l i=true->yQ p b l i)/\(SQ p b l i=false->aM j6 (q9 i)/\(∃ (j:Nat),qta p b l j/\List.length l - j<List.length l - i/\(RR b/\UE l/\q9 i=(↑j:Int))/\LS (ah p) (ah p)/\((RR ((0:Nat))/\∀ (i:Nat),i<(0:Nat)->RR (ak (List.getD [] i ao)))/\(nj/\nj/\(RR ((0:Nat))/\∀ (i:Nat),i<(0:Nat)->RR (a8 (List.getD [] i [])))/\nj)/\RR ((0:Nat))/\∀ (i:Nat),i<(0:Nat)->RR (aA (List.getD [] i az)))/\LS (Si p b l i) (ze (qM p b l j)))))/\(G5 l i=false->yQ p b l i))) ?_
 try delta Tu GH qta UE qe yF sx og Jn Si MI Br yQ SQ q9 nj G5
 simp only[SB,af]
 have W:=λi hi=>F9 l hp hw (xm _) i hi
 have M:lJ l<=200/\lJ l<=l.length:=by unfold lJ;omega
 refine⟨z196 p b hp,λh=>⟨fp (by unfold hZ;rw[x9 h]),(xp.2 h).symm⟩,λh0=>⟨⟨0,⟨xt _,rfl⟩,rfl,fp rfl,fp rfl⟩,λi hi=>?_⟩⟩
 have w:=W i (by omega)
 have t0:true=((zp p b).2==0):=by rw[h0];rfl
 have hS:qM p b l (W5 p b l)=hZ p b l:=by unfold hZ;rw[x8 (by rw[h0];exact λh=>h rfl)]
 simp only[fQ w.sm.r8]
 refine⟨hl,λhlt=>?_,λhge=>⟨fp ?_,t0⟩⟩
 . have hm:∃ k,lJ l - i=k+1:=⟨lJ l - i - 1,by unfold lJ;omega⟩
   obtain⟨k,hk⟩:=hm
   have e:=hi.2
   rw[hk]at e
   unfold H7 at e
   have wa:=w.all
   have wt:=w.ab
   refine⟨hlt.1,zs4 p b _ _ hp w.sm hE (hI i) (by omega),λhx=>⟨fp ?_,t0⟩,λhx=>⟨za (by omega) (by omega),i+1,⟨by omega, ?_⟩,by omega,by omega,fp rfl,fp rfl⟩⟩
   . rw[x9 hx]at e;rw[<- hS,<- e]
   . rw[x8 (by rw[hx];exact λh=>h rfl)]at e
     rw[show lJ l - (i+1)=k from by omega];exact e
 . have e:=hi.2
   rw[show lJ l - i=0 from by unfold lJ at hi ⊢;omega]at e
   rw[<- hS,<- e];rfl
def oLk:FuncId ->List AV ->Option AV
 |26,_ |36,_=>some (.av [dh (zf p s a).1, .bool (zf p s a).2])
 |21,_ |35,_=>some (.av [cx (zt p b s a).1,dh (zt p b s a).2.1, .int .i64 (zt p b s a).2.2])
 |22,_ |37,_=>some (a8 (cI p s))
 |27,_=>some (.bool true)
 |14,_=>some (.bool true)
 |_,_=>none
noncomputable def vLk (p:ai) (b:Int) (s:ag) (a:Int) (n:Nat):bm:={C:=di n λ_ _=>false,CC:=aH Tryz.prog GG,b9:=λ_ _=>oLk p b s a,inv:=λ_=>none}
def oLs:FuncId ->List AV ->Option AV
 |9,_=>some (.bool (kn p))
 |11,_=>some (.bool true)
 |17,_=>some (.av [cx (hZ p b l), .bool ((zp p b).2==0)])
 |18,_=>some (.bool true)
 |_,_=>none
noncomputable def vLs (p:ai) (b:Int) (l:List Int) (n:Nat) (I:Nat ->Option Inv):bm:={C:=di n λ_ _=>false,CC:=aH Tryz.prog GG,b9:=λ_ _=>oLs p b l,inv:=I}
def ad7:Option Inv:=match Nat.beq k 7 with
 |true=>iv ((hZ p b l).ab.length) λi=>⟨[(1, .int .i64 b),(3, .ptr 3 []),(7, .ptr 7 []),(9, .int .i64 i)],[(3,iM p),(7,fb (hZ p b l))]⟩
 |false=>none
theorem aeh {s:ag}:(cI p s).length<=1000000:=by
 unfold cI
 split
 . rename_i hv
   have q1:=z9m s.ae 0
   have q2:=zbd p s s.ab.length
   have h2:=(z12.1 hv).2.1
   have h3:=Yc hv
   unfold cL;rw[xl];omega
 . exact xt _
theorem akq (h:l.length<=1000000):KN 27 [a8 l,a8 l] (.bool true):=by
 have :=adg l l h h
 rwa [beq_self_eq_true]at this
theorem ait (h:cw s):KN 14 [cx s,cx s] (.bool true):=by
 have :=ah8 s s h h
 rwa [wy rfl]at this
section
variable (p:ai) (s:ag) (a:Int)
def Pf:List AV:=AV.mc z7 (ah p)::uM s a
def Ho:=AV.av [AV.mc bF (bX (zf p s a).fst),AV.bool (zf p s a).snd]
end
section
variable (p:ai) (b:Int) (s:ag) (a:Int)
def Mc:List AV:=AV.mc z7 (ah p)::AV.int j6 b::uM s a
def qtb:=AV.mc aI (ze (zt p b s a).fst)
def EA:=AV.av [qtb p b s a,AV.mc bF (bX (qp p b s a)),AV.int j6 (qy p b s a)]
def Np:List AV:=[AV.mc z7 (ah p),AV.mc aI (ze s)]
def BX:=true&&((zf p s a).fst.aC==(zf p s a).fst.aC&&((zf p s a).fst.idx==(zf p s a).fst.idx&&((zf p s a).fst.kind==(zf p s a).fst.kind&&((zf p s a).fst.obj==(zf p s a).fst.obj&&((zf p s a).fst.mutex==(zf p s a).fst.mutex&&((zf p s a).fst.entry==(zf p s a).fst.entry&&((zf p s a).fst.ord==(zf p s a).fst.ord&&((zf p s a).fst.read==(zf p s a).fst.read&&((zf p s a).fst.wrote==(zf p s a).fst.wrote&&true)))))))))
def BT:=BX p s a=true
def qtc:=BT p s a->BT p s a
def Mq:=BX p s a&&(zf p s a).snd==(zf p s a).snd
def Kt:=Mq p s a=true
def qtd:=Kt p s a->Kt p s a
def Dn:=Mq p s a&&qy p b s a==qy p b s a
def J9:=Dn p b s a=true
def qte:=J9 p b s a->J9 p b s a
def AR:Int:=(qp p b s a).aC
def Cc:Int:=(qp p b s a).idx
def Rk:Int:=(qp p b s a).kind
def Rc:Int:=(qp p b s a).obj
def IA:Int:=(qp p b s a).mutex
def Px:Int:=(qp p b s a).entry
def GO:Int:=(qp p b s a).ord
def HN:Int:=(qp p b s a).read
def BK:Int:=(qp p b s a).wrote
def MU:=Dn p b s a&&(AR p b s a==AR p b s a&&(Cc p b s a==Cc p b s a&&(Rk p b s a==Rk p b s a&&(Rc p b s a==Rc p b s a&&(IA p b s a==IA p b s a&&(Px p b s a==Px p b s a&&(GO p b s a==GO p b s a&&(HN p b s a==HN p b s a&&(BK p b s a==BK p b s a&&true)))))))))
def qtf:=MU p b s a=true
def qtg:=qtf p b s a->qtf p b s a
end
theorem ahl (hp:bI p) (hE:lz) (hR:wK) (w:mz s 200 399200) (hI:jY a):KN 18 [vP p, .int .i64 b,cx s, .int .i64 a] (.bool true):=by
 refine Kn (vLk p b s a 83) Tryz.func18 (KN 26 (Pf p s a) (Ho p s a)/\KN 36 (Pf p s a) (Ho p s a)/\KN 21 (Mc p b s a) (EA p b s a)/\KN 35 (Mc p b s a) (EA p b s a)/\KN 22 (Np p s) (a8 (cI p s))/\KN 37 (Np p s) (a8 (cI p s))/\KN 27 [a8 (cI p s),a8 (cI p s)] (AV.bool true)/\(RR true->RR true)/\(RR true->RR true)/\(RR true->RR true)/\qtc p s a/\qtc p s a/\qtc p s a/\qtd p s a/\qtd p s a/\qtd p s a/\qte p b s a/\qte p b s a/\qte p b s a/\qtg p b s a/\qtg p b s a/\(qtf p b s a->KN 14 [qtb p b s a,qtb p b s a] (AV.bool true))/\qtg p b s a/\(MU p b s a&&true)=true) ?_
 try delta uM Pf Ho Mc qtb qp qy EA Np BX BT qtc Mq Kt qtd Dn J9 qte AR Cc Rk Rc IA Px GO HN BK MU qtf qtg
 simp only[SB,af]
 have hs:=w.sm
 have wa:=w.all
 have wt:=w.ab
 refine⟨zqt p s a hp hs hI,zz9 p s a hp hs hI,zqu p b s a hp hs hI (by omega) λ_ _ _ _ _ _=>abb p b s _ a hp hs hE (by omega) (by omega),zs4 p b s a hp hs hR hI (by omega),abg p s hp hs,aap p s hp hs,akq _ (aeh p),λ_=>ait _ (zza hp w (by omega) (by omega)).sm⟩
theorem zma {s:ag} {i n j m:Nat} (w:mz s i n) (h:i<=j) (h2:n<=m):mz s j m:=⟨w.sm,yd w.all h2,yd w.ab h2,λk=>yd (w.cf k) h,w.ids⟩
theorem ace {p:ai} {b:Int} (hp:bI p) (ht:p.ab.length<=1000):mz (zp p b).1 0 399000:=by
 have hs:=ajz (b:=b) hp
 unfold zp at hs ⊢
 split
 . exact pr _ _
 . rename_i h
   rw[x8 h]at hs
   have e:zj p b=(⟨eD p b p.ab.length,(bf p).1,[]⟩,0):=by unfold zj;rw[x8 h]
   refine⟨hs, ?_, ?_,λj=>?_,λj=>?_⟩
   . show(allI (zj p b).1.mem).length<=_
     rw[e]
     unfold allI bf
     split
     . exact xt _
     . show([]++(List.replicate p.conds.length []).flatten).length<=399000
       rw[j8]
       have :∀ n:Nat,(List.replicate n ([]:List Int)).flatten=[]:=λn=>by
        induction n with
        |zero=>rfl
        |succ n ih=>rw[List.replicate_succ,List.flatten_cons,ih];rfl
       rw[this];exact xt _
   . show(zj p b).1.ab.length<=_
     rw[e];show(eD p b _).length<=_;rw[pG];omega
   . exact zs6 _ (λk=>xt _) j
   . show 0<=((zj p b).1.ab.getD j ao).id
     rw[e]
     show 0<=((eD p b p.ab.length).getD j ao).id
     unfold eD
     rw[x7,gh]
     cases hj:(List.range p.ab.length)[j]? with
     |none=>exact yr _
     |some k=>exact zs5 (by omega)
section
variable (p:ai) (b:Int)
def EB:=!Tu p b
def qth:=(!EB p b)=true
def Zc:=qth p b->qth p b
variable (l:List Int)
def SP:=↑(hZ p b l).ab.length<=(9223372036854775807:Int)
def Ov:=EB p b||decide ((20:Int)<↑(hZ p b l).ab.length)
def QY:=LS (ah p) (ah p)/\LS (ze (hZ p b l)) (ze (hZ p b l))
variable (x3:Nat)
def Cp:Int:=((hZ p b l).ab.getD (↑x3:Int).toNat ao).id
def Am:Int:=-1 - Cp p b l x3
def Gj:Nat:=(hZ p b l).ab.length - x3
def OW:=decide ((↑x3:Int)<(↑(hZ p b l).ab.length:Int))
end
theorem zun (hp:uk p) (hn:NmP p) (hE:lz) (hR:wK) (hl:l.length<=140737488355328) (hI:∀ i,jY (l.getD i 0)):KN 4 [vP p, .int .i64 b,a8 l] (.bool true):=by
 refine Kn (vLs p b l 81 (ad7 p b l)) Tryz.func4 (KN 9 [AV.mc z7 (ah p)] (AV.bool (kn p))/\((!kn p)=true->KN 11 [] (AV.bool true)/\RR true)/\((!kn p)=false->KN 17 [AV.mc z7 (ah p),AV.int j6 b,a8 l] (AV.av [AV.mc aI (ze (hZ p b l)),AV.bool (Tu p b)])/\Zc p b/\Zc p b/\(qth p b->SP p b l)/\Zc p b/\Zc p b/\(Ov p b l=true->KN 11 [] (AV.bool true)/\(RR true->RR true)/\(RR true->RR true)/\(RR true->RR true)/\(RR true->KN 18 [AV.mc z7 (ah p),AV.int j6 b,AV.mc aI (ze (hZ p b l)),AV.int j6 (0:Int)] (AV.bool true))/\(RR true->RR true)/\(true&&true)=true)/\(Ov p b l=false->(∃ i,i<=(hZ p b l).ab.length/\(RR b/\(0:Int)=↑i)/\QY p b l)/\∀ i:Nat,i<=(hZ p b l).ab.length->SP p b l/\(OW p b l i=true->af (↑i) (hZ p b l).ab.length/\KN 18 [AV.mc z7 (ah p),AV.int j6 b,AV.mc aI (ze (hZ p b l)),AV.int j6 (Cp p b l i)] (AV.bool true)/\((!!true)=true->(!!true)=true)/\((!!true)=true->(!!true)=true)/\((!!true)=true->(!!true)=true)/\((!!true)=true->af (↑i) (hZ p b l).ab.length)/\((!!true)=true->(!!true)=true)/\((!!true)=true->(!!true)=true)/\((!!true)=true->(!!true)=true)/\((!!true)=true->aM j6 (Am p b l i))/\((!!true)=true->(!!true)=true)/\((!!true)=true->(!!true)=true)/\((!!true)=true->(!!true)=true)/\((!!true)=true->(!!true)=true)/\((!!true)=true->KN 18 [AV.mc z7 (ah p),AV.int j6 b,AV.mc aI (ze (hZ p b l)),AV.int j6 (Am p b l i)] (AV.bool true))/\((!!true)=true->(!!true)=true)/\((!!true)=true->(!!true)=true)/\((!true||!true)=true->false=true)/\((!true||!true)=false->aM j6 (q9 i)/\(∃ j,j<=(hZ p b l).ab.length/\Gj p b l j<Gj p b l i/\(RR b/\q9 i=↑j)/\QY p b l)))/\(OW p b l i=false->KN 11 [] (AV.bool true)/\(RR true->RR true)/\(RR true->RR true)/\(RR true->RR true)/\(RR true->KN 18 [AV.mc z7 (ah p),AV.int j6 b,AV.mc aI (ze (hZ p b l)),AV.int j6 (3:Int)] (AV.bool true))/\(RR true->RR true)/\((true&&true)=true->(true&&true)=true)/\((true&&true)=true->(true&&true)=true)/\((true&&true)=true->(true&&true)=true)/\((true&&true)=true->KN 18 [AV.mc z7 (ah p),AV.int j6 b,AV.mc aI (ze (hZ p b l)),AV.int j6 (-9223372036854775808:Int)] (AV.bool true))/\((true&&true)=true->(true&&true)=true)/\(true&&true&&true)=true)))) ?_
 try delta Tu EB qth Zc SP Ov QY Cp Am q9 Gj OW
 simp only[SB,af,reduceCtorEq]
 refine⟨agn p hp,λ_=>zqy,λhf=>?_⟩
 have hP:=acx hf hn
 have ht:p.ab.length<=1000:=by
  unfold kn at hf
  rw[xa,xd,xd]at hf
  have :=hf.2
  unfold iA at this
  omega
 have w0:=ace (b:=b) hP ht
 have w:mz (hZ p b l) 200 399200:=by
  unfold hZ
  split
  . exact zma w0 (by omega) (by omega)
  . have h1:=zzb p b l (lJ l) 0
    have h2:lJ l<=200:=by unfold lJ;omega
    have h3:W5 p b l<=200:=by unfold W5;omega
    exact zma (F9 l hP w0 (xm _) _ h3) h3 (by omega)
 have wt:=w.ab
 have K:=λa hI=>ahl p b (hZ p b l) a hP hE hR w hI
 have id:=λj=>(⟨w.ids j,(w.sm.ok j).id⟩:0<=((hZ p b l).ab.getD j ao).id/\_)
 refine⟨aka p b l hP hR w0 (by omega) hI,λ_=>by omega,λ_=>⟨zqy,λ_=>K 0 ⟨by omega,by omega⟩⟩,λh=>⟨⟨0,xt _,rfl,fp rfl,fp rfl⟩,λi hi=>⟨by omega,λhlt=>⟨hlt,K _ ⟨by have :=id i;omega,by have :=id i;omega⟩,λ_=>hlt,λ_=>za (by have :=id i;omega) (by have :=id i;omega),λ_=>K _ ⟨by have :=id i;omega,by have :=id i;omega⟩,λh=>h.elim False.elim False.elim,λ_=>⟨za (by omega) (by omega),i+1,by omega,by omega,rfl,fp rfl,fp rfl⟩⟩,λhge=>⟨zqy,λ_=>K 3 ⟨by omega,by omega⟩,λ_=>K _ ⟨by omega,by omega⟩⟩⟩⟩⟩
def gW:AV:= .bD .leaf l.length λi=> .int .i64 (l.getD i 0)
def afa (l:List (List Int)):ar:= .row 29 .leaf l.length λi=>gW (l.getD i [])
def abn:List ar:=[bw m.vars,bw m.aa,afa m.a6,bw m.sig]
def Ze:FuncId ->List AV ->Option AV
 |225,[.seq _ n f]=>some (gW (zw n f))
 |_,_=>none
noncomputable def vEc (n:Nat):bm:={C:={di n (λ_ _=>false)with mq:=λd=>Nat.beq d 6},CC:=aH Tryz.prog GG,b9:=λ_ _=>Ze,inv:=λ_=>none}
theorem zuo:ct {di n (λ_ _=>false)with mq:=λd=>Nat.beq d 6}:=ll (by kernel_rfl)
noncomputable def vEd (n:Nat) (inv:Nat ->Option Inv):bm:={C:=di n λf d=>Nat.beq f 225&&(Nat.beq d 8 || (Nat.beq d 11 || Nat.beq d 18)),CC:=aH Tryz.prog GG,b9:=λ_ _=>Ze,inv:=inv}
def oEq:FuncId ->List AV ->Option AV
 |189,[_, .int _ i, .int _ n]=>some (.int .i64 (bC m i n))
 |253,[_, .int _ id]=>some (.bool (nt m id))
 |185,_=>some (va m)
 |_,_=>none
def ald:FuncId ->List AV ->Option (List ar)
 |185,_=>some (abn m)
 |_,_=>none
noncomputable def ab4 (m:Mem) (n:Nat):bu:={di n (λ_ _=>false)with fresh:=ald m,iZ:=λd=>Nat.beq d 39}
theorem zup:ct (ab4 m n):=ll (by kernel_rfl)
noncomputable def vEq (m:Mem) (n:Nat):bm:={C:=ab4 m n,CC:=aH Tryz.prog GG,b9:=λ_ _=>oEq m,inv:=λ_=>none}
def mM:AV:= .seq .leaf l.length λi=>if i<l.length then .int .i64 (l.getD i 0)else .any
def vMq (c id:Int):AV:= .mc zm (.agg [a8 (aZ m c id).1.vars,a8 (aZ m c id).1.aa, .seq .leaf (aZ m c id).1.a6.length (λj=>if j=c.toNat then mM ((aZ m c id).1.a6.getD j [])else gW ((aZ m c id).1.a6.getD j [])),a8 (aZ m c id).1.sig])
def zze:Option Inv:=match Nat.beq k 3 with
 |true=>iv m.a6.length λi=>⟨[(1, .ptr 1 []),(2, .ptr 2 []),(3, .ptr 3 []),(21,aE m.a6),(22, .int .i64 m.a6.length),(23, .int .i64 i)],[(1,iY m),(2,iY du),(3, .cell 32 zm (.agg [.own 8 m.vars.length, .own 11 m.aa.length, .own 15 m.a6.length, .own 18 m.sig.length])),(8,bw m.vars),(11,bw m.aa),(15, .row 29 .leaf m.a6.length λj=>if j<i then gW (m.a6.getD j [])else .ax),(18,bw m.sig)]⟩
 |false=>none
end
end Go.Proofs.S25
