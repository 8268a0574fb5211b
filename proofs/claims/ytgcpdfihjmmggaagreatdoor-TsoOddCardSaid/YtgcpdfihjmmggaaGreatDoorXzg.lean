import Derived.Test.YtgcpdfihjmmggaaGreatDoorXzf
import Derived.Test.YtgcpdfihjmmggaaGreatDoorXza
namespace Go.Proofs.S25
open Go Go.AV
open Go.IntKind renaming i64 -> j6
open Go.AV.Shape (leaf)
noncomputable section
variable {l:List bR} {k:Nat} {p:ai} {b:Int} {s:ag} {a:Int} {i:Nat} {n:Nat}
theorem ai0 (p:ai) (b:Int) (s:ag) (a:Int) (hp:bI p) (hs:cw s) (hE:wK) (hl:s.ab.length<1000000):KN 20 [vP p, .int .i64 b,fi s, .int .i64 a] (.av [cx (da p b (bN s) a).1,dh (da p b (bN s) a).2.1, .int .i64 (da p b (bN s) a).2.2]):=
 (af5 p b (bN s) a hp hs.sc hE hl).weaken (by rfl) ⟨kY p,⟨rfl,rfl⟩,leN s,⟨rfl,rfl⟩,trivial⟩
theorem zg2 (hp:bI p) (hs:cw s) (hv:cQ p 32 s=true) (h0:0<=aS s.ab (aX a)) (hn:¬ a<0) (hb:cm p (s.ab.getD (bb s a) ao)=true) (hx:(¬ (zg p (s.ab.getD (bb s a) ao)).op=8/\¬ (zg p (s.ab.getD (bb s a) ao)).op=14)/\¬ (zg p (s.ab.getD (bb s a) ao)).op=9) (hl:zf p s a=bA p (bN s) a):
 (zf p s a).1=bP p (bN s) a/\(zf p s a).1.kind≠1/\(zf p s a).1.kind≠8/\(zf p s a).1.kind≠3/\(zf p s a).1.kind≠4:=by
 obtain⟨f1,f2,_⟩:=zhu hp (hs.ok (bb s a)) (z12.1 hv).1 hb
 rw[<- f2]at f1
 have ea:aX a=a:=by unfold aX;rw[x8 hn]
 have h0':=h0
 rw[ea]at h0'
 have eA:(aS s.ab a).toNat=bb s a:=by unfold bb;rw[ea]
 have hr:bg p (bN s) a=(s.ab.getD (bb s a) ao,zg p (s.ab.getD (bb s a) ao),true):=by
  unfold bg
  rw[x8 (show ¬ aS (bN s).ab a<0 from(by omega:¬ aS s.ab a<0))]
  show(s.ab.getD (aS s.ab a).toNat ao,zg p (s.ab.getD (aS s.ab a).toNat ao),cm p (s.ab.getD (aS s.ab a).toNat ao))=_
  rw[eA,hb]
 have e:(zf p s a).1=bP p (bN s) a:=by
  rw[hl];unfold bA bP cl c5
  rw[x8 (by rw[ab6 hv];simp),x8 (by rw[hr];simp)]
 have e2:bP p (bN s) a=aR (bN s) (s.ab.getD (bb s a) ao) (zg p (s.ab.getD (bb s a) ao)):=by unfold bP cl c5;rw[hr]
 refine⟨e, ?_⟩
 rw[e,e2]
 exact ajl (bN s) _ f1.ok.op hx.1.1 hx.1.2 hx.2
theorem aa9 {L:List aB} {M:Mem} {B:List bR} {e:Ev} {r:ag×Ev×Int} (hr:r=(⟨L,M,B⟩,e,0)):
 ((L.length=r.1.ab.length/\∀ i:Nat,i<L.length ->ak (L.getD i ao)=ak (r.1.ab.getD i ao))/\LS (aj M) (aj r.1.mem)/\B.length=r.1.ae.length/\∀ i:Nat,i<B.length ->aA (B.getD i az)=aA (r.1.ae.getD i az))/\LS (bX e) (bX r.2.1)/\0=r.2.2:=by
 subst hr;exact⟨⟨⟨rfl,λ_ _=>rfl⟩,fp rfl,rfl,λ_ _=>rfl⟩,fp rfl,rfl⟩
theorem Yk {L:List aB} {k:Nat} {x:aB} {M:Mem} {B:List bR} {e:Ev} {r:ag×Ev×Int} (hk:k<L.length) (hr:r=(⟨L.set k x,M,B⟩,e,0)):
 ((L.length=r.1.ab.length/\∀ i:Nat,i<L.length ->(if i=k then ak x else ak (L.getD i ao))=ak (r.1.ab.getD i ao))/\LS (aj M) (aj r.1.mem)/\B.length=r.1.ae.length/\∀ i:Nat,i<B.length ->aA (B.getD i az)=aA (r.1.ae.getD i az))/\LS (bX e) (bX r.2.1)/\0=r.2.2:=by
 subst hr;exact⟨⟨⟨by simp,λi _=>zfz i hk⟩,fp rfl,rfl,λ_ _=>rfl⟩,fp rfl,rfl⟩
section
variable (p:ai) (b:Int) (s:ag) (a:Int)
def qt2:Nat:=(zt p b s a).fst.ab.length
def Tw:Nat:=(zt p b s a).fst.ae.length
def IP:=qt2 p b s a=0/\((zt p b s a).fst.mem.vars.length=0/\(zt p b s a).fst.mem.aa.length=0/\(zt p b s a).fst.mem.a6.length=0/\(zt p b s a).fst.mem.sig.length=0)/\Tw p b s a=0
def AO:=AV.mc c7 (aA (s.ae.getD (uw s a) az))
def J0:=aA (bH (s.ae.getD (bb s a) az)).fst
def LZ:=AV.mc c7 (J0 s a)
def BR:cD×Int×Int:=(bH (s.ae.getD (bb s a) az)).snd
def qt3:cD:=(BR s a).fst
def Q3:Int×Int:=(BR s a).snd
def CJ:Int:=(qt3 s a).var
def zC:Int:=(qt3 s a).val
def Pr:Mem×Int:=zr s.mem (CJ s a) (zC s a)
def BC:=aj (Pr s a).fst
def qt4:List bR:=fc s.ae (dB (J0 s a))
def qt5:=s.ab.length=qt2 p b s a
variable (x4:Nat)
def YJ:=ak ((zt p b s a).fst.ab.getD x4 ao)
def C9:Nat:=(qt4 s a).length
def qjv:=aA ((zt p b s a).fst.ae.getD x4 az)
def qjw:=LS (bX (zf p s a).fst) (bX (qp p b s a))/\0=qy p b s a
def EZ:=(zf p s a).fst.kind==4
def qjx:=af (qx s a) s.ab.length
def K3:=AV.mc zk (ak (s.ab.getD (uw s a) ao))
def HB:aB×Int:=cd p b (s.ab.getD (bb s a) ao) (zf p s a).fst.read
def Km:=ak (HB p b s a).fst
def D0:=uw s a<s.ab.length
def It:=LS (aj s.mem) (aj (zt p b s a).fst.mem)
def FE:=qjx s a/\KN 49 [AV.mc z7 (ah p),AV.int j6 b,K3 s a,AV.int j6 (zf p s a).fst.read] (AV.av [AV.mc zk (Km p b s a),AV.int j6 (HB p b s a).snd])/\qjx s a/\D0 s a/\s.ab.length<=s.ab.length/\s.ae.length<=s.ae.length/\((qt5 p b s a/\∀ i:Nat,i<s.ab.length->(if i=(max (aS s.ab (aX a)) 0).toNat then Km p b s a else ak (s.ab.getD i ao))=YJ p b s a i)/\It p b s a/\s.ae.length=Tw p b s a/\∀ i:Nat,i<s.ae.length->aA (s.ae.getD i az)=qjv p b s a i)/\qjw p b s a
def EI:=(zf p s a).fst.kind==1
def Kk:=EI p s a=true
def RY:bR×Int×Int:=cq (s.ae.getD (bb s a) az) (zf p s a).fst.obj (zf p s a).fst.wrote
def FO:=aA (RY p s a).fst
def BD:=AV.mc c7 (FO p s a)
def FP:Int×Int:=(RY p s a).snd
def Nq:Int:=(FP p s a).snd
def O5:=Nq p s a !=0
def Ma:aB×Int:=cd p b (s.ab.getD (bb s a) ao) 0
def JG:=ak (Ma p b s a).fst
def qt6:List bR:=fc s.ae (dB (FO p s a))
def zO:Nat:=(qt6 p s a).length
def IJ:=(zf p s a).fst.kind==3
def Rp:=AV.mc aI (ze (da p b (bN s) a).fst)
def qt7:Int:=(da p b (bN s) a).snd.snd
def Bn:=qt7 p b s a !=0
def CY:=aj (da p b (bN s) a).fst.mem
def qt8:Nat:=(da p b (bN s) a).fst.ab.length
def qt9:List bR:=eJ (da p b (bN s) a).fst.ab s.ae (qt8 p b s a)
def Ac:Nat:=(qt9 p b s a).length
def Gd:=(IJ p s a=true->Ub s a/\KN 75 [AO s a,AV.int j6 (zf p s a).fst.obj,AV.int j6 (zf p s a).fst.wrote] (AV.av [BD p s a,AV.int j6 (FP p s a).fst,AV.int j6 (Nq p s a)])/\(O5 p s a=true->IP p b s a/\nC p b s a/\30=qy p b s a)/\(O5 p s a=false->qjx s a/\KN 49 [AV.mc z7 (ah p),AV.int j6 b,K3 s a,AV.int j6 (0:Int)] (AV.av [AV.mc zk (JG p b s a),AV.int j6 (Ma p b s a).snd])/\qjx s a/\D0 s a/\s.ab.length<=s.ab.length/\s.ab.length<=s.ab.length/\s.ae.length<=s.ae.length/\s.ab.length<=s.ab.length/\s.ae.length<=s.ae.length/\KN 74 [aY s.ae,BD p s a] (aY (qt6 p s a))/\((qt5 p b s a/\∀ i:Nat,i<s.ab.length->(if i=(max (aS s.ab (aX a)) 0).toNat then JG p b s a else ak (s.ab.getD i ao))=YJ p b s a i)/\It p b s a/\zO p s a=Tw p b s a/\∀ i:Nat,i<zO p s a->aA ((qt6 p s a).getD i az)=qjv p b s a i)/\qjw p b s a))/\(IJ p s a=false->KN 76 [AV.mc aI (ze s)] (mF s)/\KN 20 [AV.mc z7 (ah p),AV.int j6 b,mF s,AV.int j6 a] (AV.av [Rp p b s a,AV.mc bF (bX (da p b (bN s) a).snd.fst),AV.int j6 (qt7 p b s a)])/\(Bn p b s a=true->IP p b s a/\nC p b s a/\qt7 p b s a=qy p b s a)/\(Bn p b s a=false->KN 29 [Rp p b s a,aY s.ae] (AV.mc aI (AV.agg [aF (da p b (bN s) a).fst.ab,CY p b s a,aY (qt9 p b s a)]))/\((qt8 p b s a=qt2 p b s a/\∀ i:Nat,i<qt8 p b s a->ak ((da p b (bN s) a).fst.ab.getD i ao)=YJ p b s a i)/\LS (CY p b s a) (aj (zt p b s a).fst.mem)/\Ac p b s a=Tw p b s a/\∀ i:Nat,i<Ac p b s a->aA ((qt9 p b s a).getD i az)=qjv p b s a i)/\qjw p b s a))
def Rv:=EI p s a=false
def Cf:=(zf p s a).fst.kind==8
end
theorem zs4 (p:ai) (b:Int) (s:ag) (a:Int) (hp:bI p) (hs:gE p s) (hE:wK) (hI:jY a) (hq:cQ p b s=true ->(allI s.mem).length<400000):KN 35 [vP p, .int .i64 b,cx s, .int .i64 a] (.av [cx (zt p b s a).1,dh (zt p b s a).2.1, .int .i64 (zt p b s a).2.2]):=by
 refine Kn (vR8 p b s a 204) Tryz.func35 (KN 68 [AV.mc z7 (ah p)] (AV.av [AV.int j6 (zc p).fst,AV.int j6 (zc p).snd.fst,AV.int j6 (zc p).snd.snd])/\(T8 p=true->IP p b s a/\nC p b s a/\(zc p).fst=qy p b s a)/\(T8 p=false->l8 b/\l8 b/\(l7 b=true->IP p b s a/\nC p b s a/\2=qy p b s a)/\(l7 b=false->KN 69 [AV.mc z7 (ah p),AV.int j6 b,AV.mc aI (ze s)] (AV.bool (cQ p b s))/\((!cQ p b s)=true->IP p b s a/\nC p b s a/\1=qy p b s a)/\((!cQ p b s)=false->KN 37 [AV.mc z7 (ah p),AV.mc aI (ze s)] (a8 (cI p s))/\KN 70 [a8 (cI p s),AV.int j6 a] (AV.bool (aQ (cI p s) a))/\((!aQ (cI p s) a)=true->IP p b s a/\nC p b s a/\19=qy p b s a)/\((!aQ (cI p s) a)=false->KN 36 (AV.mc z7 (ah p)::uM s a) (AV.av [AV.mc bF (bX (zf p s a).fst),AV.bool (zf p s a).snd])/\KN 71 (uM s a) (AV.av [AV.int j6 (qx s a),AV.bool (decide ((0:Int)<=aS s.ab (aX a)))])/\(KF (47:Nat) [AV.mc aI (ze s)] (AV.mc aI (AV.agg [AV.own (0:Nat) s.ab.length,aj s.mem,AV.own (1:Nat) s.ae.length])) [ar.row (51:TypeId) zk s.ab.length λi=>ak (s.ab.getD i ao),ar.row (68:TypeId) c7 s.ae.length λi=>aA (s.ae.getD i az)])/\(EZ p s a=true->Ub s a/\KN 72 [AO s a] (AV.av [LZ s a,AV.mc dz (cF (qt3 s a)),AV.int j6 (Q3 s a).fst,AV.int j6 (Q3 s a).snd])/\KN 73 [AV.mc zm (aj s.mem),AV.int j6 (CJ s a),AV.int j6 (zC s a)] (AV.av [AV.mc zm (BC s a),AV.int j6 (Pr s a).snd])/\s.ab.length<=s.ab.length/\s.ae.length<=s.ae.length/\s.ab.length<=s.ab.length/\s.ae.length<=s.ae.length/\KN 74 [aY s.ae,LZ s a] (aY (qt4 s a))/\((qt5 p b s a/\∀ i:Nat,i<s.ab.length->ak (s.ab.getD i ao)=YJ p b s a i)/\LS (BC s a) (aj (zt p b s a).fst.mem)/\C9 s a=Tw p b s a/\∀ i:Nat,i<C9 s a->aA ((qt4 s a).getD i az)=qjv p b s a i)/\qjw p b s a)/\(EZ p s a=false->(Kk p s a->(Kk p s a->FE p b s a)/\(Rv p s a->Gd p b s a))/\(Rv p s a->(Cf p s a=true->FE p b s a)/\(Cf p s a=false->Gd p b s a)))))))) ?_
 try delta qt2 Tw IP qp nC qy T8 wH wO l8 l7 uM qx Ub uw AO J0 LZ BR qt3 Q3 CJ zC Pr BC qt4 qt5 YJ C9 qjv qjw EZ qjx K3 HB Km D0 It FE EI Kk RY FO BD FP Nq O5 Ma JG qt6 zO IJ mF Rp qt7 Bn CY qt8 qt9 Ac Gd Rv Cf
 simp only[SB,af]
 have ld:zt p b s a=if(zc p).1≠0 then(aN,aW,(zc p).1)else if b<1∨32<b then(aN,aW,2)else if cQ p b s=false then(aN,aW,1)
  else if aQ (cL p s) a=false then(aN,aW,19)
  else if fj (zu p s a).1 then
   (if(dn p b s (bb s a) (zu p s a).1).2≠0 then(aN,aW,(dn p b s (bb s a) (zu p s a).1).2)else((dn p b s (bb s a) (zu p s a).1).1,(zu p s a).1,0))
  else dH p b s a:=rfl
 refine⟨zoi p hp,λh=>qO (by rw[ld,x9 h]),λh1=>⟨λh=>qO (by rw[ld,x8 (by simp[h1]),x9 h]),λh2=>⟨zrx p b s hp hs.wo,λh=>qO (by rw[ld,x8 (by simp[h1]),x8 (by omega),x9 h]),λhvb=>?_⟩⟩⟩
 rw[x8 (by simp[h1]),x8 (by omega),x8 (by simp[hvb])]at ld
 have hv:=afz hvb
 have ho:=hs
 have hs:=hs.s _ hvb
 have hq:=hq hvb
 have hen:cI p s=cL p s:=by unfold cI;rw[x9 hv]
 rw[hen]
 have hn:=Yc hv
 have hag:(cL p s).length<=1000000:=by
  have q1:=z9m s.ae 0
  have q2:=zbd p s s.ab.length
  have h2:=(z12.1 hv).2.1
  unfold cL;rw[xl];omega
 refine⟨by rw[<- hen];exact aap p s hp ho,Ts _ _ (by omega),λh=>qO (by rw[ld,x9 h]),λha=>?_⟩
 rw[x8 (by simp[ha])]at ld
 obtain⟨h0,lT,lC⟩:=zs0 hv ha
 rw[<- lT]at ld
 obtain⟨hk,eF,hid,vM,hlen,hbv,hbe⟩:=zuj hvb h0
 have eK:(aS s.ab (aX a)).toNat=bb s a:=rfl
 simp only[yc h0,eK]
 have hk1:=hk.1
 have hk2:=hk.2
 have heb:=hs.cf (bb s a)
 have hform:ca s.mem=true:=by
  unfold ec at vM
  simp only[xa,xo]at vM
  exact vM.2.1
 have vT:=((z12.1 hvb).2.2 (bb s a) hk1).1.1
 have kf:=zjp s a ho.wo hI
 rw[yc h0]at kf
 have bO:∀ r,wr r=r ->cm p (s.ab.getD (bb s a) ao)=true ->(cd p b (s.ab.getD (bb s a) ao) r).2=0:=λr hr hb=>by
  unfold cm at hb
  rw[xa,xo]at hb
  exact zz2 vT hb.1 hr
 have B:(zf p s a).1.kind=1∨(zf p s a).1.kind=8 ->cm p (s.ab.getD (bb s a) ao)=true/\wr (zf p s a).1.read=(zf p s a).1.read:=λhk=>by
  rcases lC with lC | ⟨ln,lb,lC |lC |lC⟩
  . have :=lC.2.2.1;omega
  . rw[lC.2.2];exact⟨lb,ac8 hform _⟩
  . have :=lC.2.1;omega
  . exfalso
    have :=(zg2 hp hs hv h0 ln lb lC.1 lC.2).2
    omega
 have fB:(zf p s a).1.kind=1∨(zf p s a).1.kind=8 ->zt p b s a=(⟨s.ab.set (bb s a) (cd p b (s.ab.getD (bb s a) ao) (zf p s a).1.read).1,s.mem,s.ae⟩,(zf p s a).1,0):=λhk=>by
  have e1:fj (zf p s a).1=true:=by unfold fj;simp only[xk,xo];omega
  have e2:dn p b s (bb s a) (zf p s a).1=(⟨s.ab.set (bb s a) (cd p b (s.ab.getD (bb s a) ao) (zf p s a).1.read).1,s.mem,s.ae⟩,0):=by
   unfold dn;rw[x8 (by omega),x8 (by omega),x8 (by rw[bO _ (B hk).2 (B hk).1];exact λh=>h rfl)]
  rw[ld,x9 e1,e2,x8 (λh=>h rfl)]
 have kB:∀ x:bR,x.entries.length<=1000000 ->_:=λx hx=>ai5 s.ae x hs.ae hs.cf hx
 have kC:=λr=>zpu p b (s.ab.getD (bb s a) ao) r hp (hs.ok (bb s a))
 have Bg:∀ hk:(zf p s a).1.kind=1∨(zf p s a).1.kind=8,_:=λhk=>Yk hk1 (fB hk)
 have D:(zf p s a).1.kind≠4 ->(zf p s a).1.kind≠1 ->(zf p s a).1.kind≠8 ->(zf p s a).1.kind≠3 ->zt p b s a=dH p b s a/\(zf p s a).1=bP p (bN s) a:=λq4 q1 q8 q3=>by
  refine⟨by rw[ld,x8 (by unfold fj;simp only[xk,xo];omega)], ?_⟩
  rcases lC with lC | ⟨ln,lb,lC |lC |lC⟩
  . exact absurd lC.2.2.1 q4
  . omega
  . exact absurd lC.2.1 q3
  . exact(zg2 hp hs hv h0 ln lb lC.1 lC.2).1
 have C:(zf p s a).1.kind=3 ->cm p (s.ab.getD (bb s a) ao)=true/\(zf p s a).1.read=0:=λq3=>by
  rcases lC with lC | ⟨ln,lb,lC |lC |lC⟩
  . have :=lC.2.2.1;omega
  . omega
  . exact⟨lb,lC.2.2.2.2⟩
  . have :=(zg2 hp hs hv h0 ln lb lC.1 lC.2).2;omega
 have Cg:(zf p s a).1.kind=3 ->∀ q:¬ (cq (s.ae.getD (bb s a) az) (zf p s a).1.obj (zf p s a).1.wrote).2.2≠0,zt p b s a=(⟨s.ab.set (bb s a) (cd p b (s.ab.getD (bb s a) ao) 0).1,s.mem,fc s.ae (cq (s.ae.getD (bb s a) az) (zf p s a).1.obj (zf p s a).1.wrote).1⟩,(zf p s a).1,0):=λq3 q=>by
  have e1:fj (zf p s a).1=true:=by unfold fj;simp only[xk,xo];omega
  have e2:dn p b s (bb s a) (zf p s a).1=(⟨s.ab.set (bb s a) (cd p b (s.ab.getD (bb s a) ao) 0).1,s.mem,fc s.ae (cq (s.ae.getD (bb s a) az) (zf p s a).1.obj (zf p s a).1.wrote).1⟩,0):=by
   unfold dn
   rw[x8 (by omega),x9 q3,x8 q,(C q3).2,x8 (by rw[bO 0 rfl (C q3).1];exact λh=>h rfl),zs2 hvb h0 (ajb (ye.1 q))]
  rw[ld,x9 e1,e2,x8 (λh=>h rfl)]
 refine⟨zz9 p s a hp ho hI,kf,Yi s hs,λh4=>?_,λh4=>?_⟩
 . rcases lC with lC | ⟨ln,lb,lC |lC |lC⟩
   . obtain⟨_,le,_,lo,lw⟩:=lC
     have hpop:=al4 hbv le
     have hen0:mv ((s.ae.getD (bb s a) az).entries.getD 0 cc)=true:=((z21 _).1 hbv).2 0 le
     unfold mv at hen0
     simp only[xa,xd]at hen0
     have hvar:=hbe 0 le
     have hml:s.mem.vars.length=p.vars.length:=by
      unfold ec at vM
      simp only[xa,xo]at vM
      omega
     refine⟨⟨h0,by omega⟩,adt _ heb,zfx _ _ _ hs.mem,kB _ ?_,aa9 ?_⟩
     . rw[hpop];show(List.drop 1 _).length<=_;rw[wn];omega
     have e1:fj (zf p s a).1=true:=by unfold fj;simp only[xk,xo];omega
     have e2:dn p b s (bb s a) (zf p s a).1=(⟨s.ab,(zr s.mem (bH (s.ae.getD (bb s a) az)).2.1.var (bH (s.ae.getD (bb s a) az)).2.1.val).1,fc s.ae (bH (s.ae.getD (bb s a) az)).1⟩,0):=by
      unfold dn
      rw[x9 h4,zs2 hvb h0 (by rw[hpop]),lo,lw,hpop]
      rw[x8 (λh=>h rfl),x8 (by rw[z138 hform (by omega) (by omega)];exact λh=>h rfl)]
     rw[ld,x9 e1,e2,x8 (λh=>h rfl)]
   . omega
   . have :=lC.2.1;omega
   . have :=(zg2 hp hs hv h0 ln lb lC.1 lC.2).2;omega
 have kp:=zjo s
 have kS:=ai0 p b s a hp hs hE (by omega)
 refine⟨λq1=>⟨λ_=>⟨⟨h0,by omega⟩,kC _,⟨h0,by omega⟩,hk1,Bg (.inl q1)⟩,λq=>absurd q1 q⟩,λq1=>⟨λq8=>⟨⟨h0,by omega⟩,kC _,⟨h0,by omega⟩,hk1,Bg (.inr q8)⟩,λq8=>⟨λq3=>⟨⟨h0,by omega⟩,aiz _ _ _ heb,λq=>qO ?_,λq=>⟨⟨h0,by omega⟩,kC 0,⟨h0,by omega⟩,hk1,kB _ ?_,Yk hk1 (Cg q3 (by rw[q];exact λh=>h rfl))⟩⟩,λq3=>⟨kp,kS,λq=>qO ?_,λq=>⟨zx6 _ _ ?_ hs.ae hs.cf, ?_⟩⟩⟩⟩⟩
 . have e1:fj (zf p s a).1=true:=by unfold fj;simp only[xk,xo];omega
   have e2:dn p b s (bb s a) (zf p s a).1=(aN,30):=by unfold dn;rw[x8 (by omega),x9 q3,x9 q]
   rw[ld,x9 e1,e2,x9 (by decide)]
 . have :=zm7 (s.ae.getD (bb s a) az) (zf p s a).1.obj (zf p s a).1.wrote
   have :=((z21 _).1 hbv).1
   omega
 . rw[(D h4 q1 q8 q3).1];unfold dH;rw[x9 q]
 . exact(zjl hp hs.sc hq (by show s.ab.length<1000000;omega)).1
 . refine aa9 ?_
   obtain⟨d1,d2⟩:=D h4 q1 q8 q3
   rw[d1,d2,<- z139 q]
   unfold dH
   rw[x8 (by rw[q];exact λh=>h rfl)]
   rfl
def tu (l:List aB):Prop:=∀ j,0<=(l.getD j ao).id
theorem zm8:tu []:=λ_=>yr _
theorem zjr {l:List aB} {k:Nat} {t:aB} (h:tu l) (ht:0<=t.id):tu (l.set k t):=λj=>by
 rw[x7,gq]
 split
 . split
   . exact ht
   . exact yr _
 . rw[<- x7];exact h j
theorem alc {l:List aB} {n:Nat} {t:aB} (hn:n<=l.length) (h:tu l) (ht:0<=t.id):tu (gB l t n):=λj=>by
 rw[z9r _ _ _ hn]
 split
 . exact h _
 . split
   . exact ht
   . exact h _
theorem zjs {t:aB} {r:Int} (h:0<=t.id):0<=(cd p b t r).1.id:=by
 unfold cd
 split
 . exact yr _
 . split
   . exact yr _
   . split
     . exact yr _
     . split
       . exact yr _
       . show 0<=(jq p b _ _).id
         rw[zbh,(Y2 _ _ _).1];exact h
theorem zs5 {id fn arg:Int} (h:0<=id):0<=(ba p b id fn arg).1.id:=by
 unfold ba
 split
 . exact yr _
 . split
   . exact yr _
   . split
     . exact yr _
     . split
       . exact yr _
       . show 0<=(jq p b _ _).id
         rw[zbh];exact h
theorem afx (t:aB):0<=eU t:=by
 unfold eU
 split
 . rename_i h
   unfold cA at h
   simp at h
   have :=tO (id:=t.id) (by omega)
   omega
 . decide
theorem zul (h:tu s.ab):tu (da p b s a).1.ab:=by
 have ld:∀ {w:ag×Int},w=(if(bP p s a).kind=16 then eH p b {s with mem:=(cW p s a).1} (bP p s a).obj (c5 p s a).obj (bp (cl p s a) (c5 p s a).b)else({s with mem:=(cW p s a).1},0)) ->da p b s a=
  if aV p b≠0 then(aN,aW,aV p b)else if bT p b s=false then(aN,aW,1)else if(bg p s a).2.2=false∨z20 s (cl p s a) (c5 p s a)=false then(aN,aW,19)else if(cW p s a).2.2≠0 then(aN,aW,30)
  else if w.2≠0 then(aN,aW,w.2)else if(gY p b s a).2≠0 then(aN,aW,(gY p b s a).2)else({w.1 with ab:=w.1.ab.set (aS w.1.ab a).toNat (gY p b s a).1},bP p s a,0):=λh=>by subst h;rfl
 obtain⟨w,hw⟩:∃ w:ag×Int,w=(if(bP p s a).kind=16 then eH p b {s with mem:=(cW p s a).1} (bP p s a).obj (c5 p s a).obj (bp (cl p s a) (c5 p s a).b)else({s with mem:=(cW p s a).1},0)):=⟨_,rfl⟩
 have h1:tu w.1.ab:=by
  rw[hw]
  split
  . rename_i hk
    unfold eH
    split
    . exact zm8
    . split
      . exact zm8
      . refine alc (uj _ _) h (zs5 ?_)
        rw[show(bP p s a).obj=eU (cl p s a)from(z9s hk).2];exact afx _
  . exact h
 have ht:0<=(cl p s a).id:=by
  unfold cl bg
  split
  . exact yr _
  . exact h _
 rw[ld hw]
 repeat' split
 all_goals first
  |exact zm8
  |exact zjr h1 (zjs ht)
structure mz (s:ag) (i n:Nat):Prop where
 sm:cw s
 all:(allI s.mem).length<=n
 ab:s.ab.length<=n
 cf:∀ j,(s.ae.getD j az).entries.length<=i
 ids:tu s.ab
theorem zbi {x:bR} (h:∀ j,(l.getD j az).entries.length<=n) (hx:x.entries.length<=n) (j:Nat):((l.set k x).getD j az).entries.length<=n:=by
 rw[x7,gq]
 split
 . split
   . exact hx
   . exact xt _
 . simp_all
theorem ae0 (b:bR):(bH b).1.entries.length<=b.entries.length:=by
 unfold bH
 repeat' split
 . exact xt _
 . exact xt _
 . grind
theorem aj7 {t:Int} {n:Nat} (he:∀ j,(l.getD j az).entries.length<=n):(sC l t).entries.length<=n:=by
 unfold sC;split
 . exact he _
 . grind
theorem zs6 (ts:List aB) {l:List bR} {n:Nat} (he:∀ j,(l.getD j az).entries.length<=n) (j:Nat):((eJ ts l ts.length).getD j az).entries.length<=n:=by
 by_cases hj:j<ts.length
 . rw[z9l _ _ _ (xm _) j hj];exact aj7 he
 . rw[x7,y9 (by rw[xY _ _ _ (xm _)];omega)];exact xt _
theorem pr (i n:Nat):mz aN i n:=⟨zft,xt _,xt _,λ_=>xt _,zm8⟩
theorem ajp {k:Nat} {e:Ev} (hp:bI p) (w:mz s i n) (hi:i<1000000):mz (dn p b s k e).1 (i+1) (n+1):=by
 have hs:=w.sm
 have wl:=w.all
 have wt:=w.ab
 have he:∀ j,(s.ae.getD j az).entries.length<=i+1:=λj=>by have :=w.cf j;omega
 have ht:∀ r,dU (cd p b (s.ab.getD k ao) r).1:=λr=>zm4 hp (hs.ok k)
 unfold dn
 simp only
 split
 . split
   . exact pr _ _
   . split
     . exact pr _ _
     . have Z:=zhs hs.mem e.obj e.wrote
       have hx:(bH (s.ae.getD k az)).1.entries.length<=i+1:=by have :=ae0 (s.ae.getD k az);have :=he k;omega
       have :=Z.2
       exact⟨⟨hs.ab,hs.ok,Z.1,by simp;exact hs.ae,λj=>yd (zbi he hx j) (by omega)⟩,by show(allI (zr s.mem e.obj e.wrote).1).length<=_;omega,by show s.ab.length<=_;omega,zbi he hx,w.ids⟩
 . split
   . split
     . exact pr _ _
     . split
       . exact pr _ _
       . have hx:(cq (s.ae.getD k az) e.obj e.wrote).1.entries.length<=i+1:=by have :=zm7 (s.ae.getD k az) e.obj e.wrote;have :=w.cf k;omega
         exact⟨⟨by simp only[yy];exact hs.ab,zfy hs.ok (ht _),hs.mem,by simp only[yy];exact hs.ae,λj=>yd (zbi he hx j) (by omega)⟩,by show(allI s.mem).length<=_;omega,by simp only[yy];omega,zbi he hx,zjr w.ids (zjs (w.ids k))⟩
   . split
     . exact pr _ _
     . exact⟨⟨by simp only[yy];exact hs.ab,zfy hs.ok (ht _),hs.mem,hs.ae,hs.cf⟩,by show(allI s.mem).length<=_;omega,by simp only[yy];omega,he,zjr w.ids (zjs (w.ids k))⟩
theorem agd (hp:bI p) (w:mz s i n) (hn:n<400000) (hi:i<1000000):mz (dH p b s a).1 (i+1) (n+1):=by
 have hs:=w.sm
 have wl:=w.all
 have wt:=w.ab
 unfold dH
 split
 . exact pr _ _
 . obtain⟨h1,h2,h3⟩:=zjl (b:=b) (a:=a) hp hs.sc (show(allI s.mem).length<400000 by omega) (show s.ab.length<1000000 by omega)
   have h2:(allI (da p b (bN s) a).1.mem).length<=(allI s.mem).length+1:=h2
   have h3:(da p b (bN s) a).1.ab.length<=s.ab.length+1:=h3
   refine⟨⟨h1.ab,h1.ok,h1.mem, ?_,λj=>?_⟩, ?_, ?_,λj=>?_,zul (s:=bN s) w.ids⟩
   . show(eJ _ _ _).length<=_;rw[xY _ _ _ (xm _)];exact h1.ab
   . exact zs6 _ hs.cf j
   . show(allI (da p b (bN s) a).1.mem).length<=_;omega
   . show(da p b (bN s) a).1.ab.length<=_;omega
   . have :=zs6 (da p b (bN s) a).1.ab w.cf j;exact Nat.le_succ_of_le this
theorem zza (hp:bI p) (w:mz s i n) (hn:n<400000) (hi:i<1000000):mz (zt p b s a).1 (i+1) (n+1):=by grind[zt,pr,ajp,agd]
theorem zxu:∀ {l:List Nat} {x:Nat},x∈l ->x<=l.sum
 |y::l,x,h=>by
  rw[List.sum_cons]
  rcases xv.1 h with rfl |h
  . omega
  . have :=zxu h;omega
theorem afh {α:Type} (l:List α) (d:α) (f:α ->Nat) (i:Nat) (h0:f d=0):f (l.getD i d)<=((l.take l.length).map f).sum:=by
 rw[jk]
 by_cases hi:i<l.length
 . rw[x7,xe hi]
   show f l[i]<=_
   have :f l[i]∈l.map f:=wv.2 ⟨_,List.getElem_mem hi,rfl⟩
   exact zxu this
 . rw[x7,y9 (by omega)]
   show f d<=_
   omega
theorem acx (h:kn p=true) (hn:NmP p):bI p:=by
 unfold kn at h
 rw[xa,xd,xd]at h
 obtain⟨h1,h2⟩:=h
 rw[show min p.ef.length 20=p.ef.length from by omega]at h2
 unfold iA at h2
 refine⟨by omega,by omega,by omega,by omega,by omega,λi=>?_,λi=>?_,λi=>?_,λi=>?_,λi=>?_⟩
 . have :=afh p.ef bL (λf=>f.code.length) i rfl
   omega
 . have e:((na p).getD i []).length=(p.vars.getD i dY).name.length:=by
    unfold na;rw[x7,x7,gh]
    cases p.vars[i]? <;>rfl
   have :=hn.vn i
   omega
 . have :=hn.mn i;omega
 . have :=hn.cn i;omega
 . have e:((oM p).getD i []).length=(p.ef.getD i bL).name.length:=by
    unfold oM;rw[x7,x7,gh]
    cases p.ef[i]? <;>rfl
   have :=hn.fn i
   omega
end
end Go.Proofs.S25
