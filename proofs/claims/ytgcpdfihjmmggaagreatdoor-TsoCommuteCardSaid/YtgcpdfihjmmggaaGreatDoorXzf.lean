import Derived.Test.YtgcpdfihjmmggaaGreatDoorXze
namespace Go.Proofs.S25
open Go Go.AV Tryz
open Go.IntKind renaming i64 -> j6
open Go.AV.ex (ey)
noncomputable section
variable (p:ai) (b:Int) (s:ja) (k:Nat) (a:Int)
theorem FC {p:ai} {b:Int} {s:ja} {i:Nat} (u:bI p) (hs:cw s) (h:bT p b s) (x:i<s.ab.length) (m:(s.ab.getD i ao).ip=1):
 cm p (s.ab.getD i ao)=true/\fq p b (s.ab.getD i ao)=true/\mA s.l5 (i6 p (s.ab.getD i ao))/\zg p (s.ab.getD i ao)=i6 p (s.ab.getD i ao)/\fy p 32 (s.ab.getD i ao)/\
 (p.ef.getD (s.ab.getD i ao).fn.toNat bL).code.getD (s.ab.getD i ao).pc.toNat dL=i6 p (s.ab.getD i ao)/\(0<=(s.ab.getD i ao).pc/\(s.ab.getD i ao).pc<((p.ef.getD (s.ab.getD i ao).fn.toNat bL).code.length:Int))/\
 ((s.ab.getD i ao).gH=0∨(s.ab.getD i ao).gH=1∨(s.ab.getD i ao).gH=2):=by
 have V:=oP.1 h;have v:=(V.2.2 i x).1;have k:cm p (s.ab.getD i ao)=true:=by unfold cm;rw[m,zjn v];rfl
 have⟨F,E,j,_,_,_⟩:=zhu u (hs.ok i) V.1 k;have f:=(sZ (mD.1 v).2 m).2.1;have y:(s.ab.getD i ao).pc<((p.ef.getD (s.ab.getD i ao).fn.toNat bL).code.length:Int):=by unfold dv at f;exact w7 f
 refine⟨k,v,F,E,j,by unfold i6;rw[x9 f],⟨j.pc.1,y⟩, ?_⟩;rcases j.ph with e |e;exact .inl e;exact .inr e.1
section
variable (s:ja) (x1:Nat)
def FN:=(s.ab.getD (↑x1:Int).toNat ao).ip==1
def Xm:=FN s x1=true
def mS:=Xm s x1->Xm s x1
end
section
variable (p:ai) (s:ja) (x2:Nat)
def Ft:List aK:=(p.ef.getD (s.ab.getD (↑x2:Int).toNat ao).fn.toNat bL).code
def R3:=k8 ((Ft p s x2).getD (s.ab.getD (↑x2:Int).toNat ao).pc.toNat dL)
def JH:=z20 s (dT (ak (s.ab.getD (↑x2:Int).toNat ao))) (dX (R3 p s x2))
def K2:=FN s x2&&JH p s x2
end
theorem Zz (f:bI p) (hs:cw s):KN 43 [vP p,cx s] (a8 (cX p s)):=by
 refine Kn (vR5 p 32 s 0 49 (zz3 p s)) func43 (KN 41 [AV.mc z7 (ah p),d9 (32:Int),AV.mc aI (ze s)] (AV.bool (bT p (32:Int) s))/\Z (!bT p 32 s) ((cX p s).length=0) ((∃ i,r7 p s i/\(VN p s i/\(0:Int)=↑i)/\LS (ah p) (ah p)/\LS (ze s) (ze s)/\VN p s i)/\∀ i:Nat,r7 p s i->aH ↑s.ab.length/\Z (qc s i) (af (↑i) s.ab.length/\mS s i/\mS s i/\mS s i/\mS s i/\(Xm s i->af (s.ab.getD (↑i:Int).toNat ao).fn p.ef.length)/\mS s i/\mS s i/\mS s i/\mS s i/\mS s i/\(Xm s i->af (s.ab.getD (↑i:Int).toNat ao).pc (Ft p s i).length)/\mS s i/\mS s i/\mS s i/\mS s i/\(Xm s i->KN 90 [AV.mc aI (ze s),AV.mc zk (ak (s.ab.getD (↑i:Int).toNat ao)),AV.mc zy (R3 p s i)] (AV.bool (JH p s i)))/\mS s i/\Z (K2 p s i) (1*ey.size<=16777216/\(RR (ez p s i).length/\↑(tB p s i)*↑(8:Nat)<=(140737488355328:Int)/\tB p s i<=9223372036854775807)/\1<=1/\qa i/\(∃ j,r7 p s j/\lr s i j/\(Wt p s i j/\qb i j)/\LS (ah p) (ah p)/\LS (ze s) (ze s)/\Wt p s i j/\∀ (i_1:Nat),i_1<tB p s i->(if i_1<(ez p s i).length then qT p s i i_1 else((List.replicate 1 (d9 0)).set 0 (aq (d9 (s.ab.getD (↑i:Int).toNat ao).id))).getD (i_1 - (ez p s i).length) AV.any)=qT p s j i_1)) (qa i/\(∃ j,r7 p s j/\lr s i j/\(Xr p s i j/\qb i j)/\LS (ah p) (ah p)/\LS (ze s) (ze s)/\Xr p s i j/\∀ (i_1:Nat),i_1<(ez p s i).length->qT p s i i_1=qT p s j i_1))) ((ez p s i).length<=(ez p s i).length/\(ez p s i).length=(cX p s).length/\∀ (i_1:Nat),i_1<(ez p s i).length->qT p s i i_1=d9 ((cX p s).getD i_1 0)))) ?_;try delta Z aH r7 VN FN Xm mS Ft R3 JH tB q9 qa lr Wt qb qT K2 Xr qc
 simp only[SZ];have eT:∀ i,dT (ak (s.ab.getD i ao))=s.ab.getD i ao:=λi=>iz _ (hs.ok i).aw;simp only[eT,iL,w6];have h1:=hs.ab;refine⟨zrl p 32 s f hs,λh=>?_,λh=>⟨⟨0,⟨O,h⟩,⟨rfl,rfl⟩,rfl⟩,λi hi=>⟨O,λhlt=>⟨hlt,λh1=>(FC f hs h hlt h1).2.2.2.2.1.fn,λh1=>(FC f hs h hlt h1).2.2.2.2.2.2.1,λh1=>?_,λh2=>?_,λh2=>?_⟩,λhge=>?_⟩⟩⟩;unfold cX;rw[x8 (by simp[h])];rfl;have⟨_,_,u,_,_,f6,_,r⟩:=FC f hs h hlt h1;rw[f6];exact afc s _ _ hs (hs.ok i) u r;have⟨f1,_,_,m,_,f6,_,_⟩:=FC f hs h hlt h2.1;have hl:=zqa p s i;have e:ez p s (i+1)=ez p s i++[(s.ab.getD i ao).id]:=by rw[ztt p s hlt,x9 (by unfold np;rw[f1,m,<- f6,h2.2];rfl)]
 refine⟨am,O,f9,i+1,⟨hlt,h⟩,O, ?_, ?_⟩;grind;rw[e];exact⟨ap,λj hj=>kI _ _ j hj⟩;have e:ez p s (i+1)=ez p s i:=by
  rw[ztt p s hlt,x8 ?_,yb];unfold np;by_cases k:(s.ab.getD i ao).ip=1;have⟨f1,_,_,m,_,f6,_,_⟩:=FC f hs h hlt k;grind;unfold cm;rw[xp.2 k];simp
 refine⟨f9,i+1,⟨hlt,h⟩,O, ?_, ?_⟩;grind;grind;have e:ez p s i=cX p s:=by
  unfold ez cX;rw[x9 h,xu O]
 grind
section
variable (s:ja) (a:Int)
def qsg:=(!WH s a)=true
def wX:=qsg s a->qsg s a
def qjn:i5:=s.ab.getD (ng s a).toNat ao
def NA:=WH s a||(qjn s a).ip !=1
def On:Int:=(qjn s a).fn
def ME:Int:=(qjn s a).pc
end
section
variable (p:ai) (s:ja) (a:Int)
def RG:List aK:=(p.ef.getD (On s a).toNat bL).code
end
theorem ad8 (i:bI p) (hs:cw s):KN 79 [vP p,cx s,d9 a] (.av [dh (bA p s a).1, .bool (bA p s a).2]):=by
 refine Kn (vR5 p 32 s a 54 λ_=>none) func79 (KN 41 [AV.mc z7 (ah p),d9 (32:Int),AV.mc aI (ze s)] (AV.bool (bT p (32:Int) s))/\Z (!bT p 32 s) (UO p s a) (KN 44 [aF s.ab,d9 a] (AV.av [d9 (ng s a),AV.bool (qia s a)])/\wX s a/\wX s a/\wX s a/\(qsg s a->u7 s a)/\wX s a/\wX s a/\wX s a/\wX s a/\Z (NA s a) (UO p s a) (u7 s a/\af (On s a) p.ef.length/\af (ME s a) (RG p s a).length/\KN 45 [AV.mc aI (ze s),AV.mc zk (ak (qjn s a)),AV.mc zy (k8 ((RG p s a).getD (ME s a).toNat dL))] (AV.mc bF (bX (bP p s a)))/\LS (bX (bP p s a)) (bX (bA p s a).fst)/\true=(bA p s a).snd))) ?_;try delta Z UO ng qia WH qsg wX u7 qjn NA On ME RG
 simp only[SB,af];simp only[z9i hs.r8];have bad:bA p s a=(aW,false) ->(0=(bA p s a).1.aC/\0=(bA p s a).1.ly/\0=(bA p s a).1.kind/\0=(bA p s a).1.ii/\0=(bA p s a).1.k7/\0=(bA p s a).1.entry/\0=(bA p s a).1.ord/\0=(bA p s a).1.read/\0=(bA p s a).1.i4)/\false=(bA p s a).2:=λh=>by rw[h];exact⟨⟨rfl,rfl,rfl,rfl,rfl,rfl,rfl,rfl,rfl⟩,rfl⟩
 refine⟨zrl p 32 s i hs,λh=>bad (by unfold bA;rw[x9 h]),λh=>⟨KW _ _ hs.ab,λh0=>?_,λh0=>bad ?_,λh0=>?_⟩⟩;rw[yc h0];have :=(nL h0).1;omega;unfold bA;rw[x8 (by simp[h]),x9 ?_];cases f:(bg p s a).2.2 with
 |false=>rfl
 |true=>
  have⟨r1,k,_,r4⟩:=NG f;rcases h0 with h0 |h0;omega;rw[yc r1,<- k]at h0;unfold cm at r4;grind
 have⟨r1,j⟩:=h0;simp only[yc r1]at j ⊢;have hlt:=(nL r1).1;have⟨f1,_,x,f4,u,f6,m,_⟩:=FC i hs h hlt j;have f:bg p s a=(s.ab.getD (aS s.ab a).toNat ao,i6 p (s.ab.getD (aS s.ab a).toNat ao),true):=by
  unfold bg;rw[x8 O,f1,f4]
 have e:bA p s a=(bP p s a,true):=by
  unfold bA bP cl c5;rw[x8 (by simp[h]),x8 (by rw[f];simp)]
 have y:bP p s a=m8 s (s.ab.getD (aS s.ab a).toNat ao) (i6 p (s.ab.getD (aS s.ab a).toNat ao)):=by unfold bP cl c5;rw[f]
 rw[e];refine⟨⟨r1,O⟩,u.fn,m, ?_,fp rfl,rfl⟩;rw[f6,y];exact zyt s _ _ hs (hs.ok _) x
theorem zbh (p:ai) (b:Int):∀ (k:Nat) (t:i5),(z4q p b k t).id=t.id
 |0,t=>by
  unfold z4q oc cT
  repeat' split
  all_goals rfl
 |k+1,t=>by
  unfold z4q
  split
  rfl
  . split
    . unfold oc cT
      repeat' split
      all_goals rfl
    split
    rw[zbh p b k,zpk]
    exact zpk _ _
theorem ada {p:ai} {b id fn arg:Int} (h:(ba p b id fn arg).2=0):(ba p b id fn arg).1.id=id:=by
 unfold ba at h ⊢;split at h;contradiction;rename_i j;rw[x8 j];split at h;omega;rename_i i;rw[x8 i];split at h;omega;rename_i f;rw[x8 f];split at h;omega;rename_i e;rw[x8 e];exact zbh p b _ _
theorem aie (t:i5) {i:aK} (h:8<=i.op/\i.op<=22):(m8 s t i).aC=t.id/\((m8 s t i).kind=11 ->(m8 s t i).read=0∨(m8 s t i).read=1):=by
 rcases zbg h with e |e |e |e |e |e |e |e |e |e |e |e |e |e |e;all_goals simp only[m8,bz,im,iP,e,reduceIte,Int.reduceEq,ju,jv,jr,w6]
 exact λh=>absurd h am;exact λh=>absurd h am;exact λh=>absurd h am;exact λh=>absurd h am;split;grind;grind;exact λh=>absurd h am;exact λh=>absurd h am;exact λh=>absurd h am;exact λh=>absurd h am;intro _;unfold ek;omega;split;grind;split;grind;grind;all_goals exact λh=>absurd h (am)
theorem zz5 {L:List i5} {M:i8} {s:ja} {a:Int} {n:i5} {e:Ev} {r:ja×Ev×Int} (k:vk L) (f:0<=aS L a) (j:r=(⟨L.set (aS L a).toNat n,M,s.ae⟩,e,0)):
 (0<=max (aS (dR dT (aF L)) a) 0/\max (aS (dR dT (aF L)) a) 0<(L.length:Int))/\(max (aS (dR dT (aF L)) a) 0).toNat<L.length/\
 ((L.length=r.1.ab.length/\∀ i:Nat,i<L.length ->(if i=(max (aS (dR dT (aF L)) a) 0).toNat then ak n else ak (L.getD i ao))=ak (r.1.ab.getD i ao))/\LS (aj M) (aj r.1.l5)/\s.ae.length=r.1.ae.length/\∀ i:Nat,i<s.ae.length ->aA (s.ae.getD i az)=aA (r.1.ae.getD i az))/\LS (bX e) (bX r.2.1)/\0=r.2.2:=by
 subst j;rw[z9i k,yc f];have h:=(nL f).1;exact⟨⟨f,O⟩,h,⟨⟨ap,λi _=>zfz i h⟩,fp rfl,rfl,λ_ _=>rfl⟩,fp rfl,rfl⟩
theorem qO {r:ja×Ev×Int} {n:Int} (h:r=(mt,aW,n)):(r.1.ab.length=0/\(r.1.l5.eA.length=0/\r.1.l5.aa.length=0/\r.1.l5.a6.length=0/\r.1.l5.lT.length=0)/\r.1.ae.length=0)/\(0=r.2.1.aC/\0=r.2.1.ly/\0=r.2.1.kind/\0=r.2.1.ii/\0=r.2.1.k7/\0=r.2.1.entry/\0=r.2.1.ord/\0=r.2.1.read/\0=r.2.1.i4)/\n=r.2.2:=by
 subst h;exact⟨⟨rfl,df,rfl⟩,⟨rfl,rfl,rfl,rfl,rfl,rfl,rfl,rfl,rfl⟩,rfl⟩
section
variable (p:ai) (b:Int) (s:ja) (a:Int)
def Hl:Nat:=(da p b s a).fst.ae.length
def qjo:=xX p b s a=0/\((da p b s a).fst.l5.eA.length=0/\(da p b s a).fst.l5.aa.length=0/\(da p b s a).fst.l5.a6.length=0/\(da p b s a).fst.l5.lT.length=0)/\Hl p b s a=0
def G8:=KN 44 [aF s.ab,d9 a] (AV.av [d9 (ng s a),AV.bool (decide ((0:Int)<=aS (dR dT (aF s.ab)) a))])
def JW:Nat:=(ng s a).toNat
def XW:i5:=s.ab.getD (JW s a) ao
def AN:Int:=(XW s a).fn
def Gu:Int:=(XW s a).pc
def JO:List aK:=(p.ef.getD (AN s a).toNat bL).code
def Qw:=AV.mc zk (ak (XW s a))
def qsh:aK:=(JO p s a).getD (Gu s a).toNat dL
def MZ:=AV.mc zy (k8 (qsh p s a))
def Jl:=qjo p b s a/\pt p b s a/\30=nX p b s a
def MG:=(tg s p a).snd !=0
def qsi:=decide (0<=aS (dR dT (aF s.ab)) (bP p s a).ii)
def DZ:Int:=(qsh p s a).b
def Rx:=KN 50 [MZ p s a,AV.mc bF (bX (bP p s a))] (d9 (eG (c5 p s a) (bP p s a)))
def Lg:=KN 49 [AV.mc z7 (ah p),d9 b,Qw s a,d9 (eG (c5 p s a) (bP p s a))] (AV.av [AV.mc zk (ak (tn p b s a).fst),d9 (tn p b s a).snd])
def qsj:Int:=max (aS (dR dT (aF (kj p b s a))) a) 0
def Eg:=(kj p b s a).length<=(kj p b s a).length
def yU:=LS (aj (tg s p a).fst) (aj (da p b s a).fst.l5)/\s.ae.length=Hl p b s a/\∀ i:Nat,i<s.ae.length->aA (s.ae.getD i az)=aA ((da p b s a).fst.ae.getD i az)
end
theorem af5 (k:bI p) (hs:cw s) (hE:wK) (hl:s.ab.length<1000000):KN 20 [vP p,d9 b,cx s,d9 a] (.av [cx (da p b s a).1,dh (da p b s a).2.1,d9 (da p b s a).2.2]):=by
 refine Kn (vR5 p b s a 149 λ_=>none) func20 (KN 38 [AV.mc z7 (ah p),d9 b] (d9 (aV p b))/\Z (Uv p b) (qjo p b s a/\pt p b s a/\aV p b=nX p b s a) (KN 41 [AV.mc z7 (ah p),d9 b,AV.mc aI (ze s)] (AV.bool (bT p b s))/\Z (!bT p b s) (qjo p b s a/\pt p b s a/\1=nX p b s a) (KN 43 [AV.mc z7 (ah p),AV.mc aI (ze s)] (a8 (cX p s))/\KN 42 [a8 (cX p s),d9 a] (AV.bool (aQ (cX p s) a))/\Z (!aQ (cX p s) a) (qjo p b s a/\pt p b s a/\19=nX p b s a) (G8 s a/\u7 s a/\af (AN s a) p.ef.length/\af (Gu s a) (JO p s a).length/\KN 45 [AV.mc aI (ze s),Qw s a,MZ p s a] (AV.mc bF (bX (bP p s a)))/\KN 46 [AV.mc zm (aj s.l5),AV.mc bF (bX (bP p s a))] (AV.av [AV.mc zm (aj (tg s p a).fst),d9 (tg s p a).snd])/\Z (MG p s a) (Jl p b s a) ((KF (47:Nat) [AV.mc aI (ze s)] (AV.mc aI (AV.agg [AV.own (0:Nat) s.ab.length,aj s.l5,AV.own (1:Nat) s.ae.length])) [ar.row (51:TypeId) zk s.ab.length λi=>ak (s.ab.getD i ao),ar.row (68:TypeId) c7 s.ae.length λi=>aA (s.ae.getD i az)])/\Z (XC p s a) (KN 44 [aF s.ab,d9 (bP p s a).ii] (AV.av [d9 (max (aS (dR dT (aF s.ab)) (bP p s a).ii) (0:Int)),AV.bool (qsi p s a)])/\Z (qsi p s a) (Jl p b s a) (af (DZ p s a) 8/\KN 40 [AV.mc z7 (ah p),d9 b,d9 (bP p s a).ii,d9 (qsh p s a).ii,d9 ((XW s a).aw.getD (DZ p s a).toNat (0:Int))] (AV.av [AV.mc zk (ak (rp p b s a).fst),d9 (rp p b s a).snd])/\s.ab.length<=s.ab.length/\s.ae.length<=s.ae.length/\s.ab.length<=s.ab.length/\s.ae.length<=s.ae.length/\(KF (48:Nat) [aF s.ab,AV.mc zk (ak (rp p b s a).fst)] (AV.own (0:Nat) (kj p b s a).length) [ar.row (51:TypeId) zk (kj p b s a).length λi=>ak ((kj p b s a).getD i ao)])/\Rx p s a/\Lg p b s a/\KN 44 [aF (kj p b s a),d9 a] (AV.av [d9 (qsj p b s a),AV.bool (decide ((0:Int)<=aS (dR dT (aF (kj p b s a))) a))])/\Eg p b s a/\af (qsj p b s a) (kj p b s a).length/\(qsj p b s a).toNat<(kj p b s a).length/\Eg p b s a/\(((kj p b s a).length=xX p b s a/\∀ i:Nat,i<(kj p b s a).length->(if i=(max (aS (dR dT (aF (kj p b s a))) a) 0).toNat then ak (tn p b s a).fst else ak ((kj p b s a).getD i ao))=qer p b s a i)/\yU p b s a)/\XG p b s a)) (Rx p s a/\Lg p b s a/\G8 s a/\s.ab.length<=s.ab.length/\u7 s a/\JW s a<s.ab.length/\s.ab.length<=s.ab.length/\s.ae.length<=s.ae.length/\((s.ab.length=xX p b s a/\∀ i:Nat,i<s.ab.length->(if i=(max (aS (dR dT (aF s.ab)) a) 0).toNat then ak (tn p b s a).fst else ak (s.ab.getD i ao))=qer p b s a i)/\yU p b s a)/\XG p b s a)))))) ?_;try delta Z xX Hl qjo oY pt nX Uv ng G8 u7 JW XW AN Gu JO Qw qsh MZ Jl MG qsi DZ Rx Lg qsj Eg qer yU XG XC
 simp only[SZ];have f:da p b s a=
  if aV p b≠0 then(mt,aW,aV p b)else if bT p b s=false then(mt,aW,1)else if(bg p s a).2.2=false∨z20 s (cl p s a) (c5 p s a)=false then(mt,aW,19)else if(cW p s a).2.2≠0 then(mt,aW,30)
  else if(if(bP p s a).kind=16 then eH p b {s with l5:=(cW p s a).1} (bP p s a).ii (c5 p s a).ii (bp (cl p s a) (c5 p s a).b)else({s with l5:=(cW p s a).1},0)).2≠0 then(mt,aW,(if(bP p s a).kind=16 then eH p b {s with l5:=(cW p s a).1} (bP p s a).ii (c5 p s a).ii (bp (cl p s a) (c5 p s a).b)else({s with l5:=(cW p s a).1},0)).2)
  else if(gY p b s a).2≠0 then(mt,aW,(gY p b s a).2)else({(if(bP p s a).kind=16 then eH p b {s with l5:=(cW p s a).1} (bP p s a).ii (c5 p s a).ii (bp (cl p s a) (c5 p s a).b)else({s with l5:=(cW p s a).1},0)).1 with ab:=(if(bP p s a).kind=16 then eH p b {s with l5:=(cW p s a).1} (bP p s a).ii (c5 p s a).ii (bp (cl p s a) (c5 p s a).b)else({s with l5:=(cW p s a).1},0)).1.ab.set (aS (if(bP p s a).kind=16 then eH p b {s with l5:=(cW p s a).1} (bP p s a).ii (c5 p s a).ii (bp (cl p s a) (c5 p s a).b)else({s with l5:=(cW p s a).1},0)).1.ab a).toNat (gY p b s a).1},bP p s a,0):=rfl
 refine⟨zx3 p b k,λh=>qO (by rw[f,x9 h]),λh1=>⟨zrl p b s k hs,λh=>qO (by rw[f,x8 (by simp[h1]),x9 h]),λh2=>?_⟩⟩;rw[x8 (by simp[h1]),x8 (by simp[h2])]at f;have V:=oP.1 h2;have a5:(cX p s).length<=s.ab.length:=zjf p s;have a4:=hs.ab;refine⟨Zz p s k hs,zyq _ _ O,λh=>qO ?_,λh3=>?_⟩;have :(bg p s a).2.2=false∨z20 s (cl p s a) (c5 p s a)=false:=by
  refine we λhc=>?_;have :aQ (cX p s) a=true:=(zro h2).2 ⟨by simpa using λhh=>hc (.inl hh),by simpa using λhh=>hc (.inr hh)⟩;rw[h]at this;cases this
 rw[f,x9 this];have⟨h4,h5⟩:=(zro h2).1 h3;have⟨u,X,U,m⟩:=NG h4;rw[x8 (by simp[h4,h5])]at f;simp only[z9i hs.r8,yc u];have a2:=(nL u).1;have⟨f1,f2,y,f4,f5,f6,f7,f8⟩:=FC k hs h2 a2 (by rw[<- X];unfold cm at m;rw[xa,xo]at m;exact m.1);rw[<- X]at f1 f2 y f4 f5 f6 f7 f8;rw[<- X,f6,<- f4,<- U];rw[<- f4,<- U]at y;have Y:dU (cl p s a):=by rw[X];exact hs.ok _
 have x:=y.ok.op;have⟨l1,l2⟩:=aie s (cl p s a) x;have R:=ak4 s.l5 (c5 p s a) (e:=bP p s a) l1 l2;have E:(tg s p a).2=(cW p s a).2.2:=R.1;have R2:(cW p s a).2.2=0 ->(tg s p a).1=(cW p s a).1:=R.2;have hN:tn p b s a=gY p b s a:=by
  unfold tn gY cW;rw[show(cY s.l5 (cl p s a) (c5 p s a) (bP p s a)).2.1=eG (c5 p s a) (bP p s a)from ajj x]
 have Q:(gY p b s a).2=0:=by
  rw[<- hN];exact zz2 f2 (by unfold cm at m;rw[xa,xo]at m;exact m.1) (akn x y.form)
 have kF:=KW s.ab a hs.ab;rw[yc u]at kF;refine⟨kF,⟨u,O⟩,f5.fn,f7,zyt s _ _ hs Y y,aha s.l5 _ hs.l5 hE,λh=>qO ?_,λh6=>⟨Yi s hs,λh7=>⟨KW _ _ hs.ab,λh=>qO ?_,λh8=>?_⟩,λh7=>?_⟩⟩;rw[f,x9 (by rw[<- E];exact h)];unfold eH at f;rw[x8 (by rw[<- E,h6];exact λh=>h rfl),x9 h7,x9 h,x9 am]at f;exact f;rw[x8 (by rw[<- E,h6];exact λh=>h rfl)]at f;simp only[x9 h7]at f;have⟨op,ob⟩:=z9s h7;have K:(rp p b s a).2=0:=by
  unfold rp;rw[show(bP p s a).ii=eU (cl p s a)from ob,U];exact ag8 k Y h1 V.1 m (by rw[<- U];exact op)
 have N:(rp p b s a).1.id=(bP p s a).ii:=ada K;have Z:kj p b s a=gB s.ab (rp p b s a).1 (gK s.ab (bP p s a).ii):=by
  unfold kj;rw[akj V.2.2 (by rw[N];omega),N]
 unfold eH at f;have J:(ba p b (bP p s a).ii (c5 p s a).ii (bp (cl p s a) (c5 p s a).b)).2=0:=K;have a1:¬ (ba p b (bP p s a).ii (c5 p s a).ii (bp (cl p s a) (c5 p s a).b)).2≠0:=by rw[J];exact λh=>h rfl
 have a3:¬ (gY p b s a).2≠0:=by rw[Q];exact λh=>h rfl
 simp only[x8 h8,x8 a1]at f;rw[x8 (λh=>h rfl),x8 a3]at f;have H:(bP p s a).ii<=9223372036854775807:=by have :=Zb (cl p s a);rw[show(bP p s a).ii=eU (cl p s a)from ob];omega
 have g8:vk (kj p b s a):=λj=>by rw[Z];exact(zjj (uj _ _) hs.ok (zji k H) j).aw
 have g9:0<=aS (kj p b s a) a:=by rw[Z];exact zrc _ (uj _ _) u
 have g2:(kj p b s a).length<=1000000:=by rw[Z,z9q _ _ _ (uj _ _)];omega
 refine⟨y.b,zwq p b _ _ _ k H,agr _ _ hl,zz0 _ _,zpu p b _ _ k Y,by rw[z9i g8];exact KW _ _ g2, ?_⟩;refine zz5 g8 g9 ?_;rw[f,hN,Z,R2 (by rw[<- E];exact h6)];rfl;rw[x8 (by rw[<- E,h6];exact λh=>h rfl)]at f;simp only[x8 h7]at f;rw[x8 (λh=>h rfl),x8 (by rw[Q];exact λh=>h rfl)]at f;refine⟨zz0 _ _,zpu p b _ _ k Y,kF, ?_⟩;have F:=zz5 (M:=(tg s p a).1) (s:=s) (n:=(tn p b s a).1) (e:=bP p s a) hs.r8 u (r:=da p b s a) (by rw[f,hN,R2 (by rw[<- E];exact h6)]);rw[z9i hs.r8,yc u]at F;exact F
def ka:Bool:=
 decide (0<=aS s.ab (aX a))&&(if a<0 then decide (0<(s.ae.getD (aS s.ab (aX a)).toNat az).bO.length)else fu p s (aS s.ab (aX a)).toNat (cX p (bN s)))
def oR6:FuncId ->List AV ->Option AV
 |76,_=>some (fi s)
 |71,[_, .int _ c]=>some (.av [d9 (max (aS s.ab (aX c)) 0), .bool (decide (0<=aS s.ab (aX c)))])
 |78,[_,_, .int _ v]=>some (.av [d9 (fm s k v).1,d9 (fm s k v).2])
 |69,[_, .int _ b,_]=>some (.bool (cQ p b s))
 |149,[_, .int _ x]=>some (.av [d9 (eY (s.ae.getD k az) x).1,d9 (eY (s.ae.getD k az) x).2.1, .bool (eY (s.ae.getD k az) x).2.2])
 |146,[.mc _ b]=>some (.bool (bQ (dB b)))
 |147,[.int _ c]=>some (d9 (aX c))
 |81,[.int _ c]=>some (d9 (m6 c))
 |44,[_, .int _ v]=>some (.av [d9 (max (aS s.ab v) 0), .bool (decide (0<=aS s.ab v))])
 |77,_=>some (.av [vI (zg p (s.ab.getD k ao)), .bool (cm p (s.ab.getD k ao))])
 |79,[_,_, .int _ a]=>some (.av [dh (bA p (bN s) a).1, .bool (bA p (bN s) a).2])
 |43,_=>some (a8 (cX p (bN s)))
 |70,[_, .int _ v]=>some (.bool (aQ (cX p (bN s)) v))
 |150,[.int _ f, .int _ a, .int _ b]=>some (.av [d9 (app f a b).1,d9 (app f a b).2])
 |89,_=>some (.bool (ec p s.l5))
 |102,[_, .int _ b, .mc _ t]=>some (.bool (fq p b (dT t)))
 |36,[_,_, .int _ a]=>some (.av [dh (zf p s a).1, .bool (zf p s a).2])
 |80,[_,_, .int _ a]=>some (.bool (ka p s a))
 |_,_=>none
noncomputable def Ww (p:ai) (s:ja) (k:Nat) (n:Nat) (I:Nat ->Option lm):bm:={C:=di n λ_ _=>false,CC:=mp prog GG,b9:=λ_ _=>oR6 p s k,inv:=I}
def bb:Nat:=(aS s.ab (aX a)).toNat
def akd:Option lm:=match Nat.beq k 4 with
 |true=>iw s.ab.length (λi=>⟨[(1,d9 b),(3, .ptr 3 []),(5, .ptr 5 []),(7,d9 i)],[(3,iM p),(5,fb s)]⟩) λi=>ec p s.l5=true/\s.ae.length=s.ab.length/\∀ j,j<i ->z5e p b s.ab j/\zfu p (s.ab.getD j ao) (s.ae.getD j az)=true
 |false=>none
def zz6:Option tK:=match Nat.beq k 12 with
 |true=>some {π:=Nat,I:=λk=>{ι:=Nat,S:=λi=>⟨[(1,d9 b),(3, .ptr 3 []),(5, .ptr 5 []),(7,d9 k),(8, .ptr 8 []),(9,d9 i)],[(3,iM p),(5,fb s),(8, .cell 68 c7 (aA (s.ae.getD k az)))]⟩,μ:=λi=>(s.ae.getD k az).bO.length - i,ok:=λi=>i<=(s.ae.getD k az).bO.length/\k<s.ab.length/\ec p s.l5=true/\s.ae.length=s.ab.length/\(∀ j,j<k ->z5e p b s.ab j/\zfu p (s.ab.getD j ao) (s.ae.getD j az)=true)/\z5e p b s.ab k/\bQ (s.ae.getD k az)=true/\(s.ae.getD k az).ay=(s.ab.getD k ao).id/\∀ j,j<i ->((s.ae.getD k az).bO.getD j cc).var<p.eA.length}}
 |false=>none
theorem zjo:KN 76 [cx s] (fi s):=by
 refine Kn (Ww lX s 0 8 λ_=>none) func76 ((RR s.ab.length/\∀ i:Nat,i<s.ab.length->RR (ak (s.ab.getD i ao)))/\LS (aj s.l5) (aj s.l5)) ?_;simp only[SB,af];exact fp rfl
theorem zjp (hs:SWk s) (e:jY a):KN 71 [cx s,d9 a] (.av [d9 (max (aS s.ab (aX a)) 0), .bool (decide (0<=aS s.ab (aX a)))]):=by
 refine Kn (Ww lX s 0 13 λ_=>none) func71 (KN 147 [d9 a] (d9 (aX a))/\KN 44 [aF s.ab,d9 (aX a)] (AV.av [d9 (qx s a),AV.bool (me s a)])/\RR (qx s a)/\RR (me s a)) ?_;try delta qx me
 simp only[SZ];exact⟨ake a e,KW _ _ hs.ab⟩
theorem zrw (v:Int) (hs:cw s) (i:ru s k) (f:ca s.l5) (e:0<=v/\v<s.l5.eA.length):KN 78 [cx s,d9 k,d9 v] (.av [d9 (fm s k v).1,d9 (fm s k v).2]):=by
 refine Kn (Ww lX s k 31 λ_=>none) func78 (af (↑k) s.ae.length/\KN 149 [AV.mc c7 (aA (s.ae.getD (↑k:Int).toNat az)),d9 v] (AV.av [d9 (Ty s k v),d9 (Xx s k v),AV.bool (vl s k v)])/\Z (vl s k v) (Ty s k v=(fm s k v).fst/\Xx s k v=(fm s k v).snd) (af v s.l5.eA.length/\s.l5.eA.getD v.toNat 0=(fm s k v).fst/\-1=(fm s k v).snd)) ?_;try delta Z Ty qqj Xx vl
 simp only[SZ];refine⟨i.2,ad9 _ _ (hs.nw k),λh=>?_,λh=>⟨e, ?_⟩⟩;unfold fm;rw[x9 h];exact⟨rfl,rfl⟩;unfold fm;rw[x8 (by rw[h];simp)];exact⟨(zjm f e).symm,rfl⟩
section
variable (s:ja)
def JI:=(↑s.ae.length:Int) !=(↑s.ab.length:Int)
def qsk:=(!JI s)=true
def Wp:=qsk s->qsk s
end
section
variable (p:ai) (s:ja)
def Ii:=JI s||!ec p s.l5
variable (x1:Nat)
def S3:=!X6 s x1
def qsl:=(!S3 s x1)=true
def sb:=qsl s x1->qsl s x1
def F6:=S3 s x1||(s.ae.getD (↑x1:Int).toNat az).ay !=(s.ab.getD (↑x1:Int).toNat ao).id
end
theorem zrx (k:bI p) (hs:SWk s):KN 69 [vP p,d9 b,cx s] (.bool (cQ p b s)):=by
 refine Kn {Ww p s 0 96 (akd p b s)with ui:=zz6 p b s} func69 (aH ↑s.ae.length/\mW s/\Wp s/\Wp s/\Wp s/\(qsk s->KN 89 [AV.mc z7 (ah p),AV.mc zm (aj s.l5)] (AV.bool (ec p s.l5)))/\Wp s/\Wp s/\Z (Ii p s) (false=cQ p b s) ((∃ i,wJ p b s i/\(RR b/\(0:Int)=↑i)/\LS (ah p) (ah p)/\LS (ze s) (ze s))/\∀ i:Nat,wJ p b s i->mW s/\Z (qc s i) (af (↑i) s.ab.length/\KN 102 [AV.mc z7 (ah p),d9 b,AV.mc zk (ak (s.ab.getD (↑i:Int).toNat ao))] (AV.bool (PU p b s i))/\mG p b s i/\mG p b s i/\qh p b s i/\qh p b s i/\(q1m p b s i->aM j6 (qg i))/\qh p b s i/\qh p b s i/\(q1m p b s i->af (qg i) s.ab.length)/\qh p b s i/\qh p b s i/\qh p b s i/\qh p b s i/\qh p b s i/\(q1m p b s i->af (↑i) s.ab.length)/\qh p b s i/\qh p b s i/\qh p b s i/\qh p b s i/\mG p b s i/\(vD p b s i->mh i=true->q1m p b s i)/\mG p b s i/\Z (uc p b s i) (false=cQ p b s) (af (↑i) s.ae.length/\KN 146 [AV.mc c7 (aA (s.ae.getD (↑i:Int).toNat az))] (AV.bool (X6 s i))/\sb s i/\sb s i/\sb s i/\sb s i/\(qsl s i->af (↑i) s.ab.length)/\sb s i/\sb s i/\sb s i/\sb s i/\sb s i/\Z (F6 s i) (false=cQ p b s) (∃ f,(∃ i_1,vQ p b s f i_1/\(RR b/\(↑i:Int)=(↑f:Int)/\0=(↑i_1:Int))/\LS (ah p) (ah p)/\LS (ze s) (ze s)/\LS (aA (s.ae.getD (↑i:Int).toNat az)) (aA (s.ae.getD f az)))/\∀ (i_1:Nat),vQ p b s f i_1->(↑(s.ae.getD f az).bO.length:Int)<=9223372036854775807/\Z (SU s f i_1) (af (↑i_1:Int) (s.ae.getD f az).bO.length/\(↑p.eA.length:Int)<=9223372036854775807/\Z (qe4 p s f i_1) (false=cQ p b s) (qa i_1/\∃ j,vQ p b s f j/\Ti s f j<Ti s f i_1/\(RR b/\RR (↑f:Int)/\qb i_1 j)/\LS (ah p) (ah p)/\LS (ze s) (ze s)/\LS (aA (s.ae.getD f az)) (aA (s.ae.getD f az)))) (qa f/\∃ j,wJ p b s j/\s.ab.length - j<s.ab.length - i/\(RR b/\qb f j)/\LS (ah p) (ah p)/\LS (ze s) (ze s))))) (true=cQ p b s))) ?_;try delta Z aH mW JI qsk Wp Ii qqn wJ PU qin qio vD mG mh q1m qh qg uc X6 S3 qsl sb F6 vQ qe4 q9 qa Ti qb SU qc
 simp only[SB,af];have h1:=hs.ab;have h2:=hs.ae;have h3:=k.eA;have eT:∀ i,dT (ak (s.ab.getD i ao))=s.ab.getD i ao:=λi=>iz _ (hs.ok i).aw;simp only[eT,iL,wg];refine⟨O,O,λ_=>zy3 p s.l5 k hs.l5,λh=>eI λhv=>?_,λh=>⟨⟨0,⟨O,h.2,O,λj hj=>O⟩,rfl⟩,λi hi=>⟨O,λhlt=>⟨hlt,zbb p b _ k (hs.ok i),λ_=>f9,λ_=>O,λ_=>hlt,λh=>eI λhv=>?_,λh=>⟨O,zlo _ (hs.nw i),λ_=>hlt,λh=>eI λhv=>?_,λh'=>⟨i,⟨0,⟨O,hlt,hi.2.1,hi.2.2.1,hi.2.2.2,⟨h.1,λh0=>?_⟩,h'.1,h'.2,λj hj=>O⟩,⟨rfl,rfl⟩,trivial,trivial,fp rfl⟩,λq hq=>⟨by have :=hs.nw i;omega,λhlt2=>⟨hlt2,O,λh=>eI λhv=>?_,λh=>⟨za O (by have :=hs.nw i;omega),q+1,⟨O,hq.2.1,hq.2.2.1,hq.2.2.2.1,hq.2.2.2.2.1,hq.2.2.2.2.2.1,hq.2.2.2.2.2.2.1,hq.2.2.2.2.2.2.2.1,λj hj=>?_⟩,O,O⟩⟩,λhge=>⟨f9,i+1,⟨O,hi.2.1,hi.2.2.1,λj hj=>?_⟩,O,O⟩⟩⟩⟩⟩,λhge=>XJ λhv=>Bool.noConfusion (hv.symm.trans (z12.2 ⟨hi.2.1,hi.2.2.1,λj hj=>hi.2.2.2 j O⟩))⟩⟩⟩;have⟨v1,v2,_⟩:=z12.1 hv;rcases h with h |h;omega;rw[v1]at h;cases h;have⟨v1,_⟩:=(z12.1 hv).2.2 i hlt;rcases h with h | ⟨h,h'⟩;rw[v1.1]at h;cases h;have :=v1.2 O;rw[show((i:Int) - 1).toNat=i - 1 from O]at h';omega;have⟨b1,b2,_⟩:=nM.1 ((z12.1 hv).2.2 i hlt).2;grind;simp_all;have :=(nM.1 ((z12.1 hv).2.2 i hlt).2).2.2 q hlt2;omega;by_cases e:j=q;subst e;omega;exact hq.2.2.2.2.2.2.2.2 j O;by_cases e:j=i;subst e;exact⟨hq.2.2.2.2.2.1,nM.2 ⟨hq.2.2.2.2.2.2.1,hq.2.2.2.2.2.2.2.1,λj hj=>hq.2.2.2.2.2.2.2.2 j O⟩⟩;exact hi.2.2.2 j (O)
theorem zuj {p:ai} {b:Int} {s:ja} {a:Int} (m:cQ p b s) (h:0<=aS s.ab (aX a)):ru s (bb s a)/\((bb s a:Nat):Int)=aS s.ab (aX a)/\(s.ab.getD (bb s a) ao).id=aX a/\ec p s.l5=true/\s.ae.length=s.ab.length/\bQ (s.ae.getD (bb s a) az)=true/\∀ j,j<(s.ae.getD (bb s a) az).bO.length ->((s.ae.getD (bb s a) az).bO.getD j cc).var<p.eA.length:=by
 have⟨k,f,i⟩:=z12.1 m;have⟨e,u⟩:=nL h;have⟨x,b2,b3⟩:=nM.1 (i _ e).2;exact⟨⟨e,by rw[f];exact e⟩,Int.toNat_of_nonneg h,u,k,f,x,b3⟩
theorem ab6 {p:ai} {b:Int} {s:ja} (h:cQ p b s):bT p b (bN s)=true:=by
 have⟨f,k,e⟩:=z12.1 h;exact oP.2 ⟨f,rfl,λj i=>(e j i).1⟩
theorem akt (e:bI p) (hs:cw s):KN 79 [vP p,fi s,d9 a] (.av [dh (bA p (bN s) a).1, .bool (bA p (bN s) a).2]):=
 (ad8 p (bN s) a e hs.sc).weaken (by rfl) ⟨kY p,leN s,⟨rfl,rfl⟩,trivial⟩
theorem akm (e:bI p) (hs:cw s):KN 43 [vP p,fi s] (a8 (cX p (bN s))):=
 (Zz p (bN s) e hs.sc).weaken (by rfl) ⟨kY p,leN s,trivial⟩
section
variable (s:ja) (a:Int)
def Wf:=d9 (qx s a)
end
section
variable (p:ai) (s:ja)
def Lo:=(!!cQ p 32 s)=true
def Iq:=Lo p s->Lo p s
variable (a:Int)
def Fq:=0=(zf p s a).fst.ord
def qsm:=0=(zf p s a).fst.read
def EF:=0=(zf p s a).fst.i4
def qsn:=(0=(zf p s a).fst.aC/\0=(zf p s a).fst.ly/\0=(zf p s a).fst.kind/\0=(zf p s a).fst.ii/\0=(zf p s a).fst.k7/\0=(zf p s a).fst.entry/\Fq p s a/\qsm p s a/\EF p s a)/\false=(zf p s a).snd
def CE:=!cQ p 32 s||!me s a
def uw:Nat:=(qx s a).toNat
def yW:bR:=s.ae.getD (uw s a) az
def KI:List cD:=(yW s a).bO
def PL:Nat:=(KI s a).length
def qso:Int:=↑(PL s a)
def Qc:=qso s a<=9223372036854775807
def GX:=qso s a==0
def LM:=af 0 (PL s a)
def qsp:Int:=(yW s a).first
def IH:cD:=(KI s a).getD (Int.toNat 0) cc
def qsq:=-1=(zf p s a).fst.k7
def Gk:i5:=s.ab.getD (uw s a) ao
def Yj:Int×Int:=fm s (bb s a) (zg p (s.ab.getD (bb s a) ao)).ii
def Wk:Int:=(Yj p s a).fst
def Dk:Int:=(Yj p s a).snd
def N5:=KN 78 [AV.mc aI (ze s),Wf s a,d9 (zg p (s.ab.getD (bb s a) ao)).ii] (AV.av [d9 (Wk p s a),d9 (Dk p s a)])
def qsr:=(Gk s a).io=(zf p s a).fst.ly
def R0:=(zg p (s.ab.getD (bb s a) ao)).ii=(zf p s a).fst.ii
def Ff:=(zg p (s.ab.getD (bb s a) ao)).ord=(zf p s a).fst.ord
def L5:=R0 p s a/\qsq p s a/\Dk p s a=(zf p s a).fst.entry/\Ff p s a/\Wk p s a=(zf p s a).fst.read/\EF p s a
def qf8:=(zg p (s.ab.getD (bb s a) ao)).op==14
def JY:=qf8 p s a=true
def Ak:=qf8 p s a=false
def DH:=(JY p s a->N5 p s a/\(a=(zf p s a).fst.aC/\qsr p s a/\8=(zf p s a).fst.kind/\L5 p s a)/\true=(zf p s a).snd)/\(Ak p s a->N5 p s a/\(a=(zf p s a).fst.aC/\qsr p s a/\1=(zf p s a).fst.kind/\L5 p s a)/\true=(zf p s a).snd)
def R4:=(zg p (s.ab.getD (bb s a) ao)).op==8
def Jj:=R4 p s a=true
def Bt:Int:=qsp s a+qso s a
def Cz:=(zg p (s.ab.getD (bb s a) ao)).op==9
def DE:=Z (Cz p s a) (af (zg p (s.ab.getD (bb s a) ao)).b 8/\Qc s a/\aM j6 (Bt s a)/\(a=(zf p s a).fst.aC/\qsr p s a/\3=(zf p s a).fst.kind/\R0 p s a/\qsq p s a/\Bt s a=(zf p s a).fst.entry/\Ff p s a/\qsm p s a/\(Gk s a).aw.getD (zg p (s.ab.getD (bb s a) ao)).b.toNat 0=(zf p s a).fst.i4)/\true=(zf p s a).snd) (KN 76 [AV.mc aI (ze s)] (mF s)/\KN 79 [AV.mc z7 (ah p),mF s,d9 a] (AV.av [AV.mc bF (bX (bA p (bN s) a).fst),AV.bool (bA p (bN s) a).snd])/\LS (bX (bA p (bN s) a).fst) (bX (zf p s a).fst)/\(bA p (bN s) a).snd=(zf p s a).snd)
def QN:=R4 p s a=false
end
theorem zz9 (j:bI p) (hs:SOd p s) (u:jY a):KN 36 [vP p,cx s,d9 a] (.av [dh (zf p s a).1, .bool (zf p s a).2]):=by
 refine Kn (Ww p s (bb s a) 129 λ_=>none) func36 (KN 71 [AV.mc aI (ze s),d9 a] (AV.av [Wf s a,AV.bool (me s a)])/\KN 69 [AV.mc z7 (ah p),d9 (32:Int),AV.mc aI (ze s)] (AV.bool (cQ p (32:Int) s))/\Iq p s/\Iq p s/\Z (CE p s a) (qsn p s a) (af (qx s a) s.ae.length/\Z (mi a) (Qc s a/\Z (GX s a) (qsn p s a) (LM s a/\LM s a/\(a=(zf p s a).fst.aC/\qsp s a=(zf p s a).fst.ly/\4=(zf p s a).fst.kind/\(IH s a).var=(zf p s a).fst.ii/\qsq p s a/\qsp s a=(zf p s a).fst.entry/\Fq p s a/\qsm p s a/\(IH s a).val=(zf p s a).fst.i4)/\true=(zf p s a).snd)) (af (qx s a) s.ab.length/\KN 77 [AV.mc z7 (ah p),AV.mc zk (ak (Gk s a))] (AV.av [AV.mc zy (k8 (zg p (s.ab.getD (bb s a) ao))),AV.bool (cm p (s.ab.getD (bb s a) ao))])/\Z (!cm p (s.ab.getD (bb s a) ao)) (qsn p s a) ((Jj p s a->(Jj p s a->DH p s a)/\(QN p s a->DE p s a))/\(QN p s a->(JY p s a->DH p s a)/\(Ak p s a->DE p s a)))))) ?_;try delta Z qx Wf me Lo Iq Fq qsm EF qsn CE uw yW KI PL qso Qc GX LM qsp IH qsq mi Gk Yj Wk Dk N5 qsr R0 Ff L5 qf8 JY Ak DH R4 Jj Bt Cz mF DE QN
 simp only[SB,af];have bad:zf p s a=(aW,false) ->(0=(zf p s a).1.aC/\0=(zf p s a).1.ly/\0=(zf p s a).1.kind/\0=(zf p s a).1.ii/\0=(zf p s a).1.k7/\0=(zf p s a).1.entry/\0=(zf p s a).1.ord/\0=(zf p s a).1.read/\0=(zf p s a).1.i4)/\false=(zf p s a).2:=λh=>by rw[h];exact⟨⟨rfl,rfl,rfl,rfl,rfl,rfl,rfl,rfl,rfl⟩,rfl⟩
 refine⟨zjp s a hs.wo u,zrx p 32 s j hs.wo,λh=>bad ?_,λh=>?_⟩;rcases h with h |h;unfold zf;rw[x9 h];unfold zf zu;rw[x9 (show aS s.ab (aX a)<0 by omega)];split<;>rfl;have⟨k,h0⟩:=h;have hs:=hs.s _ k;have⟨m,eF,f,vM,hlen,hvb,_⟩:=zuj k h0;have eK:(aS s.ab (aX a)).toNat=bb s a:=rfl;simp only[yc h0,eK];have hr:=((z21 _).1 hvb).1;have he:=hs.nw (bb s a);have l0:zf p s a=if a<0 then cg s (bb s a)else bU p s (bb s a):=by
  unfold zf zu;rw[x8 (by simp[k]),x8 (by omega)];rfl
 have hF:=m.1;refine⟨by omega,λhn=>⟨by omega,λh=>bad ?_,λh=>⟨by omega,by omega, ?_⟩⟩,λhn=>⟨by omega,zwr p _ j (hs.ok _),λh=>bad ?_,λh=>?_⟩⟩;rw[l0,x9 hn];unfold cg;rw[x9 (by omega)];have e:zf p s a=(⟨a,(s.ae.getD (bb s a) az).first,4,((s.ae.getD (bb s a) az).bO.getD 0 cc).var,-1,(s.ae.getD (bb s a) az).first,0,0,((s.ae.getD (bb s a) az).bO.getD 0 cc).val⟩,true):=by
  rw[l0,x9 hn];unfold cg;rw[x8 (by omega),f];have :m6 (aX a)=a:=by unfold m6 aX;rw[x9 hn,x8 (by omega)];omega
  rw[this]
 rw[e];exact⟨⟨rfl,rfl,rfl,rfl,rfl,rfl,rfl,rfl,rfl⟩,rfl⟩;rw[l0,x8 hn];exact zxn h;rw[x8 hn]at l0;have x:aX a=a:=by unfold aX;rw[x8 hn]
 rw[x]at f;have⟨i,f2,y,_,_,_⟩:=zhu j (hs.ok (bb s a)) vM h;rw[<- f2]at i;have hS:=λhx=>zrw s (bb s a) (zg p (s.ab.getD (bb s a) ao)).ii hs m i.form hx;rw[eF]at hS;refine⟨λh8=>⟨λ_=>⟨λh14=>by omega,λh14=>⟨hS (i.v (by omega)), ?_⟩⟩,λhn=>absurd h8 hn⟩,λh8=>⟨λh14=>⟨λ_=>⟨hS (i.v (by omega)), ?_⟩,λhn=>absurd h14 hn⟩,λh14=>⟨λh9=>⟨i.b,by omega,za (by omega) (by omega), ?_⟩,λh9=>⟨zjo s,akt p s a j hs, ?_⟩⟩⟩⟩;rw[l0,zhn h (.inl h8),x8 h14,f];exact⟨⟨rfl,rfl,rfl,rfl,rfl,rfl,rfl,rfl,rfl⟩,rfl⟩;rw[l0,zhn h (.inr h14),x9 h14,f];exact⟨⟨rfl,rfl,rfl,rfl,rfl,rfl,rfl,rfl,rfl⟩,rfl⟩;rw[l0,zqr h h9,f];exact⟨⟨rfl,rfl,rfl,rfl,rfl,rfl,rfl,rfl,rfl⟩,rfl⟩;rw[l0,zqs h h8 h14 h9,f];exact⟨fp rfl,rfl⟩
theorem zm5 {l:List bR} {m:List i5} (hl:l.length=m.length) (h:∀ j,j<m.length ->(l.getD j az).ay=(m.getD j ao).id) (r:Int):∀ k,k<=m.length ->iF l r k=t7 m r k
 |0,_=>rfl
 |k+1,e=>by
  unfold iF t7
  rw[hl,h _ O,zm5 hl h r k O]
theorem zry {p:ai} {b:Int} {s:ja} (h:cQ p b s) (r:Int):db s.ae r=aS s.ab r:=by
 have⟨_,e,f⟩:=z12.1 h;unfold db aS;rw[e];exact zm5 e (λj i=>(nM.1 (f j i).2).2.1) r _ (xm _)
theorem abe {p:ai} {s:ja} {k:Nat} {e:List Int} (h:cm p (s.ab.getD k ao)=false):fu p s k e=false:=by unfold fu;rw[x9 h]
theorem agk {p:ai} {s:ja} {k:Nat} {e:List Int} (h:cm p (s.ab.getD k ao)) (f:(zg p (s.ab.getD k ao)).op=8∨(zg p (s.ab.getD k ao)).op=9):fu p s k e=true:=by unfold fu;rw[x8 (by rw[h];simp),x9 f]
theorem ag4 {p:ai} {s:ja} {k:Nat} {f:List Int} (h:cm p (s.ab.getD k ao)) (e:(zg p (s.ab.getD k ao)).op=14):fu p s k f=((app (zg p (s.ab.getD k ao)).fn (fm s k (zg p (s.ab.getD k ao)).ii).1 (bp (s.ab.getD k ao) (zg p (s.ab.getD k ao)).b)).2==0&&(app (zg p (s.ab.getD k ao)).fn (fm s k (zg p (s.ab.getD k ao)).ii).1 (bp (s.ab.getD k ao) (zg p (s.ab.getD k ao)).b)).1 !=0):=by
 unfold fu;rw[x8 (by rw[h];simp),x8 O,x9 e]
theorem ajv {p:ai} {s:ja} {k:Nat} {f:List Int} (h:cm p (s.ab.getD k ao)) (j:¬ ((zg p (s.ab.getD k ao)).op=8∨(zg p (s.ab.getD k ao)).op=9)) (e:¬ (zg p (s.ab.getD k ao)).op=14) (i:((nN (zg p (s.ab.getD k ao)).op&&decide (0<(s.ae.getD k az).bO.length)) || !aQ f (s.ab.getD k ao).id)=true):fu p s k f=false:=by
 unfold fu;rw[x8 (by rw[h];simp),x8 j,x8 e,x9 i]
theorem aet {p:ai} {s:ja} {k:Nat} {i:List Int} (h:cm p (s.ab.getD k ao)) (m:¬ ((zg p (s.ab.getD k ao)).op=8∨(zg p (s.ab.getD k ao)).op=9)) (f:¬ (zg p (s.ab.getD k ao)).op=14) (j:¬ ((nN (zg p (s.ab.getD k ao)).op&&decide (0<(s.ae.getD k az).bO.length)) || !aQ i (s.ab.getD k ao).id)=true) (e:(zg p (s.ab.getD k ao)).op=22):fu p s k i=(decide (0<=db s.ae (bp (s.ab.getD k ao) (zg p (s.ab.getD k ao)).b))&&(s.ae.getD (db s.ae (bp (s.ab.getD k ao) (zg p (s.ab.getD k ao)).b)).toNat az).bO.length==0):=by
 unfold fu;rw[x8 (by rw[h];simp),x8 m,x8 f,x8 j,x9 e]
theorem akg {p:ai} {s:ja} {k:Nat} {i:List Int} (h:cm p (s.ab.getD k ao)) (m:¬ ((zg p (s.ab.getD k ao)).op=8∨(zg p (s.ab.getD k ao)).op=9)) (f:¬ (zg p (s.ab.getD k ao)).op=14) (j:¬ ((nN (zg p (s.ab.getD k ao)).op&&decide (0<(s.ae.getD k az).bO.length)) || !aQ i (s.ab.getD k ao).id)=true) (e:¬ (zg p (s.ab.getD k ao)).op=22):fu p s k i=true:=by
 unfold fu;rw[x8 (by rw[h];simp),x8 m,x8 f,x8 j,x8 e]
theorem akx {op:Int} (h:8<=op/\op<=22) (f:¬ (op=8∨op=9)) (e:¬ op=14):nN op=true:=by
 unfold nN cM;grind
theorem agl {p:ai} {t:i5} (k:bI p) (j:dU t) (h:cm p t) (f:(zg p t).op=14):1<=(zg p t).fn/\(zg p t).fn<=10:=by
 have e:zg p t=i6 p t:=by grind[zg]
 rw[e]at f ⊢;unfold cm at h;rw[xa,xo]at h;have⟨u,i⟩:=mD.1 h.2;have m:=vi ⟨k,(l6 u).1⟩ ((oo i).wf j) (sZ i h.1).2.1;exact(zj1 (vO m).1).2.1 (by rw[f];rfl)
section
variable (s:ja) (a:Int)
def Ss:=(!WJ s a)=true
def JR:=Ss s a->Ss s a
def qjr:=me s a=true
def tH:=qjr s a->qjr s a
def Ub:=af (qx s a) s.ae.length
def ON:=↑(s.ae.getD (uw s a) az).bO.length<=(9223372036854775807:Int)
def qss:=decide ((0:Int)<↑(s.ae.getD (max (aS s.ab (aX a)) (0:Int)).toNat az).bO.length)
def Sw:=WJ s a||decide (a<0)
end
section
variable (p:ai) (s:ja) (a:Int)
def IU:=(!!cm p (s.ab.getD (bb s a) ao))=true
def qst:=IU p s a->IU p s a
def S6:=!cm p (s.ab.getD (bb s a) ao)||(zg p (s.ab.getD (bb s a) ao)).op==8
def QJ:=(!S6 p s a)=true
def qsu:=QJ p s a->QJ p s a
def Jw:=S6 p s a||(zg p (s.ab.getD (bb s a) ao)).op==9
def RM:=d9 (Wk p s a)
def zZ:=af (zg p (s.ab.getD (bb s a) ao)).b 8
def qsv:Int:=(Gk s a).aw.getD (zg p (s.ab.getD (bb s a) ao)).b.toNat 0
def HJ:List AV:=[d9 (qsv p s a)]
def Az:Int×Int:=app (zg p (s.ab.getD (bb s a) ao)).fn (Wk p s a) (qsv p s a)
def NT:Int:=(Az p s a).fst
def Wq:=(!qss s a)=true
def xP:=Wq s a->Wq s a
def zB:=qss s a||!aQ (cX p (bN s)) a
def qsw:Int:=max (aS s.ab (qsv p s a)) 0
def GQ:Int:=↑(s.ae.getD (qsw p s a).toNat az).bO.length
def I7:=(zg p (s.ab.getD (bb s a) ao)).op==22
end
theorem YV (j:bI p) (hs:cw s) (y:jY a) (i:cQ p 32 s):KN 80 [vP p,cx s,d9 a] (.bool (ka p s a)):=by
 refine Kn (Ww p s (bb s a) 129 λ_=>none) func80 (KN 71 [AV.mc aI (ze s),d9 a] (AV.av [Wf s a,AV.bool (me s a)])/\JR s a/\JR s a/\Z (Sw s a) (tH s a/\tH s a/\tH s a/\(qjr s a->Ub s a)/\tH s a/\tH s a/\tH s a/\(qjr s a->ON s a)/\tH s a/\tH s a/\(me s a&&qss s a)=ka p s a) (af (qx s a) s.ab.length/\KN 77 [AV.mc z7 (ah p),AV.mc zk (ak (Gk s a))] (AV.av [AV.mc zy (k8 (zg p (s.ab.getD (bb s a) ao))),AV.bool (cm p (s.ab.getD (bb s a) ao))])/\qst p s a/\qst p s a/\qst p s a/\qsu p s a/\qsu p s a/\qsu p s a/\Z (Jw p s a) (cm p (s.ab.getD (bb s a) ao)=ka p s a) (Z (qf8 p s a) (KN 78 [AV.mc aI (ze s),Wf s a,d9 (zg p (s.ab.getD (bb s a) ao)).ii] (AV.av [RM p s a,d9 (Yj p s a).snd])/\zZ p s a/\KN 150 (d9 (zg p (s.ab.getD (bb s a) ao)).fn::RM p s a::HJ p s a) (AV.av [d9 (NT p s a),d9 (Az p s a).snd])/\(NT p s a !=0)=ka p s a) (Ub s a/\ON s a/\xP s a/\(Wq s a->KN 76 [AV.mc aI (ze s)] (fi s))/\xP s a/\xP s a/\(Wq s a->KN 43 [AV.mc z7 (ah p),AV.mc aI (AV.agg [aF s.ab,aj s.l5,AV.ax])] (a8 (cX p (bN s))))/\xP s a/\xP s a/\(Wq s a->KN 70 [a8 (cX p (bN s)),d9 a] (AV.bool (aQ (cX p (bN s)) a)))/\xP s a/\xP s a/\Z (zB p s a) (false=ka p s a) (Z (I7 p s a) (zZ p s a/\KN 44 (aF s.ab::HJ p s a) (AV.av [d9 (qsw p s a),AV.bool (decide ((0:Int)<=aS s.ab ((s.ab.getD (max (aS s.ab (aX a)) (0:Int)).toNat ao).aw.getD (zg p (s.ab.getD (bb s a) ao)).b.toNat (0:Int))))])/\af (qsw p s a) s.ae.length/\GQ p s a<=9223372036854775807/\(GQ p s a==0)=ka p s a) (true=ka p s a)))))) ?_;try delta Z qx Wf me WJ Ss JR qjr tH Ub uw ON qss Sw Gk IU qst S6 QJ qsu Jw Yj Wk RM zZ qsv HJ Az NT qf8 Wq xP zB qsw GQ I7
 simp only[SZ];have hon:(cX p (bN s)).length<=s.ab.length:=zjf p (bN s);have h1:=hs.ab;refine⟨zjp s a hs.wo y,λh=>⟨λh0=>?_,λ_=>by have :=hs.nw (max (aS s.ab (aX a)) 0).toNat;omega, ?_⟩,λh=>?_⟩;have⟨k,eF,_⟩:=zuj i h0;have :=k.2;rw[yc h0];omega;unfold ka;by_cases h0:0<=aS s.ab (aX a);rcases h with h |h;exact absurd h0 h;rw[x9 h,yc h0,wy h0,wc,wc];rw[decide_eq_decide];omega;rw[jn h0,je,je];have⟨h0,m⟩:=h;have⟨k,eF,hid,vM,hlen,x,_⟩:=zuj i h0;have eK:(aS s.ab (aX a)).toNat=bb s a:=rfl;simp only[yc h0,eK];have hF:=k.1;have he:=hs.nw (bb s a);have ea:aX a=a:=by unfold aX;rw[x8 m]
 have hid':=hid;rw[ea]at hid';have l0:ka p s a=fu p s (bb s a) (cX p (bN s)):=by
  unfold ka;rw[x8 m,wy h0,wc];rfl
 rw[l0];refine⟨O,zwr p _ j (hs.ok _),λh=>?_,λh=>?_⟩;cases hb:cm p (s.ab.getD (bb s a) ao)with
 |false=>rw[abe hb]
 |true=>
  rw[agk hb];rcases h with(h |h) |h
  rw[hb]at h;cases h;exact .inl h;exact .inr h
 have⟨⟨hb,F⟩,h9⟩:=h;have⟨f,f2,H,_,_,_⟩:=zhu j (hs.ok (bb s a)) vM hb;rw[<- f2]at f;have hS:=λhx=>zrw s (bb s a) (zg p (s.ab.getD (bb s a) ao)).ii hs k f.form hx;rw[eF]at hS;have n89:¬ ((zg p (s.ab.getD (bb s a) ao)).op=8∨(zg p (s.ab.getD (bb s a) ao)).op=9):=O;have ho:=f.ok.op;refine⟨λh14=>⟨hS (f.v O),f.b,G9 _ _ _, ?_⟩,λh14=>⟨O,O,λ_=>zjo s,λ_=>akm p s j hs,λ_=>Ts _ _ O,λh=>?_,λh=>?_⟩⟩;rw[ag4 hb h14,zwc (agl j (hs.ok _) hb h14)];rfl;rw[ajv hb n89 h14];rw[hid',xk,xa,xd,xi];rcases h with h |h;exact .inl ⟨akx ho n89 h14,O⟩;exact .inr h;have hdr:¬ ((nN (zg p (s.ab.getD (bb s a) ao)).op&&decide (0<(s.ae.getD (bb s a) az).bO.length)) || !aQ (cX p (bN s)) (s.ab.getD (bb s a) ao).id)=true:=by
  rw[hid',h.2,Bool.not_true,jq,xa,xd];rintro⟨_,q⟩;omega
 have⟨g1,e⟩:=(zro (ab6 i)).1 h.2;have⟨r1,u,r3,E⟩:=NG g1;have e1:cl p (bN s) a=s.ab.getD (bb s a) ao:=by rw[u];unfold bb;rw[ea];rfl
 rw[e1]at r3;rw[e1,r3]at e;refine⟨λh22=>?_,λh22=>?_⟩;have ov:0<=aS s.ab (bp (s.ab.getD (bb s a) ao) (zg p (s.ab.getD (bb s a) ao)).b):=by
  unfold z20 at e;rw[x8 h14,x8 O,x8 O,x9 h22]at e;unfold xT at e;rw[xa,xd]at e;exact e.1
 have oe:bp (s.ab.getD (bb s a) ao) (zg p (s.ab.getD (bb s a) ao)).b=(s.ab.getD (bb s a) ao).aw.getD (zg p (s.ab.getD (bb s a) ao)).b.toNat 0:=rfl;rw[<- oe,yc ov];have :=(nL ov).1;have hq:=hs.nw (aS s.ab (bp (s.ab.getD (bb s a) ao) (zg p (s.ab.getD (bb s a) ao)).b)).toNat;have kF:=KW s.ab (bp (s.ab.getD (bb s a) ao) (zg p (s.ab.getD (bb s a) ao)).b) hs.ab;rw[yc ov]at kF;refine⟨f.b,kF,O,O, ?_⟩;rw[aet hb n89 h14 hdr h22,zry i,wy ov,wc,wk,xo,xo];omega;rw[akg hb n89 h14 hdr h22]
end
end Go.Proofs.S25
