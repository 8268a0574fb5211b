import Derived.Test.YtcfagpelpjdmaaaGreatDoorXzh
namespace Go.Proofs.S25
open Go Go.AV
open Go.IntKind renaming i64 -> j6
open Go.AV.Shape (leaf)
noncomputable section
variable (p:aj) (b:Int) (s:ah) (k:Nat) (a:Int)
theorem Ds {p:aj} {b:Int} {s:ah} {i:Nat} (o:bG p) (hs:cK s) (h:c9 p b s=true) (r:i<s.af.length) (m:(s.af.getD i au).status=1):
 cH p (s.af.getD i au)=true/\gV p b (s.af.getD i au)=true/\oH s.mem (aI p (s.af.getD i au))/\zg p (s.af.getD i au)=aI p (s.af.getD i au)/\gZ p 32 (s.af.getD i au)/\
 (p.al.getD (s.af.getD i au).fn.toNat bu).code.getD (s.af.getD i au).pc.toNat dp=aI p (s.af.getD i au)/\(0<=(s.af.getD i au).pc/\(s.af.getD i au).pc<((p.al.getD (s.af.getD i au).fn.toNat bu).code.length:Int))/\
 ((s.af.getD i au).phase=0∨(s.af.getD i au).phase=1∨(s.af.getD i au).phase=2):=by
 have V:=qH.1 h;have v:=(V.2.2 i r).1;have k:cH p (s.af.getD i au)=true:=by unfold cH;rw[m,zjn v];rfl
 have⟨y,x,j,_,_,_⟩:=zhu o (hs.ok i) V.1 k;have f:=(vS (o7.1 v).2 m).2.1;have u:(s.af.getD i au).pc<((p.al.getD (s.af.getD i au).fn.toNat bu).code.length:Int):=by unfold ec at f;exact wh f
 refine⟨k,v,y,x,j,by unfold aI;rw[x9 f],⟨j.pc.1,u⟩, ?_⟩;rcases j.ph with e |e
 . exact .inl e
 . exact .inr e.1
section
variable (s:ah) (x1:Nat)
def GK:=(s.af.getD (↑x1:Int).toNat au).status==1
def qf4:=GK s x1=true
def oO:=qf4 s x1->qf4 s x1
end
section
variable (p:aj) (s:ah) (x2:Nat)
def WG:List aP:=(p.al.getD (s.af.getD (↑x2:Int).toNat au).fn.toNat bu).code
def UC:=encI ((WG p s x2).getD (s.af.getD (↑x2:Int).toNat au).pc.toNat dp)
def US:=z20 s (dT (aq (s.af.getD (↑x2:Int).toNat au))) (eQ (UC p s x2))
def Ou:=GK s x2&&US p s x2
end
theorem abw (f:bG p) (hs:cK s):KN 46 [vP p,cj s] (ab (cY p s)):=by
 refine Kn (vR5 p 32 s 0 49 (zz3 p s)) Tryz.func46 (KN 76 [AV.mc z7 (ak p),co (32:Int),AV.mc aM (ze s)] (AV.bool (c9 p (32:Int) s))/\((!c9 p 32 s)=true->(cY p s).length=0)/\((!c9 p 32 s)=false->(∃ i,vh p s i/\(Zg p s i/\(0:Int)=↑i)/\LS (ak p) (ak p)/\LS (ze s) (ze s)/\Zg p s i)/\∀ i:Nat,vh p s i->↑s.af.length<=(9223372036854775807:Int)/\(qc s i=true->ai (↑i) s.af.length/\oO s i/\oO s i/\oO s i/\oO s i/\(qf4 s i->ai (s.af.getD (↑i:Int).toNat au).fn p.al.length)/\oO s i/\oO s i/\oO s i/\oO s i/\oO s i/\(qf4 s i->ai (s.af.getD (↑i:Int).toNat au).pc (WG p s i).length)/\oO s i/\oO s i/\oO s i/\oO s i/\(qf4 s i->KN 77 [AV.mc aM (ze s),AV.mc zk (aq (s.af.getD (↑i:Int).toNat au)),AV.mc zy (UC p s i)] (AV.bool (US p s i)))/\oO s i/\(Ou p s i=true->1*leaf.size<=16777216/\(RR (ft p s i).length/\↑(yR p s i)*↑(8:Nat)<=(140737488355328:Int)/\yR p s i<=9223372036854775807)/\1<=1/\qa i/\(∃ j,vh p s j/\nu s i j/\(ZZ p s i j/\qb i j)/\LS (ak p) (ak p)/\LS (ze s) (ze s)/\ZZ p s i j/\∀ (ar:Nat),ar<yR p s i->(if ar<(ft p s i).length then um p s i ar else((List.replicate 1 (co 0)).set 0 (av (co (s.af.getD (↑i:Int).toNat au).id))).getD (ar - (ft p s i).length) AV.any)=um p s j ar))/\(Ou p s i=false->qa i/\(∃ j,vh p s j/\nu s i j/\(ZS p s i j/\qb i j)/\LS (ak p) (ak p)/\LS (ze s) (ze s)/\ZS p s i j/\∀ (ar:Nat),ar<(ft p s i).length->um p s i ar=um p s j ar)))/\(qc s i=false->(ft p s i).length<=(ft p s i).length/\(ft p s i).length=(cY p s).length/\∀ (ar:Nat),ar<(ft p s i).length->um p s i ar=co ((cY p s).getD ar 0)))) ?_;try delta vh Zg GK qf4 oO WG UC US yR q9 qa nu ZZ qb um Ou ZS qc
 simp only[SZ];have eT:∀ i,dT (aq (s.af.getD i au))=s.af.getD i au:=λi=>jJ _ (hs.ok i).az;simp only[eT];have h1:=hs.af;refine⟨zrl p 32 s f hs,λh=>?_,λh=>⟨⟨0,⟨ac,h⟩,eq,rfl⟩,λi hi=>⟨ac,λhlt=>⟨hlt,λh1=>(Ds f hs h hlt h1).2.2.2.2.1.fn,λh1=>(Ds f hs h hlt h1).2.2.2.2.2.2.1,λh1=>?_,λh2=>?_,λh2=>?_⟩,λhge=>?_⟩⟩⟩
 . unfold cY;rw[x8 (by simp[h])];rfl
 . have⟨_,_,r,_,_,f6,_,o⟩:=Ds f hs h hlt h1;rw[f6];exact aoa s _ _ hs (hs.ok i) r o
 . have⟨f1,_,_,m,_,f6,_,_⟩:=Ds f hs h hlt h2.1;have hl:=zqa p s i;have e:ft p s (i+1)=ft p s i++[(s.af.getD i au).id]:=by rw[ztt p s hlt,x9 (by unfold oU;rw[f1,m,<- f6,h2.2];rfl)]
   refine⟨ap,ac,dl,i+1,⟨hlt,h⟩,ac, ?_, ?_⟩
   . grind
   . rw[e];exact⟨be,λj hj=>lW _ _ j hj⟩
 . have e:ft p s (i+1)=ft p s i:=by
    rw[ztt p s hlt,x8 ?_,yg];unfold oU;by_cases k:(s.af.getD i au).status=1
    . have⟨f1,_,_,m,_,f6,_,_⟩:=Ds f hs h hlt k;grind
    . unfold cH;rw[xt.2 k];simp
   refine⟨dl,i+1,⟨hlt,h⟩,ac, ?_, ?_⟩
   . grind
   . grind
 . have e:ft p s i=cY p s:=by
    unfold ft cY;rw[x9 h,xv ac]
   grind
section
variable (s:ah) (a:Int)
def qsg:=(!Z2 s a)=true
def AQ:=qsg s a->qsg s a
def qjn:aF:=s.af.getD (pF s a).toNat au
def VJ:=Z2 s a||(qjn s a).status !=1
def WA:Int:=(qjn s a).fn
def Cz:Int:=(qjn s a).pc
end
section
variable (p:aj) (s:ah) (a:Int)
def Ex:List aP:=(p.al.getD (WA s a).toNat bu).code
end
theorem alw (hp:bG p) (hs:cK s):KN 50 [vP p,cj s, .int .i64 a] (.ax [dg (bA p s a).1, .bool (bA p s a).2]):=by
 refine Kn (vR5 p 32 s a 54 λ_=>none) Tryz.func50 (KN 76 [AV.mc z7 (ak p),AV.int j6 (32:Int),AV.mc aM (ze s)] (AV.bool (c9 p (32:Int) s))/\((!c9 p 32 s)=true->Zk p s a)/\((!c9 p 32 s)=false->KN 82 [aK s.af,AV.int j6 a] (AV.ax [AV.int j6 (pF s a),AV.bool (qia s a)])/\AQ s a/\AQ s a/\AQ s a/\(qsg s a->xP s a)/\AQ s a/\AQ s a/\AQ s a/\AQ s a/\(VJ s a=true->Zk p s a)/\(VJ s a=false->xP s a/\ai (WA s a) p.al.length/\ai (Cz s a) (Ex p s a).length/\KN 83 [AV.mc aM (ze s),AV.mc zk (aq (qjn s a)),AV.mc zy (encI ((Ex p s a).getD (Cz s a).toNat dp))] (AV.mc bp (bP (c4 p s a)))/\LS (bP (c4 p s a)) (bP (bA p s a).fst)/\true=(bA p s a).snd))) ?_;try delta Zk pF qia Z2 qsg AQ xP qjn VJ WA Cz Ex
 simp only[SB,ai];simp only[pq hs.r8];have bad:bA p s a=(aH,false) ->(0=(bA p s a).1.aG/\0=(bA p s a).1.idx/\0=(bA p s a).1.kind/\0=(bA p s a).1.obj/\0=(bA p s a).1.mutex/\0=(bA p s a).1.entry/\0=(bA p s a).1.ord/\0=(bA p s a).1.read/\0=(bA p s a).1.wrote)/\false=(bA p s a).2:=λh=>by rw[h];exact eq
 refine⟨zrl p 32 s hp hs,λh=>bad (by unfold bA;rw[x9 h]),λh=>⟨PX _ _ hs.af,λh0=>?_,λh0=>bad ?_,λh0=>?_⟩⟩
 . rw[yh h0];have :=(pT h0).1;omega
 . unfold bA;rw[x8 (by simp[h]),x9 ?_];cases hr:(bn p s a).2.2 with
   |false=>rfl
   |true=>
    obtain⟨r1,r2,_,r4⟩:=Hu hr;rcases h0 with h0 |h0
    . omega
    . rw[yh r1,<- r2]at h0;unfold cH at r4;grind
 . obtain⟨r1,h1⟩:=h0;simp only[yh r1]at h1 ⊢;have hlt:=(pT r1).1;obtain⟨f1,_,f3,f4,f5,f6,f7,_⟩:=Ds hp hs h hlt h1;have hr:bn p s a=(s.af.getD (aV s.af a).toNat au,aI p (s.af.getD (aV s.af a).toNat au),true):=by
    unfold bn;rw[x8 ac,f1,f4]
   have e:bA p s a=(c4 p s a,true):=by
    unfold bA c4 cF cq;rw[x8 (by simp[h]),x8 (by rw[hr];simp)]
   have e2:c4 p s a=aT s (s.af.getD (aV s.af a).toNat au) (aI p (s.af.getD (aV s.af a).toNat au)):=by unfold c4 cF cq;rw[hr]
   rw[e];refine⟨⟨r1,ac⟩,f5.fn,f7, ?_,eE rfl,rfl⟩;rw[f6,e2];exact zyt s _ _ hs (hs.ok _) f3
theorem zbh (p:aj) (b:Int):∀ (k:Nat) (t:aF),(z4q p b k t).id=t.id
 |0,t=>by
  unfold z4q pR dm;repeat' split
  all_goals rfl
 |k+1,t=>by
  unfold z4q;split
  . rfl
  . split
    . unfold pR dm;repeat' split
      all_goals rfl
    . split
      . rw[zbh p b k,zpk]
      . exact zpk _ _
theorem akg {p:aj} {b id fn arg:Int} (h:(bf p b id fn arg).2=0):(bf p b id fn arg).1.id=id:=by
 unfold bf at h ⊢;split at h
 . contradiction
 . rename_i j;rw[x8 j];split at h
   . omega
   . rename_i i;rw[x8 i];split at h
     . omega
     . rename_i f;rw[x8 f];split at h
       . omega
       . rename_i e;rw[x8 e];exact zbh p b _ _
theorem ako (t:aF) {i:aP} (h:8<=i.op/\i.op<=22):(aT s t i).aG=t.id/\((aT s t i).kind=11 ->(aT s t i).read=0∨(aT s t i).read=1):=by
 rcases zbg h with e |e |e |e |e |e |e |e |e |e |e |e |e |e |e;all_goals simp only[aT,bJ,jz,jW,e,reduceIte,Int.reduceEq,true_or,yx]
 . exact λh=>absurd h ap
 . exact λh=>absurd h ap
 . exact λh=>absurd h ap
 . exact λh=>absurd h ap
 . split
   . grind
   . grind
 . exact λh=>absurd h ap
 . exact λh=>absurd h ap
 . exact λh=>absurd h ap
 . exact λh=>absurd h ap
 . intro _;unfold fi;omega
 . split
   . grind
   . split
     . grind
     . grind
 all_goals exact λh=>absurd h (ap)
theorem zz5 {L:List aF} {M:Mem} {s:ah} {a:Int} {n:aF} {e:Ev} {r:ah×Ev×Int} (k:BF L) (f:0<=aV L a) (j:r=(⟨L.set (aV L a).toNat n,M,s.ag⟩,e,0)):
 (0<=max (aV (dR dT (aK L)) a) 0/\max (aV (dR dT (aK L)) a) 0<(L.length:Int))/\(max (aV (dR dT (aK L)) a) 0).toNat<L.length/\
 ((L.length=r.1.af.length/\∀ i:Nat,i<L.length ->(if i=(max (aV (dR dT (aK L)) a) 0).toNat then aq n else aq (L.getD i au))=aq (r.1.af.getD i au))/\LS (ao M) (ao r.1.mem)/\s.ag.length=r.1.ag.length/\∀ i:Nat,i<s.ag.length ->aB (s.ag.getD i aD)=aB (r.1.ag.getD i aD))/\LS (bP e) (bP r.2.1)/\0=r.2.2:=by
 subst j;rw[pq k,yh f];have h:=(pT f).1;exact⟨⟨f,ac⟩,h,⟨⟨be,λi _=>zfz i h⟩,eE rfl,rfl,λ_ _=>rfl⟩,eE rfl,rfl⟩
theorem tF {r:ah×Ev×Int} {n:Int} (h:r=(aE,aH,n)):(r.1.af.length=0/\(r.1.mem.vars.length=0/\r.1.mem.ae.length=0/\r.1.mem.aa.length=0/\r.1.mem.sig.length=0)/\r.1.ag.length=0)/\(0=r.2.1.aG/\0=r.2.1.idx/\0=r.2.1.kind/\0=r.2.1.obj/\0=r.2.1.mutex/\0=r.2.1.entry/\0=r.2.1.ord/\0=r.2.1.read/\0=r.2.1.wrote)/\n=r.2.2:=by
 subst h;exact⟨⟨rfl,dD,rfl⟩,eq,rfl⟩
section
variable (p:aj) (b:Int) (s:ah) (a:Int)
def NT:Nat:=(cA p b s a).fst.ag.length
def qjo:=B5 p b s a=0/\((cA p b s a).fst.mem.vars.length=0/\(cA p b s a).fst.mem.ae.length=0/\(cA p b s a).fst.mem.aa.length=0/\(cA p b s a).fst.mem.sig.length=0)/\NT p b s a=0
def T1:=KN 82 [aK s.af,co a] (AV.ax [co (pF s a),AV.bool (decide ((0:Int)<=aV (dR dT (aK s.af)) a))])
def Dm:Nat:=(pF s a).toNat
def qjp:aF:=s.af.getD (Dm s a) au
def IK:Int:=(qjp s a).fn
def OV:Int:=(qjp s a).pc
def Nd:List aP:=(p.al.getD (IK s a).toNat bu).code
def HS:=AV.mc zk (aq (qjp s a))
def qsh:aP:=(Nd p s a).getD (OV s a).toNat dp
def JI:=AV.mc zy (encI (qsh p s a))
def V3:=qjo p b s a/\sf p b s a/\30=pZ p b s a
def Qz:=(zG s p a).snd !=0
def qsi:=decide (0<=aV (dR dT (aK s.af)) (c4 p s a).obj)
def CM:Int:=(qsh p s a).b
def ML:=KN 94 [JI p s a,AV.mc bp (bP (c4 p s a))] (co (fG (cq p s a) (c4 p s a)))
def K7:=KN 89 [AV.mc z7 (ak p),co b,HS s a,co (fG (cq p s a) (c4 p s a))] (AV.ax [AV.mc zk (aq (zM p b s a).fst),co (zM p b s a).snd])
def qsj:Int:=max (aV (dR dT (aK (lN p b s a))) a) 0
def Kf:=(lN p b s a).length<=(lN p b s a).length
def VF:=LS (ao (zG s p a).fst) (ao (cA p b s a).fst.mem)/\s.ag.length=NT p b s a/\∀ i:Nat,i<s.ag.length->aB (s.ag.getD i aD)=aB ((cA p b s a).fst.ag.getD i aD)
end
theorem aa9 (f:bG p) (hs:cK s) (z:Bp) (hl:s.af.length<1000000):KN 52 [vP p,co b,cj s,co a] (.ax [cj (cA p b s a).1,dg (cA p b s a).2.1,co (cA p b s a).2.2]):=by
 refine Kn (vR5 p b s a 149 λ_=>none) Tryz.func52 (KN 69 [AV.mc z7 (ak p),co b] (co (aX p b))/\(Xv p b=true->qjo p b s a/\sf p b s a/\aX p b=pZ p b s a)/\(Xv p b=false->KN 76 [AV.mc z7 (ak p),co b,AV.mc aM (ze s)] (AV.bool (c9 p b s))/\((!c9 p b s)=true->qjo p b s a/\sf p b s a/\1=pZ p b s a)/\((!c9 p b s)=false->KN 46 [AV.mc z7 (ak p),AV.mc aM (ze s)] (ab (cY p s))/\KN 91 [ab (cY p s),co a] (AV.bool (aW (cY p s) a))/\((!aW (cY p s) a)=true->qjo p b s a/\sf p b s a/\19=pZ p b s a)/\((!aW (cY p s) a)=false->T1 s a/\xP s a/\ai (IK s a) p.al.length/\ai (OV s a) (Nd p s a).length/\KN 83 [AV.mc aM (ze s),HS s a,JI p s a] (AV.mc bp (bP (c4 p s a)))/\KN 92 [AV.mc zm (ao s.mem),AV.mc bp (bP (c4 p s a))] (AV.ax [AV.mc zm (ao (zG s p a).fst),co (zG s p a).snd])/\(Qz p s a=true->V3 p b s a)/\(Qz p s a=false->(KF (85:Nat) [AV.mc aM (ze s)] (AV.mc aM (AV.agg [AV.own (0:Nat) s.af.length,ao s.mem,AV.own (1:Nat) s.ag.length])) [aw.row (86:TypeId) zk s.af.length λi=>aq (s.af.getD i au),aw.row (90:TypeId) cz s.ag.length λi=>aB (s.ag.getD i aD)])/\(X4 p s a=true->KN 82 [aK s.af,co (c4 p s a).obj] (AV.ax [co (max (aV (dR dT (aK s.af)) (c4 p s a).obj) (0:Int)),AV.bool (qsi p s a)])/\(qsi p s a=true->V3 p b s a)/\(qsi p s a=false->ai (CM p s a) 8/\KN 71 [AV.mc z7 (ak p),co b,co (c4 p s a).obj,co (qsh p s a).obj,co ((qjp s a).az.getD (CM p s a).toNat (0:Int))] (AV.ax [AV.mc zk (aq (vj p b s a).fst),co (vj p b s a).snd])/\s.af.length<=s.af.length/\s.ag.length<=s.ag.length/\s.af.length<=s.af.length/\s.ag.length<=s.ag.length/\(KF (93:Nat) [aK s.af,AV.mc zk (aq (vj p b s a).fst)] (AV.own (0:Nat) (lN p b s a).length) [aw.row (86:TypeId) zk (lN p b s a).length λi=>aq ((lN p b s a).getD i au)])/\ML p s a/\K7 p b s a/\KN 82 [aK (lN p b s a),co a] (AV.ax [co (qsj p b s a),AV.bool (decide ((0:Int)<=aV (dR dT (aK (lN p b s a))) a))])/\Kf p b s a/\ai (qsj p b s a) (lN p b s a).length/\(qsj p b s a).toNat<(lN p b s a).length/\Kf p b s a/\(((lN p b s a).length=B5 p b s a/\∀ i:Nat,i<(lN p b s a).length->(if i=(max (aV (dR dT (aK (lN p b s a))) a) 0).toNat then aq (zM p b s a).fst else aq ((lN p b s a).getD i au))=ZG p b s a i)/\VF p b s a)/\Xn p b s a))/\(X4 p s a=false->ML p s a/\K7 p b s a/\T1 s a/\s.af.length<=s.af.length/\xP s a/\Dm s a<s.af.length/\s.af.length<=s.af.length/\s.ag.length<=s.ag.length/\((s.af.length=B5 p b s a/\∀ i:Nat,i<s.af.length->(if i=(max (aV (dR dT (aK s.af)) a) 0).toNat then aq (zM p b s a).fst else aq (s.af.getD i au))=ZG p b s a i)/\VF p b s a)/\Xn p b s a)))))) ?_;try delta B5 NT qjo s6 sf pZ Xv pF T1 xP Dm qjp IK OV Nd HS qsh JI V3 Qz qsi CM ML K7 qsj Kf ZG VF Xn X4
 simp only[SZ];have J:cA p b s a=
  if aX p b≠0 then(aE,aH,aX p b)else if c9 p b s=false then(aE,aH,1)else if(bn p s a).2.2=false∨z20 s (cF p s a) (cq p s a)=false then(aE,aH,19)else if(dx p s a).2.2≠0 then(aE,aH,30)
  else if(if(c4 p s a).kind=16 then fk p b {s with mem:=(dx p s a).1} (c4 p s a).obj (cq p s a).obj (bz (cF p s a) (cq p s a).b)else({s with mem:=(dx p s a).1},0)).2≠0 then(aE,aH,(if(c4 p s a).kind=16 then fk p b {s with mem:=(dx p s a).1} (c4 p s a).obj (cq p s a).obj (bz (cF p s a) (cq p s a).b)else({s with mem:=(dx p s a).1},0)).2)
  else if(iP p b s a).2≠0 then(aE,aH,(iP p b s a).2)else({(if(c4 p s a).kind=16 then fk p b {s with mem:=(dx p s a).1} (c4 p s a).obj (cq p s a).obj (bz (cF p s a) (cq p s a).b)else({s with mem:=(dx p s a).1},0)).1 with af:=(if(c4 p s a).kind=16 then fk p b {s with mem:=(dx p s a).1} (c4 p s a).obj (cq p s a).obj (bz (cF p s a) (cq p s a).b)else({s with mem:=(dx p s a).1},0)).1.af.set (aV (if(c4 p s a).kind=16 then fk p b {s with mem:=(dx p s a).1} (c4 p s a).obj (cq p s a).obj (bz (cF p s a) (cq p s a).b)else({s with mem:=(dx p s a).1},0)).1.af a).toNat (iP p b s a).1},c4 p s a,0):=rfl
 refine⟨zx3 p b f,λh=>tF (by rw[J,x9 h]),λh1=>⟨zrl p b s f hs,λh=>tF (by rw[J,x8 (by simp[h1]),x9 h]),λh2=>?_⟩⟩;rw[x8 (by simp[h1]),x8 (by simp[h2])]at J;have V:=qH.1 h2;have a4:(cY p s).length<=s.af.length:=zjf p s;have a3:=hs.af;refine⟨abw p s f hs,zyq _ _ ac,λh=>tF ?_,λh3=>?_⟩
 . have :(bn p s a).2.2=false∨z20 s (cF p s a) (cq p s a)=false:=by
    refine g7 λhc=>?_;have :aW (cY p s) a=true:=(zro h2).2 ⟨by simpa using λhh=>hc (.inl hh),by simpa using λhh=>hc (.inr hh)⟩;rw[h]at this;cases this
   rw[J,x9 this]
 have⟨h4,E⟩:=(zro h2).1 h3;have⟨r1,r2,Z,k⟩:=Hu h4;rw[x8 (by simp[h4,E])]at J;simp only[pq hs.r8,yh r1];have a1:=(pT r1).1;have⟨f1,x,N,m,f5,u,f7,H⟩:=Ds f hs h2 a1 (by rw[<- r2];unfold cH at k;rw[xa,xo]at k;exact k.1);rw[<- r2]at f1 x N m f5 u f7 H;rw[<- r2,u,<- m,<- Z];rw[<- m,<- Z]at N;have ht:eL (cF p s a):=by rw[r2];exact hs.ok _
 have K:=N.ok.op;have⟨l1,y⟩:=ako s (cF p s a) K;have R:=agr s.mem (cq p s a) (e:=c4 p s a) l1 y;have O:(zG s p a).2=(dx p s a).2.2:=R.1;have R2:(dx p s a).2.2=0 ->(zG s p a).1=(dx p s a).1:=R.2;have hN:zM p b s a=iP p b s a:=by
  unfold zM iP dx;rw[show(du s.mem (cF p s a) (cq p s a) (c4 p s a)).2.1=fG (cq p s a) (c4 p s a)from ai5 K]
 have Y:(iP p b s a).2=0:=by
  rw[<- hN];exact zz2 x (by unfold cH at k;rw[xa,xo]at k;exact k.1) (agv K N.form)
 have kF:=PX s.af a hs.af;rw[yh r1]at kF;refine⟨kF,⟨r1,ac⟩,f5.fn,f7,zyt s _ _ hs ht N,akb s.mem _ hs.mem z,λh=>tF ?_,λh6=>⟨acx s hs,λh7=>⟨PX _ _ hs.af,λh=>tF ?_,λh8=>?_⟩,λh7=>?_⟩⟩
 . rw[J,x9 (by rw[<- O];exact h)]
 . unfold fk at J;rw[x8 (by rw[<- O,h6];exact λh=>h rfl),x9 h7,x9 h,x9 ap]at J;exact J
 . rw[x8 (by rw[<- O,h6];exact λh=>h rfl)]at J;simp only[x9 h7]at J;have⟨op,o⟩:=z9s h7;have W:(vj p b s a).2=0:=by
    unfold vj;rw[show(c4 p s a).obj=fZ (cF p s a)from o,Z];exact akj f ht h1 V.1 k (by rw[<- Z];exact op)
   have X:(vj p b s a).1.id=(c4 p s a).obj:=akg W;have hL:lN p b s a=iu s.af (vj p b s a).1 (iD s.af (c4 p s a).obj):=by
    unfold lN;rw[ajq V.2.2 (by rw[X];omega),X]
   unfold fk at J;have U:(bf p b (c4 p s a).obj (cq p s a).obj (bz (cF p s a) (cq p s a).b)).2=0:=W;have a0:¬ (bf p b (c4 p s a).obj (cq p s a).obj (bz (cF p s a) (cq p s a).b)).2≠0:=by rw[U];exact λh=>h rfl
   have a2:¬ (iP p b s a).2≠0:=by rw[Y];exact λh=>h rfl
   simp only[x8 h8,x8 a0]at J;rw[x8 (λh=>h rfl),x8 a2]at J;have Q:(c4 p s a).obj<=9223372036854775807:=by have :=z9t (cF p s a);rw[show(c4 p s a).obj=fZ (cF p s a)from o];omega
   have g8:BF (lN p b s a):=λj=>by rw[hL];exact(zjj (zN _ _) hs.ok (zji f Q) j).az
   have g9:0<=aV (lN p b s a) a:=by rw[hL];exact zrc _ (zN _ _) r1
   have g2:(lN p b s a).length<=1000000:=by rw[hL,z9q _ _ _ (zN _ _)];omega
   refine⟨N.b,zwq p b _ _ _ f Q,amx _ _ hl,zz0 _ _,zpu p b _ _ f ht,by rw[pq g8];exact PX _ _ g2, ?_⟩;refine zz5 g8 g9 ?_;rw[J,hN,hL,R2 (by rw[<- O];exact h6)];rfl
 . rw[x8 (by rw[<- O,h6];exact λh=>h rfl)]at J;simp only[x8 h7]at J;rw[x8 (λh=>h rfl),x8 (by rw[Y];exact λh=>h rfl)]at J;refine⟨zz0 _ _,zpu p b _ _ f ht,kF, ?_⟩;have F:=zz5 (M:=(zG s p a).1) (s:=s) (n:=(zM p b s a).1) (e:=c4 p s a) hs.r8 r1 (r:=cA p b s a) (by rw[J,hN,R2 (by rw[<- O];exact h6)]);rw[pq hs.r8,yh r1]at F;exact F
def lf:Bool:=
 decide (0<=aV s.af (b7 a))&&(if a<0 then decide (0<(s.ag.getD (aV s.af (b7 a)).toNat aD).entries.length)else gU p s (aV s.af (b7 a)).toNat (cY p (bX s)))
def oR6:FuncId ->List AV ->Option AV
 |81,_=>some (fY s)
 |78,[_, .int _ c]=>some (.ax [co (max (aV s.af (b7 c)) 0), .bool (decide (0<=aV s.af (b7 c)))])
 |80,[_,_, .int _ v]=>some (.ax [co (gQ s k v).1,co (gQ s k v).2])
 |72,[_, .int _ b,_]=>some (.bool (dy p b s))
 |145,[_, .int _ x]=>some (.ax [co (gC (s.ag.getD k aD) x).1,co (gC (s.ag.getD k aD) x).2.1, .bool (gC (s.ag.getD k aD) x).2.2])
 |135,[.mc _ b]=>some (.bool (c6 (dB b)))
 |143,[.int _ c]=>some (co (b7 c))
 |74,[.int _ c]=>some (co (dr c))
 |82,[_, .int _ v]=>some (.ax [co (max (aV s.af v) 0), .bool (decide (0<=aV s.af v))])
 |79,_=>some (.ax [vI (zg p (s.af.getD k au)), .bool (cH p (s.af.getD k au))])
 |50,[_,_, .int _ a]=>some (.ax [dg (bA p (bX s) a).1, .bool (bA p (bX s) a).2])
 |46,_=>some (ab (cY p (bX s)))
 |84,[_, .int _ v]=>some (.bool (aW (cY p (bX s)) v))
 |136,[.int _ f, .int _ a, .int _ b]=>some (.ax [co (app f a b).1,co (app f a b).2])
 |133,_=>some (.bool (fc p s.mem))
 |134,[_, .int _ b, .mc _ t]=>some (.bool (gV p b (dT t)))
 |49,[_,_, .int _ a]=>some (.ax [dg (zf p s a).1, .bool (zf p s a).2])
 |73,[_,_, .int _ a]=>some (.bool (lf p s a))
 |_,_=>none
def WO (p:aj) (s:ah) (k:Nat) (n:Nat) (I:Nat ->Option Inv):bj:={C:=dc n λ_ _=>false,CC:=aL Tryz.prog GG,bb:=λ_ _=>oR6 p s k,inv:=I}
def bg:Nat:=(aV s.af (b7 a)).toNat
def amy:Option Inv:=match Nat.beq k 4 with
 |true=>iw s.af.length (λi=>⟨[(1,co b),(3, .ptr 3 []),(5, .ptr 5 []),(7,co i)],[(3,jO p),(5,fJ s)]⟩) λi=>fc p s.mem=true/\s.ag.length=s.af.length/\∀ j,j<i ->lD p b s.af j/\wS p (s.af.getD j au) (s.ag.getD j aD)=true
 |false=>none
def zz6:Option qS:=match Nat.beq k 12 with
 |true=>some {π:=Nat,I:=λk=>{ι:=Nat,S:=λi=>⟨[(1,co b),(3, .ptr 3 []),(5, .ptr 5 []),(7,co k),(8, .ptr 8 []),(9,co i)],[(3,jO p),(5,fJ s),(8, .cell 90 cz (aB (s.ag.getD k aD)))]⟩,μ:=λi=>(s.ag.getD k aD).entries.length - i,ok:=λi=>i<=(s.ag.getD k aD).entries.length/\k<s.af.length/\fc p s.mem=true/\s.ag.length=s.af.length/\(∀ j,j<k ->lD p b s.af j/\wS p (s.af.getD j au) (s.ag.getD j aD)=true)/\lD p b s.af k/\c6 (s.ag.getD k aD)=true/\(s.ag.getD k aD).aC=(s.af.getD k au).id/\∀ j,j<i ->((s.ag.getD k aD).entries.getD j cw).var<p.vars.length}}
 |false=>none
theorem zjo:KN 81 [cj s] (fY s):=by
 refine Kn (WO lX s 0 8 λ_=>none) Tryz.func81 ((RR s.af.length/\∀ i:Nat,i<s.af.length->RR (aq (s.af.getD i au)))/\LS (ao s.mem) (ao s.mem)) ?_;simp only[SB];exact eE rfl
theorem zjp (hs:cK s) (e:jS a):KN 78 [cj s,co a] (.ax [co (max (aV s.af (b7 a)) 0), .bool (decide (0<=aV s.af (b7 a)))]):=by
 refine Kn (WO lX s 0 13 λ_=>none) Tryz.func78 (KN 143 [co a] (co (b7 a))/\KN 82 [aK s.af,co (b7 a)] (AV.ax [co (qx s a),AV.bool (nQ s a)])/\RR (qx s a)/\RR (nQ s a)) ?_;try delta qx nQ
 simp only[SZ];exact⟨anq a e,PX _ _ hs.af⟩
theorem zrw (v:Int) (hs:cK s) (i:uQ s k) (f:cx s.mem=true) (e:0<=v/\v<s.mem.vars.length):KN 80 [cj s,co k,co v] (.ax [co (gQ s k v).1,co (gQ s k v).2]):=by
 refine Kn (WO lX s k 31 λ_=>none) Tryz.func80 (ai (↑k) s.ag.length/\KN 145 [AV.mc cz (aB (s.ag.getD (↑k:Int).toNat aD)),co v] (AV.ax [co (XY s k v),co (ZP s k v),AV.bool (Bn s k v)])/\(Bn s k v=true->XY s k v=(gQ s k v).fst/\ZP s k v=(gQ s k v).snd)/\(Bn s k v=false->ai v s.mem.vars.length/\s.mem.vars.getD v.toNat 0=(gQ s k v).fst/\-1=(gQ s k v).snd)) ?_;try delta XY qqj ZP Bn
 simp only[SZ];refine⟨i.2,am7 _ _ (hs.cE k),λh=>?_,λh=>⟨e, ?_⟩⟩
 . unfold gQ;rw[x9 h];exact eq
 . unfold gQ;rw[x8 (by rw[h];simp)];exact⟨(zjm f e).symm,rfl⟩
section
variable (s:ah)
def Gv:=(↑s.ag.length:Int) !=(↑s.af.length:Int)
def qsk:=(!Gv s)=true
def YF:=qsk s->qsk s
end
section
variable (p:aj) (s:ah)
def PU:=Gv s||!fc p s.mem
variable (x1:Nat)
def Om:=!Xq s x1
def qsl:=(!Om s x1)=true
def vF:=qsl s x1->qsl s x1
def Nz:=Om s x1||(s.ag.getD (↑x1:Int).toNat aD).aC !=(s.af.getD (↑x1:Int).toNat au).id
end
theorem zrx (hp:bG p) (hs:cK s):KN 72 [vP p, .int .i64 b,cj s] (.bool (dy p b s)):=by
 refine Kn {WO p s 0 96 (amy p b s)with sF:=zz6 p b s} Tryz.func72 (↑s.ag.length<=(9223372036854775807:Int)/\oh s/\YF s/\YF s/\YF s/\(qsk s->KN 133 [AV.mc z7 (ak p),AV.mc zm (ao s.mem)] (AV.bool (fc p s.mem)))/\YF s/\YF s/\(PU p s=true->false=dy p b s)/\(PU p s=false->(∃ i,Bu p b s i/\(RR b/\(0:Int)=↑i)/\LS (ak p) (ak p)/\LS (ze s) (ze s))/\∀ i:Nat,Bu p b s i->oh s/\(qc s i=true->ai (↑i) s.af.length/\KN 134 [AV.mc z7 (ak p),AV.int j6 b,AV.mc zk (aq (s.af.getD (↑i:Int).toNat au))] (AV.bool (Es p b s i))/\oq p b s i/\oq p b s i/\qh p b s i/\qh p b s i/\(nC p b s i->aU j6 (qg i))/\qh p b s i/\qh p b s i/\(nC p b s i->ai (qg i) s.af.length)/\qh p b s i/\qh p b s i/\qh p b s i/\qh p b s i/\qh p b s i/\(nC p b s i->ai (↑i) s.af.length)/\qh p b s i/\qh p b s i/\qh p b s i/\qh p b s i/\oq p b s i/\(B4 p b s i->nI i=true->nC p b s i)/\oq p b s i/\(wJ p b s i=true->false=dy p b s)/\(wJ p b s i=false->ai (↑i) s.ag.length/\KN 135 [AV.mc cz (aB (s.ag.getD (↑i:Int).toNat aD))] (AV.bool (Xq s i))/\vF s i/\vF s i/\vF s i/\vF s i/\(qsl s i->ai (↑i) s.af.length)/\vF s i/\vF s i/\vF s i/\vF s i/\vF s i/\(Nz s i=true->false=dy p b s)/\(Nz s i=false->∃ p_1,(∃ ar,Bm p b s p_1 ar/\(RR b/\(↑i:Int)=(↑p_1:Int)/\0=(↑ar:Int))/\LS (ak p) (ak p)/\LS (ze s) (ze s)/\LS (aB (s.ag.getD (↑i:Int).toNat aD)) (aB (s.ag.getD p_1 aD)))/\∀ (ar:Nat),Bm p b s p_1 ar->(↑(s.ag.getD p_1 aD).entries.length:Int)<=9223372036854775807/\(Y4 s p_1 ar=true->ai (↑ar:Int) (s.ag.getD p_1 aD).entries.length/\(↑p.vars.length:Int)<=9223372036854775807/\(ZW p s p_1 ar=true->false=dy p b s)/\(ZW p s p_1 ar=false->qa ar/\∃ j,Bm p b s p_1 j/\qe5 s p_1 j<qe5 s p_1 ar/\(RR b/\RR (↑p_1:Int)/\qb ar j)/\LS (ak p) (ak p)/\LS (ze s) (ze s)/\LS (aB (s.ag.getD p_1 aD)) (aB (s.ag.getD p_1 aD))))/\(Y4 s p_1 ar=false->qa p_1/\∃ j,Bu p b s j/\s.af.length - j<s.af.length - i/\(RR b/\qb p_1 j)/\LS (ak p) (ak p)/\LS (ze s) (ze s)))))/\(qc s i=false->true=dy p b s))) ?_;try delta oh Gv qsk YF PU qqn Bu Es qin qio B4 oq nI nC qh qg wJ Xq Om qsl vF Nz Bm ZW q9 qa qe5 qb Y4 qc
 simp only[SB,ai];have h1:=hs.af;have h2:=hs.ag;have h3:=hp.vars;have eT:∀ i,dT (aq (s.af.getD i au))=s.af.getD i au:=λi=>jJ _ (hs.ok i).az;simp only[eT,ep,ym];refine⟨ac,ac,λ_=>zy3 p s.mem hp hs.mem,λh=>fC λhv=>?_,λh=>⟨⟨0,⟨ac,h.2,ac,λj hj=>ac⟩,rfl⟩,λi hi=>⟨ac,λhlt=>⟨hlt,zbb p b _ hp (hs.ok i),λ_=>dl,λ_=>ac,λ_=>hlt,λh=>fC λhv=>?_,λh=>⟨ac,zlo _ (hs.cE i),λ_=>hlt,λh=>fC λhv=>?_,λh'=>⟨i,⟨0,⟨ac,hlt,hi.2.1,hi.2.2.1,hi.2.2.2,⟨h.1,λh0=>?_⟩,h'.1,h'.2,λj hj=>ac⟩,eq,trivial,trivial,eE rfl⟩,λq hq=>⟨by have :=hs.cE i;omega,λhlt2=>⟨hlt2,ac,λh=>fC λhv=>?_,λh=>⟨za ac (by have :=hs.cE i;omega),q+1,⟨ac,hq.2.1,hq.2.2.1,hq.2.2.2.1,hq.2.2.2.2.1,hq.2.2.2.2.2.1,hq.2.2.2.2.2.2.1,hq.2.2.2.2.2.2.2.1,λj hj=>?_⟩,ac,ac⟩⟩,λhge=>⟨dl,i+1,⟨ac,hi.2.1,hi.2.2.1,λj hj=>?_⟩,ac,ac⟩⟩⟩⟩⟩,λhge=>aay λhv=>Bool.noConfusion (hv.symm.trans (z12.2 ⟨hi.2.1,hi.2.2.1,λj hj=>hi.2.2.2 j ac⟩))⟩⟩⟩
 . obtain⟨v1,v2,_⟩:=z12.1 hv;rcases h with h |h
   . omega
   . rw[v1]at h;cases h
 . obtain⟨v1,_⟩:=(z12.1 hv).2.2 i hlt;rcases h with h | ⟨h,h'⟩
   . rw[v1.1]at h;cases h
   . have :=v1.2 ac;rw[show((i:Int) - 1).toNat=i - 1 from ac]at h';omega
 . obtain⟨b1,b2,_⟩:=qG.1 ((z12.1 hv).2.2 i hlt).2;grind
 . simp_all
 . have :=(qG.1 ((z12.1 hv).2.2 i hlt).2).2.2 q hlt2;omega
 . by_cases e:j=q
   . subst e;omega
   . exact hq.2.2.2.2.2.2.2.2 j ac
 . by_cases e:j=i
   . subst e;exact⟨hq.2.2.2.2.2.1,qG.2 ⟨hq.2.2.2.2.2.2.1,hq.2.2.2.2.2.2.2.1,λj hj=>hq.2.2.2.2.2.2.2.2 j ac⟩⟩
   . exact hi.2.2.2 j (ac)
theorem zuj {p:aj} {b:Int} {s:ah} {a:Int} (m:dy p b s=true) (h:0<=aV s.af (b7 a)):uQ s (bg s a)/\((bg s a:Nat):Int)=aV s.af (b7 a)/\(s.af.getD (bg s a) au).id=b7 a/\fc p s.mem=true/\s.ag.length=s.af.length/\c6 (s.ag.getD (bg s a) aD)=true/\∀ j,j<(s.ag.getD (bg s a) aD).entries.length ->((s.ag.getD (bg s a) aD).entries.getD j cw).var<p.vars.length:=by
 have⟨k,f,i⟩:=z12.1 m;have⟨e,o⟩:=pT h;have⟨r,b2,b3⟩:=qG.1 (i _ e).2;exact⟨⟨e,by rw[f];exact e⟩,Int.toNat_of_nonneg h,o,k,f,r,b3⟩
theorem aad {p:aj} {b:Int} {s:ah} (h:dy p b s=true):c9 p b (bX s)=true:=by
 have⟨f,k,e⟩:=z12.1 h;exact qH.2 ⟨f,rfl,λj i=>(e j i).1⟩
theorem ah1 (e:bG p) (hs:cK s):KN 50 [vP p,fY s,co a] (.ax [dg (bA p (bX s) a).1, .bool (bA p (bX s) a).2]):=
 (alw p (bX s) a e hs.sc).weaken (by rfl) ⟨mv p,leN s,eq,trivial⟩
theorem aoi (e:bG p) (hs:cK s):KN 46 [vP p,fY s] (ab (cY p (bX s))):=
 (abw p (bX s) e hs.sc).weaken (by rfl) ⟨mv p,leN s,trivial⟩
section
variable (s:ah) (a:Int)
def YN:=co (qx s a)
end
section
variable (p:aj) (s:ah)
def P9:=(!!dy p 32 s)=true
def CV:=P9 p s->P9 p s
variable (a:Int)
def KJ:=0=(zf p s a).fst.ord
def qsm:=0=(zf p s a).fst.read
def SG:=0=(zf p s a).fst.wrote
def qsn:=(0=(zf p s a).fst.aG/\0=(zf p s a).fst.idx/\0=(zf p s a).fst.kind/\0=(zf p s a).fst.obj/\0=(zf p s a).fst.mutex/\0=(zf p s a).fst.entry/\KJ p s a/\qsm p s a/\SG p s a)/\false=(zf p s a).snd
def IQ:=!dy p 32 s||!nQ s a
def wR:Nat:=(qx s a).toNat
def EV:cg:=s.ag.getD (wR s a) aD
def Ws:List cZ:=(EV s a).entries
def Ps:Nat:=(Ws s a).length
def qso:Int:=↑(Ps s a)
def OE:=qso s a<=9223372036854775807
def O4:=qso s a==0
def Og:=ai 0 (Ps s a)
def qsp:Int:=(EV s a).first
def Ut:cZ:=(Ws s a).getD (Int.toNat 0) cw
def qsq:=-1=(zf p s a).fst.mutex
def UE:aF:=s.af.getD (wR s a) au
def qjq:Int×Int:=gQ s (bg s a) (zg p (s.af.getD (bg s a) au)).obj
def WU:Int:=(qjq p s a).fst
def SN:Int:=(qjq p s a).snd
def HI:=KN 80 [AV.mc aM (ze s),YN s a,co (zg p (s.af.getD (bg s a) au)).obj] (AV.ax [co (WU p s a),co (SN p s a)])
def qsr:=(UE s a).steps=(zf p s a).fst.idx
def RT:=(zg p (s.af.getD (bg s a) au)).obj=(zf p s a).fst.obj
def RH:=(zg p (s.af.getD (bg s a) au)).ord=(zf p s a).fst.ord
def KY:=RT p s a/\qsq p s a/\SN p s a=(zf p s a).fst.entry/\RH p s a/\WU p s a=(zf p s a).fst.read/\SG p s a
def XZ:=(zg p (s.af.getD (bg s a) au)).op==14
def Dl:=XZ p s a=true
def Nk:=XZ p s a=false
def Uu:=(Dl p s a->HI p s a/\(a=(zf p s a).fst.aG/\qsr p s a/\8=(zf p s a).fst.kind/\KY p s a)/\true=(zf p s a).snd)/\(Nk p s a->HI p s a/\(a=(zf p s a).fst.aG/\qsr p s a/\1=(zf p s a).fst.kind/\KY p s a)/\true=(zf p s a).snd)
def Fq:=(zg p (s.af.getD (bg s a) au)).op==8
def Cu:=Fq p s a=true
def IC:Int:=qsp s a+qso s a
def FF:=(zg p (s.af.getD (bg s a) au)).op==9
def Jw:=(FF p s a=true->ai (zg p (s.af.getD (bg s a) au)).b 8/\OE s a/\aU j6 (IC s a)/\(a=(zf p s a).fst.aG/\qsr p s a/\3=(zf p s a).fst.kind/\RT p s a/\qsq p s a/\IC s a=(zf p s a).fst.entry/\RH p s a/\qsm p s a/\(UE s a).az.getD (zg p (s.af.getD (bg s a) au)).b.toNat 0=(zf p s a).fst.wrote)/\true=(zf p s a).snd)/\(FF p s a=false->KN 81 [AV.mc aM (ze s)] (oD s)/\KN 50 [AV.mc z7 (ak p),oD s,co a] (AV.ax [AV.mc bp (bP (bA p (bX s) a).fst),AV.bool (bA p (bX s) a).snd])/\LS (bP (bA p (bX s) a).fst) (bP (zf p s a).fst)/\(bA p (bX s) a).snd=(zf p s a).snd)
def Mb:=Fq p s a=false
end
theorem zz9 (hp:bG p) (hs:cK s) (ha:jS a):KN 49 [vP p,cj s, .int .i64 a] (.ax [dg (zf p s a).1, .bool (zf p s a).2]):=by
 refine Kn (WO p s (bg s a) 129 λ_=>none) Tryz.func49 (KN 78 [AV.mc aM (ze s),AV.int j6 a] (AV.ax [YN s a,AV.bool (nQ s a)])/\KN 72 [AV.mc z7 (ak p),AV.int j6 (32:Int),AV.mc aM (ze s)] (AV.bool (dy p (32:Int) s))/\CV p s/\CV p s/\(IQ p s a=true->qsn p s a)/\(IQ p s a=false->ai (qx s a) s.ag.length/\(nP a=true->OE s a/\(O4 s a=true->qsn p s a)/\(O4 s a=false->Og s a/\Og s a/\(a=(zf p s a).fst.aG/\qsp s a=(zf p s a).fst.idx/\4=(zf p s a).fst.kind/\(Ut s a).var=(zf p s a).fst.obj/\qsq p s a/\qsp s a=(zf p s a).fst.entry/\KJ p s a/\qsm p s a/\(Ut s a).val=(zf p s a).fst.wrote)/\true=(zf p s a).snd))/\(nP a=false->ai (qx s a) s.af.length/\KN 79 [AV.mc z7 (ak p),AV.mc zk (aq (UE s a))] (AV.ax [AV.mc zy (encI (zg p (s.af.getD (bg s a) au))),AV.bool (cH p (s.af.getD (bg s a) au))])/\((!cH p (s.af.getD (bg s a) au))=true->qsn p s a)/\((!cH p (s.af.getD (bg s a) au))=false->(Cu p s a->(Cu p s a->Uu p s a)/\(Mb p s a->Jw p s a))/\(Mb p s a->(Dl p s a->Uu p s a)/\(Nk p s a->Jw p s a)))))) ?_;try delta qx YN nQ P9 CV KJ qsm SG qsn IQ wR EV Ws Ps qso OE O4 Og qsp Ut qsq nP UE qjq WU SN HI qsr RT RH KY XZ Dl Nk Uu Fq Cu IC FF oD Jw Mb
 simp only[SB,ai];have bad:zf p s a=(aH,false) ->(0=(zf p s a).1.aG/\0=(zf p s a).1.idx/\0=(zf p s a).1.kind/\0=(zf p s a).1.obj/\0=(zf p s a).1.mutex/\0=(zf p s a).1.entry/\0=(zf p s a).1.ord/\0=(zf p s a).1.read/\0=(zf p s a).1.wrote)/\false=(zf p s a).2:=λh=>by rw[h];exact eq
 refine⟨zjp s a hs ha,zrx p 32 s hp hs,λh=>bad ?_,λh=>?_⟩
 . rcases h with h |h
   . unfold zf;rw[x9 h]
   . unfold zf zu;rw[x9 (show aV s.af (b7 a)<0 by omega)];split<;>rfl
 obtain⟨hv,h0⟩:=h;obtain⟨hk,eF,hid,vM,hlen,hvb,_⟩:=zuj hv h0;have eK:(aV s.af (b7 a)).toNat=bg s a:=rfl;simp only[yh h0,eK];have hr:=((z21 _).1 hvb).1;have he:=hs.cE (bg s a);have l0:zf p s a=if a<0 then cD s (bg s a)else c8 p s (bg s a):=by
  unfold zf zu;rw[x8 (by simp[hv]),x8 (by omega)];rfl
 have hF:=hk.1;refine⟨by omega,λhn=>⟨by omega,λh=>bad ?_,λh=>⟨by omega,by omega, ?_⟩⟩,λhn=>⟨by omega,zwr p _ hp (hs.ok _),λh=>bad ?_,λh=>?_⟩⟩
 . rw[l0,x9 hn];unfold cD;rw[x9 (by omega)]
 . have e:zf p s a=(⟨a,(s.ag.getD (bg s a) aD).first,4,((s.ag.getD (bg s a) aD).entries.getD 0 cw).var,-1,(s.ag.getD (bg s a) aD).first,0,0,((s.ag.getD (bg s a) aD).entries.getD 0 cw).val⟩,true):=by
    rw[l0,x9 hn];unfold cD;rw[x8 (by omega),hid];have :dr (b7 a)=a:=by unfold dr b7;rw[x9 hn,x8 (by omega)];omega
    rw[this]
   rw[e];exact eq
 . rw[l0,x8 hn];exact zxn h
 rw[x8 hn]at l0;have ea:b7 a=a:=by unfold b7;rw[x8 hn]
 rw[ea]at hid;obtain⟨f1,f2,f3,_,_,_⟩:=zhu hp (hs.ok (bg s a)) vM h;rw[<- f2]at f1;have hS:=λhx=>zrw s (bg s a) (zg p (s.af.getD (bg s a) au)).obj hs hk f1.form hx;rw[eF]at hS;refine⟨λh8=>⟨λ_=>⟨λh14=>by omega,λh14=>⟨hS (f1.v (by omega)), ?_⟩⟩,λhn=>absurd h8 hn⟩,λh8=>⟨λh14=>⟨λ_=>⟨hS (f1.v (by omega)), ?_⟩,λhn=>absurd h14 hn⟩,λh14=>⟨λh9=>⟨f1.b,by omega,za (by omega) (by omega), ?_⟩,λh9=>⟨zjo s,ah1 p s a hp hs, ?_⟩⟩⟩⟩
 . rw[l0,zhn h (.inl h8),x8 h14,hid];exact eq
 . rw[l0,zhn h (.inr h14),x9 h14,hid];exact eq
 . rw[l0,zqr h h9,hid];exact eq
 . rw[l0,zqs h h8 h14 h9,hid];exact⟨eE rfl,rfl⟩
theorem zm5 {l:List cg} {m:List aF} (hl:l.length=m.length) (h:∀ j,j<m.length ->(l.getD j aD).aC=(m.getD j au).id) (r:Int):∀ k,k<=m.length ->kd l r k=fm m r k
 |0,_=>rfl
 |k+1,e=>by
  unfold kd fm;rw[hl,h _ ac,zm5 hl h r k ac]
theorem zry {p:aj} {b:Int} {s:ah} (h:dy p b s=true) (r:Int):dz s.ag r=aV s.af r:=by
 have⟨_,e,f⟩:=z12.1 h;unfold dz aV;rw[e];exact zm5 e (λj i=>(qG.1 (f j i).2).2.1) r _ (xm _)
theorem aa7 {p:aj} {s:ah} {k:Nat} {e:List Int} (h:cH p (s.af.getD k au)=false):gU p s k e=false:=by unfold gU;rw[x9 h]
theorem akp {p:aj} {s:ah} {k:Nat} {e:List Int} (h:cH p (s.af.getD k au)=true) (f:(zg p (s.af.getD k au)).op=8∨(zg p (s.af.getD k au)).op=9):gU p s k e=true:=by unfold gU;rw[x8 (by rw[h];simp),x9 f]
theorem aml {p:aj} {s:ah} {k:Nat} {f:List Int} (h:cH p (s.af.getD k au)=true) (e:(zg p (s.af.getD k au)).op=14):gU p s k f=((app (zg p (s.af.getD k au)).fn (gQ s k (zg p (s.af.getD k au)).obj).1 (bz (s.af.getD k au) (zg p (s.af.getD k au)).b)).2==0&&(app (zg p (s.af.getD k au)).fn (gQ s k (zg p (s.af.getD k au)).obj).1 (bz (s.af.getD k au) (zg p (s.af.getD k au)).b)).1 !=0):=by
 unfold gU;rw[x8 (by rw[h];simp),x8 ac,x9 e]
theorem amr {p:aj} {s:ah} {k:Nat} {f:List Int} (h:cH p (s.af.getD k au)=true) (j:¬ ((zg p (s.af.getD k au)).op=8∨(zg p (s.af.getD k au)).op=9)) (e:¬ (zg p (s.af.getD k au)).op=14) (i:((pU (zg p (s.af.getD k au)).op&&decide (0<(s.ag.getD k aD).entries.length)) || !aW f (s.af.getD k au).id)=true):gU p s k f=false:=by
 unfold gU;rw[x8 (by rw[h];simp),x8 j,x8 e,x9 i]
theorem ajw {p:aj} {s:ah} {k:Nat} {i:List Int} (h:cH p (s.af.getD k au)=true) (m:¬ ((zg p (s.af.getD k au)).op=8∨(zg p (s.af.getD k au)).op=9)) (f:¬ (zg p (s.af.getD k au)).op=14) (j:¬ ((pU (zg p (s.af.getD k au)).op&&decide (0<(s.ag.getD k aD).entries.length)) || !aW i (s.af.getD k au).id)=true) (e:(zg p (s.af.getD k au)).op=22):gU p s k i=(decide (0<=dz s.ag (bz (s.af.getD k au) (zg p (s.af.getD k au)).b))&&(s.ag.getD (dz s.ag (bz (s.af.getD k au) (zg p (s.af.getD k au)).b)).toNat aD).entries.length==0):=by
 unfold gU;rw[x8 (by rw[h];simp),x8 m,x8 f,x8 j,x9 e]
theorem aez {p:aj} {s:ah} {k:Nat} {i:List Int} (h:cH p (s.af.getD k au)=true) (m:¬ ((zg p (s.af.getD k au)).op=8∨(zg p (s.af.getD k au)).op=9)) (f:¬ (zg p (s.af.getD k au)).op=14) (j:¬ ((pU (zg p (s.af.getD k au)).op&&decide (0<(s.ag.getD k aD).entries.length)) || !aW i (s.af.getD k au).id)=true) (e:¬ (zg p (s.af.getD k au)).op=22):gU p s k i=true:=by
 unfold gU;rw[x8 (by rw[h];simp),x8 m,x8 f,x8 j,x8 e]
theorem amc {op:Int} (h:8<=op/\op<=22) (f:¬ (op=8∨op=9)) (e:¬ op=14):pU op=true:=by
 unfold pU di;grind
theorem ahm {p:aj} {t:aF} (k:bG p) (j:eL t) (h:cH p t=true) (f:(zg p t).op=14):1<=(zg p t).fn/\(zg p t).fn<=10:=by
 have e:zg p t=aI p t:=by grind[zg]
 rw[e]at f ⊢;unfold cH at h;rw[xa,xo]at h;have⟨o,i⟩:=o7.1 h.2;have m:=BU ⟨k,(mF o).1⟩ ((sj i).wf j) (vS i h.1).2.1;exact(zj1 (BS m).1).2.1 (by rw[f];rfl)
section
variable (s:ah) (a:Int)
def Ik:=(!qea s a)=true
def Q3:=Ik s a->Ik s a
def qjr:=nQ s a=true
def An:=qjr s a->qjr s a
def Zm:=ai (qx s a) s.ag.length
def Rg:=↑(s.ag.getD (wR s a) aD).entries.length<=(9223372036854775807:Int)
def qss:=decide ((0:Int)<↑(s.ag.getD (max (aV s.af (b7 a)) (0:Int)).toNat aD).entries.length)
def NM:=qea s a||decide (a<0)
end
section
variable (p:aj) (s:ah) (a:Int)
def Qm:=(!!cH p (s.af.getD (bg s a) au))=true
def qst:=Qm p s a->Qm p s a
def Lm:=!cH p (s.af.getD (bg s a) au)||(zg p (s.af.getD (bg s a) au)).op==8
def HL:=(!Lm p s a)=true
def qsu:=HL p s a->HL p s a
def QB:=Lm p s a||(zg p (s.af.getD (bg s a) au)).op==9
def D6:=co (WU p s a)
def Jq:=ai (zg p (s.af.getD (bg s a) au)).b 8
def qsv:Int:=(UE s a).az.getD (zg p (s.af.getD (bg s a) au)).b.toNat 0
def Je:List AV:=[co (qsv p s a)]
def Pa:Int×Int:=app (zg p (s.af.getD (bg s a) au)).fn (WU p s a) (qsv p s a)
def VS:Int:=(Pa p s a).fst
def WJ:=(!qss s a)=true
def BC:=WJ s a->WJ s a
def OS:=qss s a||!aW (cY p (bX s)) a
def qsw:Int:=max (aV s.af (qsv p s a)) 0
def Sq:Int:=↑(s.ag.getD (qsw p s a).toNat aD).entries.length
def Cw:=(zg p (s.af.getD (bg s a) au)).op==22
end
theorem aab (j:bG p) (hs:cK s) (r:jS a) (i:dy p 32 s=true):KN 73 [vP p,cj s,co a] (.bool (lf p s a)):=by
 refine Kn (WO p s (bg s a) 129 λ_=>none) Tryz.func73 (KN 78 [AV.mc aM (ze s),co a] (AV.ax [YN s a,AV.bool (nQ s a)])/\Q3 s a/\Q3 s a/\(NM s a=true->An s a/\An s a/\An s a/\(qjr s a->Zm s a)/\An s a/\An s a/\An s a/\(qjr s a->Rg s a)/\An s a/\An s a/\(nQ s a&&qss s a)=lf p s a)/\(NM s a=false->ai (qx s a) s.af.length/\KN 79 [AV.mc z7 (ak p),AV.mc zk (aq (UE s a))] (AV.ax [AV.mc zy (encI (zg p (s.af.getD (bg s a) au))),AV.bool (cH p (s.af.getD (bg s a) au))])/\qst p s a/\qst p s a/\qst p s a/\qsu p s a/\qsu p s a/\qsu p s a/\(QB p s a=true->cH p (s.af.getD (bg s a) au)=lf p s a)/\(QB p s a=false->(XZ p s a=true->KN 80 [AV.mc aM (ze s),YN s a,co (zg p (s.af.getD (bg s a) au)).obj] (AV.ax [D6 p s a,co (qjq p s a).snd])/\Jq p s a/\KN 136 (co (zg p (s.af.getD (bg s a) au)).fn::D6 p s a::Je p s a) (AV.ax [co (VS p s a),co (Pa p s a).snd])/\(VS p s a !=0)=lf p s a)/\(XZ p s a=false->Zm s a/\Rg s a/\BC s a/\(WJ s a->KN 81 [AV.mc aM (ze s)] (fY s))/\BC s a/\BC s a/\(WJ s a->KN 46 [AV.mc z7 (ak p),AV.mc aM (AV.agg [aK s.af,ao s.mem,AV.aA])] (ab (cY p (bX s))))/\BC s a/\BC s a/\(WJ s a->KN 84 [ab (cY p (bX s)),co a] (AV.bool (aW (cY p (bX s)) a)))/\BC s a/\BC s a/\(OS p s a=true->false=lf p s a)/\(OS p s a=false->(Cw p s a=true->Jq p s a/\KN 82 (aK s.af::Je p s a) (AV.ax [co (qsw p s a),AV.bool (decide ((0:Int)<=aV s.af ((s.af.getD (max (aV s.af (b7 a)) (0:Int)).toNat au).az.getD (zg p (s.af.getD (bg s a) au)).b.toNat (0:Int))))])/\ai (qsw p s a) s.ag.length/\Sq p s a<=9223372036854775807/\(Sq p s a==0)=lf p s a)/\(Cw p s a=false->true=lf p s a)))))) ?_;try delta qx YN nQ qea Ik Q3 qjr An Zm wR Rg qss NM UE Qm qst Lm HL qsu QB qjq WU D6 Jq qsv Je Pa VS XZ WJ BC OS qsw Sq Cw
 simp only[SZ];have hon:(cY p (bX s)).length<=s.af.length:=zjf p (bX s);have h1:=hs.af;refine⟨zjp s a hs r,λh=>⟨λh0=>?_,λ_=>by have :=hs.cE (max (aV s.af (b7 a)) 0).toNat;omega, ?_⟩,λh=>?_⟩
 . have⟨k,eF,_⟩:=zuj i h0;have :=k.2;rw[yh h0];omega
 . unfold lf;by_cases h0:0<=aV s.af (b7 a)
   . rcases h with h |h
     . exact absurd h0 h
     . rw[x9 h,yh h0,j3 h0,wd,wd];rw[decide_eq_decide];omega
   . rw[decide_eq_false h0,j5,j5]
 have⟨h0,m⟩:=h;have⟨k,eF,hid,vM,hlen,o,_⟩:=zuj i h0;have eK:(aV s.af (b7 a)).toNat=bg s a:=rfl;simp only[yh h0,eK];have hF:=k.1;have he:=hs.cE (bg s a);have ea:b7 a=a:=by unfold b7;rw[x8 m]
 have hid':=hid;rw[ea]at hid';have l0:lf p s a=gU p s (bg s a) (cY p (bX s)):=by
  unfold lf;rw[x8 m,j3 h0,wd];rfl
 rw[l0];refine⟨ac,zwr p _ j (hs.ok _),λh=>?_,λh=>?_⟩
 . cases hb:cH p (s.af.getD (bg s a) au)with
   |false=>rw[aa7 hb]
   |true=>
    rw[akp hb];rcases h with(h |h) |h
    . rw[hb]at h;cases h
    . exact .inl h
    . exact .inr h
 have⟨⟨hb,x⟩,h9⟩:=h;have⟨f,f2,y,_,_,_⟩:=zhu j (hs.ok (bg s a)) vM hb;rw[<- f2]at f;have hS:=λhx=>zrw s (bg s a) (zg p (s.af.getD (bg s a) au)).obj hs k f.form hx;rw[eF]at hS;have n89:¬ ((zg p (s.af.getD (bg s a) au)).op=8∨(zg p (s.af.getD (bg s a) au)).op=9):=ac;have ho:=f.ok.op;refine⟨λh14=>⟨hS (f.v ac),f.b,Uj _ _ _, ?_⟩,λh14=>⟨ac,ac,λ_=>zjo s,λ_=>aoi p s j hs,λ_=>Xg _ _ ac,λh=>?_,λh=>?_⟩⟩
 . rw[aml hb h14,zwc (ahm j (hs.ok _) hb h14)];rfl
 . rw[amr hb n89 h14];rw[hid',xk,xa,xd,xj];rcases h with h |h
   . exact .inl ⟨amc ho n89 h14,ac⟩
   . exact .inr h
 have hdr:¬ ((pU (zg p (s.af.getD (bg s a) au)).op&&decide (0<(s.ag.getD (bg s a) aD).entries.length)) || !aW (cY p (bX s)) (s.af.getD (bg s a) au).id)=true:=by
  rw[hid',h.2,Bool.not_true,Bool.or_false,xa,xd];rintro⟨_,q⟩;omega
 have⟨g1,e⟩:=(zro (aad i)).1 h.2;have⟨r1,r2,r3,u⟩:=Hu g1;have e1:cF p (bX s) a=s.af.getD (bg s a) au:=by rw[r2];unfold bg;rw[ea];rfl
 rw[e1]at r3;rw[e1,r3]at e;refine⟨λh22=>?_,λh22=>?_⟩
 . have ov:0<=aV s.af (bz (s.af.getD (bg s a) au) (zg p (s.af.getD (bg s a) au)).b):=by
    unfold z20 at e;rw[x8 h14,x8 ac,x8 ac,x9 h22]at e;unfold AM at e;rw[xa,xd]at e;exact e.1
   have oe:bz (s.af.getD (bg s a) au) (zg p (s.af.getD (bg s a) au)).b=(s.af.getD (bg s a) au).az.getD (zg p (s.af.getD (bg s a) au)).b.toNat 0:=rfl;rw[<- oe,yh ov];have :=(pT ov).1;have hq:=hs.cE (aV s.af (bz (s.af.getD (bg s a) au) (zg p (s.af.getD (bg s a) au)).b)).toNat;have kF:=PX s.af (bz (s.af.getD (bg s a) au) (zg p (s.af.getD (bg s a) au)).b) hs.af;rw[yh ov]at kF;refine⟨f.b,kF,ac,ac, ?_⟩;rw[ajw hb n89 h14 hdr h22,zry i,j3 ov,wd,wq,xo,xo];omega
 . rw[aez hb n89 h14 hdr h22]
end
end Go.Proofs.S25
