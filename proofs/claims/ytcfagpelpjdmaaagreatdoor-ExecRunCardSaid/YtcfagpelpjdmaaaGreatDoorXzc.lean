import Derived.Test.YtcfagpelpjdmaaaGreatDoorXzb
import Derived.Test.YtcfagpelpjdmaaaGreatDoorXv
import Derived.Test.YtcfagpelpjdmaaaGreatDoorXx
import Derived.Test.YtcfagpelpjdmaaaGreatDoorXz
namespace Go.Proofs.S25
open Go Go.AV
open Go.IntKind renaming i64 -> j6
open Go.AV.Shape (leaf)
noncomputable section
section
variable (s:ah)
def ZV:Nat:=(dR (dR dI) (aJ s.mem.aa)).length
def lB:=RR ((0:Nat))/\∀ (i:Nat),i<(0:Nat)->RR (co (List.getD [] i (0:Int)))
def ta:=(RR ((0:Nat))/\∀ (i:Nat),i<(0:Nat)->RR (aq (List.getD [] i au)))/\(lB/\lB/\(RR ((0:Nat))/\∀ (i:Nat),i<(0:Nat)->RR (ab (List.getD [] i [])))/\lB)/\RR ((0:Nat))/\∀ (i:Nat),i<(0:Nat)->RR (aB (List.getD [] i aD))
def Rk:=AV.bS 42 0 s.ag.length true
variable (x0:Nat)
def GQ:Nat:=0+(↑x0:Int).toNat
variable (x1:Nat)
def qrt:cg:=s.ag.getD (GQ x1) aD
end
theorem al1 (s:ah) (hs:cK s) (f:s.ag=[]):KF 114 [cj s] (aae s) [fy s.af]:=by
 refine pK (am8 69 (zyd s)) Tryz.func114 (KN 116 [AV.mc zm (ao s.mem)] (AV.mc zm (AV.agg [ab (dR dI (ab s.mem.vars)),ab (dR dI (ab s.mem.ae)),aJ (dR (dR dI) (aJ s.mem.aa)),ab (dR dI (ab s.mem.sig))]))/\oh s/\((0:Int)<=↑s.af.length/\(↑s.af.length:Int)<=(↑s.af.length:Int)/\↑(152:Nat)*↑s.af.length<=(140737488355328:Int)/\oh s)/\((↑s.af.length:Int).toNat<=(↑s.af.length:Int).toNat/\Zn s)/\Zn s/\(∃ (i:Nat),i<=List.length (ah.af s)/\((↑(Int.toNat (↑(List.length (ah.af s)):Int)):Int)=(↑(List.length (ah.af s)):Int)/\(0:Int)=(↑i:Int))/\LS (ze s) (ze s)/\((0:Nat)=(0:Nat)/\((0:Nat)=(0:Nat)/\(0:Nat)=(0:Nat)/\(0:Nat)=(0:Nat)/\(0:Nat)=(0:Nat))/\(0:Nat)=(0:Nat))/\(qdp s/\(List.length (dR dI (ab (Mem.vars (ah.mem s))))=List.length (Mem.vars (ah.mem s))/\∀ (i:Nat),i<List.length (dR dI (ab (Mem.vars (ah.mem s))))->co (List.getD (dR dI (ab (Mem.vars (ah.mem s)))) i (0:Int))=co (List.getD (Mem.vars (ah.mem s)) i (0:Int)))/\(List.length (dR dI (ab (Mem.ae (ah.mem s))))=List.length (Mem.ae (ah.mem s))/\∀ (i:Nat),i<List.length (dR dI (ab (Mem.ae (ah.mem s))))->co (List.getD (dR dI (ab (Mem.ae (ah.mem s)))) i (0:Int))=co (List.getD (Mem.ae (ah.mem s)) i (0:Int)))/\(ZV s=List.length (Mem.aa (ah.mem s))/\∀ (i:Nat),i<ZV s->ab (List.getD (dR (dR dI) (aJ (Mem.aa (ah.mem s)))) i [])=ab (List.getD (Mem.aa (ah.mem s)) i []))/\List.length (dR dI (ab (Mem.sig (ah.mem s))))=List.length (Mem.sig (ah.mem s))/\∀ (i:Nat),i<List.length (dR dI (ab (Mem.sig (ah.mem s))))->co (List.getD (dR dI (ab (Mem.sig (ah.mem s)))) i (0:Int))=co (List.getD (Mem.sig (ah.mem s)) i (0:Int)))/\qdp s/\∀ (i:Nat),i<Int.toNat (↑(List.length (ah.af s)):Int)->(if i<min (List.length (ah.af s)) (Int.toNat (↑(List.length (ah.af s)):Int))then aq (List.getD (ah.af s) i au)else AV.agg (co (0:Int)::co (0:Int)::co (0:Int)::(AV.arr (8:Nat) λ(x:Nat)=>co (0:Int))::co (0:Int)::co (0:Int)::co (0:Int)::yJ))=aq (List.getD (ah.af s) i au))/\∀ i:Nat,i<=s.af.length->(qc s i=true->ai (↑i) s.af.length/\KN 193 (Y1 s i) (jm s i)/\ai (↑i) s.af.length/\(↑i:Int).toNat<s.af.length/\qa i/\(∃ j,j<=s.af.length/\s.af.length - j<s.af.length - i/\(RR (↑s.af.length:Int)/\qb i j)/\LS (ze s) (ze s)/\ta/\(RR s.af.length/\LS (ao s.mem) (ao s.mem))/\RR s.af.length/\∀ (ar:Nat),ar<s.af.length->(if ar=(↑i:Int).toNat then AV.agg ((co (s.af.getD (↑i:Int).toNat au).id::co (s.af.getD (↑i:Int).toNat au).fn::co (s.af.getD (↑i:Int).toNat au).pc::my (s.af.getD (↑i:Int).toNat au).az::co (s.af.getD (↑i:Int).toNat au).steps::co (s.af.getD (↑i:Int).toNat au).kids::co (s.af.getD (↑i:Int).toNat au).phase::co (s.af.getD (↑i:Int).toNat au).status::co (s.af.getD (↑i:Int).toNat au).fault::Y1 s i).set 9 (av (jm s i)))else aq (s.af.getD ar au))=aq (s.af.getD ar au)))/\(qc s i=false->Yb s/\((0:Int)<=↑s.ag.length/\(↑s.ag.length:Int)<=(↑s.ag.length:Int)/\↑(40:Nat)*↑s.ag.length<=(140737488355328:Int)/\Yb s/\RR (↑s.ag.length:Int))/\(0+(↑s.ag.length:Int).toNat<=(↑s.ag.length:Int).toNat/\WY s)/\WY s/\(∃ i,i<=s.ag.length/\((↑(↑s.ag.length:Int).toNat:Int)=(↑s.ag.length:Int)/\0=(↑i:Int))/\LS (ze s) (ze s)/\ta/\(RR s.af.length/\LS (ao s.mem) (ao s.mem)/\AV.bS 42 0 (↑s.ag.length:Int).toNat true=Rk s)/\pG s/\(↑s.ag.length:Int).toNat=s.ag.length/\∀ (i:Nat),i<(↑s.ag.length:Int).toNat->(if 0<=i/\i<0+min s.ag.length (↑s.ag.length:Int).toNat then aB (s.ag.getD (i - 0) aD)else AV.agg yJ)=aB (s.ag.getD i aD))/\∀ (i:Nat),i<=s.ag.length->(xD s i=true->ai (↑i:Int) s.ag.length/\KN 194 [ck (s.ag.getD (↑i:Int).toNat aD).entries] (qdu s i)/\ai (↑i:Int) s.ag.length/\GQ i<s.ag.length/\qa i/\∃ j,j<=s.ag.length/\s.ag.length - j<s.ag.length - i/\(RR (↑s.ag.length:Int)/\qb i j)/\LS (ze s) (ze s)/\ta/\(RR s.af.length/\LS (ao s.mem) (ao s.mem)/\RR (Rk s))/\pG s/\RR s.ag.length/\∀ (ar:Nat),ar<s.ag.length->(if ar=(0:Nat)+(↑i:Int).toNat then AV.agg ([co (qrt s i).aC,co (qrt s i).first,ck (qrt s i).entries].set (2:Nat) (av (qdu s i)))else aB (s.ag.getD ar aD))=aB (s.ag.getD ar aD))/\(xD s i=false->s.ag.length<=s.ag.length/\(RR s.af.length/\LS (ao s.mem) (ao s.mem)/\(AV.bN cz s.ag.length λi=>aB (s.ag.getD i aD))=AV.bN cz (0:Nat) λi=>aB ([].getD i aD))/\pG s))) ?_
 try delta oh Zn qdp ZV yJ Y1 jm q9 qa qb lB ta qc Yb WY Rk pG qdu GQ qrt xD
 simp only[SB,ai]
 simp only[oR,ep]
 have h1:=hs.af
 have h:s.ag.length=0:=by rw[f];rfl
 refine⟨OH _ hs.mem,ac,⟨ac,ac⟩,ac,ac,⟨0,ac,rfl,trivial,λj hj=>by rw[x9 ac]⟩,λi hi=>⟨λhlt=>⟨hlt,zqn _ (by have :=(hs.ok i).held;omega),hlt,hlt,dl,i+1,ac,ac,ac,trivial,trivial,λj hj=>?_⟩,λhge=>⟨ac,⟨ac,ac⟩,ac,ac,⟨0,ac,rfl,trivial,trivial,λj hj=>ac⟩,λk hk=>⟨λhlt=>ac,λ_=>⟨trivial, ?_⟩⟩⟩⟩⟩
 . by_cases e:j=i
   . subst e;rw[x9 rfl];rfl
   . rw[x8 e]
 . rw[f];rfl
theorem GF {r:ah×Ev×Int} {n:Int} (h:r=(aE,aH,n)):(r.1.af.length=0/\r.1.mem.vars.length=0/\r.1.mem.ae.length=0/\r.1.mem.aa.length=0/\r.1.mem.sig.length=0)/\(0=r.2.1.aG/\0=r.2.1.idx/\0=r.2.1.kind/\0=r.2.1.obj/\0=r.2.1.mutex/\0=r.2.1.entry/\0=r.2.1.ord/\0=r.2.1.read/\0=r.2.1.wrote)/\n=r.2.2:=by
 subst h;exact⟨⟨rfl,dD⟩,⟨rfl,rfl,rfl,rfl,rfl,rfl,rfl,rfl,rfl⟩,rfl⟩
theorem Hu {p:aj} {s:ah} {a:Int} (h:(bn p s a).2.2=true):0<=aV s.af a/\cF p s a=s.af.getD (aV s.af a).toNat au/\cq p s a=zg p (cF p s a)/\cH p (cF p s a)=true:=by
 unfold cF cq
 unfold bn at h ⊢
 split at h
 . cases h
 . rename_i e;rw[x8 e];exact⟨ac,rfl,rfl,h⟩
theorem zfz {l:List aF} {k:Nat} {t:aF} (j:Nat) (f:k<l.length):(if j=k then aq t else aq (l.getD j au))=aq ((l.set k t).getD j au):=by
 rw[x7 (l:=l.set k t),j8]
 by_cases e:j=k
 . grind
 . rw[x8 e,x8 (λh=>e h.symm),x7]
theorem aac {W:ah} {a:Int} {n:aF} {e:Ev} {r:ah×Ev×Int} (k:BF W.af) (f:0<=aV W.af a) (j:r=({W with af:=W.af.set (aV W.af a).toNat n},e,0)):
 (0<=max (aV (dR dT (aK W.af)) a) 0/\max (aV (dR dT (aK W.af)) a) 0<(W.af.length:Int))/\(max (aV (dR dT (aK W.af)) a) 0).toNat<W.af.length/\
 (((W.af.length=r.1.af.length/\∀ i:Nat,i<W.af.length ->(if i=(max (aV (dR dT (aK W.af)) a) 0).toNat then aq n else aq (W.af.getD i au))=aq (r.1.af.getD i au))/\LS (ao W.mem) (ao r.1.mem))/\LS (bP e) (bP r.2.1)/\0=r.2.2):=by
 subst j
 rw[pq k,yh f]
 have h:=(pT f).1
 exact⟨⟨f,ac⟩,h,⟨⟨be,λi _=>zfz i h⟩,er rfl⟩,er rfl,rfl⟩
theorem aiy {p:aj} {b:Int} {s:ah} {a:Int} (h:(iZ p b s a).2=0):(iZ p b s a).1=⟨iu s.af (bf p b (c4 p s a).obj (cq p s a).obj (bz (cF p s a) (cq p s a).b)).1 (iD s.af (c4 p s a).obj),(dx p s a).1,[]⟩:=by
 unfold iZ fk at h ⊢
 split at h
 . exact absurd h ap
 . rename_i f
   split at h
   . exact absurd h ap
   . rename_i e;rw[x8 f,x8 e]
section
variable (p:aj) (b:Int) (s:ah) (a:Int)
def B5:Nat:=(cA p b s a).fst.af.length
def Rf:=B5 p b s a=0/\((cA p b s a).fst.mem.vars.length=0/\(cA p b s a).fst.mem.ae.length=0/\(cA p b s a).fst.mem.aa.length=0/\(cA p b s a).fst.mem.sig.length=0)/\RR 0
def s6:Ev:=(cA p b s a).snd.fst
def sf:=0=(s6 p b s a).aG/\0=(s6 p b s a).idx/\0=(s6 p b s a).kind/\0=(s6 p b s a).obj/\0=(s6 p b s a).mutex/\0=(s6 p b s a).entry/\0=(s6 p b s a).ord/\0=(s6 p b s a).read/\0=(s6 p b s a).wrote
def pZ:Int:=(cA p b s a).snd.snd
def Xv:=aX p b !=0
def Hj:=!(bn p s a).snd.snd
def qru:=(!Hj p s a)=true
def X0:=qru p s a->qru p s a
def CU:List AV:=[AV.mc aM (ze s),AV.mc zk (aq (cF p s a)),AV.mc zy (encI (cq p s a))]
def Gw:=Hj p s a||!z20 s (cF p s a) (cq p s a)
def DC:=AV.bN cz 0 λi=>aB ([].getD i aD)
def qrv:List AV:=[DC]
def Dp:=co (dx p s a).snd.fst
def GO:=(dx p s a).snd.snd !=0
variable (x4:Nat)
def Sk:=aq ((iZ p b s a).fst.af.getD x4 au)
def Sh:=(iZ p b s a).snd !=0
def TS:=KN 118 [AV.mc z7 (ak p),co b,AV.mc zk (aq (cF p s a)),Dp p s a] (AV.ax [AV.mc zk (aq (iP p b s a).fst),co (iP p b s a).snd])
def G7:=(iP p b s a).snd !=0
def MW:=G7 p b s a=true->Rf p b s a/\sf p b s a/\(iP p b s a).snd=pZ p b s a
def qrw:Int:=max (aV (dR dT (aK (iZ p b s a).fst.af)) a) 0
def Wx:=(iZ p b s a).fst.af.length<=(iZ p b s a).fst.af.length
def ZG:=aq ((cA p b s a).fst.af.getD x4 au)
def Gb:=RR DC
def Xn:=LS (bP (c4 p s a)) (bP (s6 p b s a))/\0=pZ p b s a
def UU:=G7 p b s a=false
def X4:=(c4 p s a).kind==16
end
theorem acr (p:aj) (b:Int) (s:ah) (a:Int) (e:bG p) (hs:cK s) (o:jM) (m:(allI s.mem).length<400000) (hl:s.af.length<1000000):KN 60 [vP p,co b,cj s,co a] (.ax [sM (cA p b s a).1,dg (cA p b s a).2.1,co (cA p b s a).2.2]):=by
 refine Kn (vSm p b s a 131) Tryz.func60 (KN 111 [AV.mc z7 (ak p),co b] (co (aX p b))/\(Xv p b=true->Rf p b s a/\sf p b s a/\aX p b=pZ p b s a)/\(Xv p b=false->KN 103 [AV.mc z7 (ak p),co b,AV.mc aM (ze s)] (AV.bool (c9 p b s))/\((!c9 p b s)=true->Rf p b s a/\sf p b s a/\1=pZ p b s a)/\((!c9 p b s)=false->KN 112 [AV.mc z7 (ak p),AV.mc aM (ze s),co a] (AV.ax [AV.mc zk (aq (cF p s a)),AV.mc zy (encI (cq p s a)),AV.bool (bn p s a).snd.snd])/\X0 p s a/\X0 p s a/\X0 p s a/\(qru p s a->KN 105 (CU p s a) (AV.bool (z20 s (cF p s a) (cq p s a))))/\X0 p s a/\X0 p s a/\(Gw p s a=true->Rf p b s a/\sf p b s a/\19=pZ p b s a)/\(Gw p s a=false->KN 113 (CU p s a) (AV.mc bp (bP (c4 p s a)))/\(KF (114:Nat) [AV.mc aM (ze s)] (AV.mc aM (AV.agg (AV.own (0:Nat) s.af.length::ao s.mem::qrv))) [aw.row (86:TypeId) zk s.af.length λi=>aq (s.af.getD i au)])/\KN 115 [AV.mc zm (ao s.mem),AV.mc zk (aq (cF p s a)),AV.mc zy (encI (cq p s a)),AV.mc bp (bP (c4 p s a))] (AV.ax [AV.mc zm (ao (dx p s a).fst),Dp p s a,co (dx p s a).snd.snd])/\(GO p s a=true->Rf p b s a/\sf p b s a/\30=pZ p b s a)/\(GO p s a=false->KN 116 [AV.mc zm (ao (dx p s a).fst)] (AV.mc zm (ao (dx p s a).fst))/\(X4 p s a=true->s.af.length<=s.af.length/\s.af.length<=s.af.length/\ai (cq p s a).b 8/\(KF (117:Nat) [AV.mc z7 (ak p),co b,AV.mc aM (AV.agg (aK s.af::ao (dx p s a).fst::qrv)),co (c4 p s a).obj,co (cq p s a).obj,co ((cF p s a).az.getD (cq p s a).b.toNat (0:Int))] (AV.ax [AV.mc aM (AV.agg (AV.own (0:Nat) (iZ p b s a).fst.af.length::ao (iZ p b s a).fst.mem::qrv)),co (iZ p b s a).snd]) [aw.row (86:TypeId) zk (iZ p b s a).fst.af.length λi=>Sk p b s a i])/\(Sh p b s a=true->Rf p b s a/\sf p b s a/\(iZ p b s a).snd=pZ p b s a)/\(Sh p b s a=false->TS p b s a/\MW p b s a/\(UU p b s a->KN 119 [aK (iZ p b s a).fst.af,co a] (AV.ax [co (qrw p b s a),AV.bool (decide ((0:Int)<=aV (dR dT (aK (iZ p b s a).fst.af)) a))])/\Wx p b s a/\ai (qrw p b s a) (iZ p b s a).fst.af.length/\(qrw p b s a).toNat<(iZ p b s a).fst.af.length/\Wx p b s a/\(((iZ p b s a).fst.af.length=B5 p b s a/\∀ i:Nat,i<(iZ p b s a).fst.af.length->(if i=(max (aV (dR dT (aK (iZ p b s a).fst.af)) a) 0).toNat then aq (iP p b s a).fst else Sk p b s a i)=ZG p b s a i)/\LS (ao (iZ p b s a).fst.mem) (ao (cA p b s a).fst.mem)/\Gb)/\Xn p b s a)))/\(X4 p s a=false->TS p b s a/\MW p b s a/\(UU p b s a->KN 119 [aK s.af,co a] (AV.ax [co (pF s a),AV.bool (decide ((0:Int)<=aV (dR dT (aK s.af)) a))])/\s.af.length<=s.af.length/\ai (pF s a) s.af.length/\(pF s a).toNat<s.af.length/\s.af.length<=s.af.length/\((s.af.length=B5 p b s a/\∀ i:Nat,i<s.af.length->(if i=(max (aV (dR dT (aK s.af)) a) 0).toNat then aq (iP p b s a).fst else aq (s.af.getD i au))=ZG p b s a i)/\LS (ao (dx p s a).fst) (ao (cA p b s a).fst.mem)/\Gb)/\Xn p b s a))))))) ?_
 try delta B5 Rf s6 sf pZ Xv Hj qru X0 CU Gw DC qrv Dp GO Sk Sh TS G7 MW qrw Wx ZG Gb Xn UU X4 pF
 simp only[SZ]
 have ld:∀ {w:ah×Int},w=(if(c4 p s a).kind=16 then fk p b {s with mem:=(dx p s a).1} (c4 p s a).obj (cq p s a).obj (bz (cF p s a) (cq p s a).b)else({s with mem:=(dx p s a).1},0)) ->cA p b s a=
  if aX p b≠0 then(aE,aH,aX p b)else if c9 p b s=false then(aE,aH,1)else if(bn p s a).2.2=false∨z20 s (cF p s a) (cq p s a)=false then(aE,aH,19)else if(dx p s a).2.2≠0 then(aE,aH,30)
  else if w.2≠0 then(aE,aH,w.2)else if(iP p b s a).2≠0 then(aE,aH,(iP p b s a).2)else({w.1 with af:=w.1.af.set (aV w.1.af a).toNat (iP p b s a).1},c4 p s a,0):=λh=>by subst h;rfl
 have lb:=ld rfl
 refine⟨ae8 p b e,λh=>GF (by rw[lb,x9 h]),λh1=>⟨zfq p b s e hs,λh=>GF (by rw[lb,x8 (by simp[h1]),x9 h]),λh2=>?_⟩⟩
 rw[x8 (by simp[h1]),x8 (by simp[h2])]at lb
 have V:=qH.1 h2
 have hb0:s.ag=[]:=y3 V.2.1
 have I:(bn p s a).2.2=true ->eL (cF p s a)/\jv s.mem (cq p s a):=λh=>by
  have⟨_,r2,r3,f⟩:=Hu h
  have ht:eL (cF p s a):=by rw[r2];exact hs.ok _
  have :=zaa e ht V.1 f
  rw[r3,this.2];exact⟨ht,this.1⟩
 refine⟨ad2 p s a e hs,λh=>aax s _ _ hs (I h).1 (I h).2,λh=>GF (by rw[lb,x9 h]),λh3=>?_⟩
 rw[x8 (by simp[h3.1,h3.2])]at lb
 have⟨ht,hi⟩:=I h3.1
 have⟨r1,r2,r3,f⟩:=Hu h3.1
 have Z:=zre hs.mem m (cF p s a) (cq p s a) (c4 p s a)
 refine⟨acp s _ _ hs ht hi,al1 s hs hb0,aft s.mem _ _ _ hs.mem o,λh=>GF (by rw[lb,x9 h]),λh4=>⟨OH _ Z.1,λh5=>?_,λh5=>?_⟩⟩
 . rw[x8 (by simp[h4]),x9 h5]at lb
   have he:fk p b {s with mem:=(dx p s a).1} (c4 p s a).obj (cq p s a).obj (bz (cF p s a) (cq p s a).b)=iZ p b s a:=by
    unfold iZ;rw[show({s with mem:=(dx p s a).1}:ah)=⟨s.af,(dx p s a).1,[]⟩from by rw[<- hb0]]
   rw[he]at lb
   have⟨op,k⟩:=z9s h5
   have hs1:cK ⟨s.af,(dx p s a).1,[]⟩:=⟨hs.af,hs.ok,Z.1,xp _,λ_=>xp _⟩
   refine⟨hi.b ac,am6 p b ⟨s.af,(dx p s a).1,[]⟩ _ _ _ e hs1 (by have :=z9t (cF p s a);rw[show(c4 p s a).obj=fZ (cF p s a)from k];omega),λh=>GF (by rw[lb,x9 h]),λh6=>⟨z117 p b _ _ e ht,λh=>GF (by rw[lb,x8 (by simp[h6]),x9 h]),λh7=>?_⟩⟩
   rw[x8 (by simp[h6]),x8 (by simp[h7])]at lb
   have hw:=aiy h6
   have hid:(c4 p s a).obj<=9223372036854775807:=by have :=z9t (cF p s a);rw[show(c4 p s a).obj=fZ (cF p s a)from k];omega
   have h8:BF (iZ p b s a).1.af:=λj=>by rw[hw];exact(zjj (zN _ _) hs.ok (zji e hid) j).az
   have h9:0<=aV (iZ p b s a).1.af a:=by rw[hw];exact zrc _ (zN _ _) r1
   have hl2:(iZ p b s a).1.af.length<=1000000:=by rw[hw];show(iu _ _ _).length<=_;rw[z9q _ _ _ (zN _ _)];omega
   exact⟨by rw[pq h8];exact XA _ _ hl2 h8,aac h8 h9 lb⟩
 . rw[x8 (by simp[h4]),x8 h5,x8 be]at lb
   refine⟨z117 p b _ _ e ht,λh=>GF (by rw[lb,x9 h]),λh7=>?_⟩
   rw[x8 (by simp[h7])]at lb
   exact⟨by rw[pq hs.r8];exact XA _ _ hs.af hs.r8,aac (W:={s with mem:=(dx p s a).1}) hs.r8 r1 lb⟩
theorem zjl {p:aj} {b:Int} {s:ah} {a:Int} (m:bG p) (hs:cK s) (J:(allI s.mem).length<400000) (hl:s.af.length<1000000):cK (cA p b s a).1/\(allI (cA p b s a).1.mem).length<=(allI s.mem).length+1/\(cA p b s a).1.af.length<=s.af.length+1:=by
 have bad:∀ {r:ah×Ev×Int} {n:Int},r=(aE,aH,n) ->cK r.1/\(allI r.1.mem).length<=(allI s.mem).length+1/\r.1.af.length<=s.af.length+1:=λh=>by subst h;exact⟨zft,xp _,xp _⟩
 have e:cA p b s a=
  if aX p b≠0 then(aE,aH,aX p b)else if c9 p b s=false then(aE,aH,1)else if(bn p s a).2.2=false∨z20 s (cF p s a) (cq p s a)=false then(aE,aH,19)else if(dx p s a).2.2≠0 then(aE,aH,30)
  else if(if(c4 p s a).kind=16 then fk p b {s with mem:=(dx p s a).1} (c4 p s a).obj (cq p s a).obj (bz (cF p s a) (cq p s a).b)else({s with mem:=(dx p s a).1},0)).2≠0 then(aE,aH,(if(c4 p s a).kind=16 then fk p b {s with mem:=(dx p s a).1} (c4 p s a).obj (cq p s a).obj (bz (cF p s a) (cq p s a).b)else({s with mem:=(dx p s a).1},0)).2)
  else if(iP p b s a).2≠0 then(aE,aH,(iP p b s a).2)else({(if(c4 p s a).kind=16 then fk p b {s with mem:=(dx p s a).1} (c4 p s a).obj (cq p s a).obj (bz (cF p s a) (cq p s a).b)else({s with mem:=(dx p s a).1},0)).1 with af:=(if(c4 p s a).kind=16 then fk p b {s with mem:=(dx p s a).1} (c4 p s a).obj (cq p s a).obj (bz (cF p s a) (cq p s a).b)else({s with mem:=(dx p s a).1},0)).1.af.set (aV (if(c4 p s a).kind=16 then fk p b {s with mem:=(dx p s a).1} (c4 p s a).obj (cq p s a).obj (bz (cF p s a) (cq p s a).b)else({s with mem:=(dx p s a).1},0)).1.af a).toNat (iP p b s a).1},c4 p s a,0):=rfl
 by_cases E:aX p b≠0
 . exact bad (by rw[e,x9 E])
 rw[x8 E]at e
 by_cases z:c9 p b s=false
 . exact bad (by rw[e,x9 z])
 rw[x8 z]at e
 by_cases k:(bn p s a).2.2=false∨z20 s (cF p s a) (cq p s a)=false
 . exact bad (by rw[e,x9 k])
 rw[x8 k]at e
 by_cases y:(dx p s a).2.2≠0
 . exact bad (by rw[e,x9 y])
 rw[x8 y]at e
 have F:(bn p s a).2.2=true:=by
  cases h:(bn p s a).2.2 with
  |true=>rfl
  |false=>exact absurd (.inl h) k
 have⟨r1,r2,_,_⟩:=Hu F
 have H:eL (cF p s a):=by rw[r2];exact hs.ok _
 have Z:=zre hs.mem J (cF p s a) (cq p s a) (c4 p s a)
 have o:eL (iP p b s a).1:=zm4 m H
 by_cases j:(c4 p s a).kind=16
 . simp only[x9 j]at e
   have i:(c4 p s a).obj<=9223372036854775807:=by
    have :=z9t (cF p s a)
    rw[show(c4 p s a).obj=fZ (cF p s a)from(z9s j).2];omega
   unfold fk at e
   by_cases x:0<=aV s.af (c4 p s a).obj
   . exact bad (by rw[e,x9 x,x9 ap])
   rw[x8 x]at e
   by_cases u:(bf p b (c4 p s a).obj (cq p s a).obj (bz (cF p s a) (cq p s a).b)).2≠0
   . exact bad (by rw[e,x9 u,x9 ap])
   rw[x8 u,x8 (λh=>h rfl)]at e
   by_cases f:(iP p b s a).2≠0
   . exact bad (by rw[e,x9 f])
   rw[x8 f]at e
   rw[e]
   have K:=z9q s.af (bf p b (c4 p s a).obj (cq p s a).obj (bz (cF p s a) (cq p s a).b)).1 (iD s.af (c4 p s a).obj) (zN _ _)
   exact⟨⟨by simp only[wc];omega,zfy (zjj (zN _ _) hs.ok (zji m i)) o,Z.1,hs.ag,hs.cE⟩,Z.2,by simp only[wc];omega⟩
 . simp only[x8 j]at e
   rw[x8 (λh=>h rfl)]at e
   by_cases f:(iP p b s a).2≠0
   . exact bad (by rw[e,x9 f])
   rw[x8 f]at e
   rw[e]
   exact⟨⟨by simp only[wc];omega,zfy hs.ok o,Z.1,hs.ag,hs.cE⟩,Z.2,by simp only[wc];omega⟩
def gM (p:aj) (b:Int) (s:ah) (a:Int):ah×Ev×Int:=cA p b (bX s) a
def oOt (p:aj) (b:Int) (s:ah) (a:Int):FuncId ->List AV ->Option AV
 |172,_=>some (fY s)
 |60,_=>some (.ax [sM (gM p b s a).1,dg (gM p b s a).2.1,co (gM p b s a).2.2])
 |187,_=>some (bc s.ag)
 |188,[_, .int _ t]=>some (.ax [co (max (dz s.ag t) 0), .bool (decide (0<=dz s.ag t))])
 |_,_=>none
def vBl (l:List cg) (ts:List aF):AV:= .seq cz ts.length λj=>kx l (ts.getD j au).id
noncomputable def vOt (p:aj) (b:Int) (s:ah) (a:Int) (n:Nat) (I:Nat ->Option Inv):bj:={C:=dc n λ_ _=>false,CC:=aL Tryz.prog GG,bb:=λ_ _=>oOt p b s a,inv:=λ_=>none,AK:=I}
def af9 (p:aj) (b:Int) (s:ah) (a:Int) (k:Nat):Option Inv:=match Nat.beq k 6 with
 |true=>iw ((gM p b s a).1.af.length) (λi=>⟨[(8, .ptr 8 []),(9, .ptr 9 []),(11, .ptr 11 []),(12, .ptr 12 []),(14,bc s.ag),(40,aK (gM p b s a).1.af),(41,co (gM p b s a).1.af.length),(42,co i)],[(8,fJ aE),(9,GH aH),(11, .cell 41 aM (.agg [aK (gM p b s a).1.af,ao (gM p b s a).1.mem, .own 65 i])),(12,GH (gM p b s a).2.1),(65,aby s.ag (gM p b s a).1.af i)]⟩) λi=>(gM p b s a).2.2=0
 |false=>none
theorem anv (p:aj) (b:Int) (s:ah) (a:Int) (f:bG p) (hs:cK s) (h:jM) (e:(allI s.mem).length<400000) (hl:s.af.length<1000000):KN 60 [vP p,co b,fY s,co a] (.ax [sM (gM p b s a).1,dg (gM p b s a).2.1,co (gM p b s a).2.2]):=
 (acr p b (bX s) a f hs.sc h e hl).weaken (args':=[vP p,co b,fY s,co a]) rfl ⟨zE,zE,⟨rfl,zE,zE,rfl,trivial⟩,zE,trivial⟩
theorem zyg {l:List cg} {t:Int} (h:0<=dz l t) (n:Nat) (f:Nat ->AV) (g:Nat ->AV) (m:∀ j,j<n ->f j=g j) (i:g n=kx l t) (j:Nat) (k:j<n+1):
 (if j<n then f j else((List.replicate 1 (AV.agg [co 0,co 0, .aA])).set 0 (aB (l.getD (max (dz l t) 0).toNat aD))).getD (j - n) AV.any)=g j:=by
 split
 . grind
 . have e:j=n:=ac
   subst e
   rw[w9,i,yh h]
   unfold kx;rw[x9 h];rfl
theorem ac8 {l:List cg} {t:Int} (h:¬ 0<=dz l t) (n:Nat) (f:Nat ->AV) (g:Nat ->AV) (m:∀ j,j<n ->f j=g j) (i:g n=kx l t) (j:Nat) (k:j<n+1):
 (if j<n then f j else((List.replicate 1 (AV.agg [co 0,co 0, .aA])).set 0 (.agg [co t,co 0, .aA])).getD (j - n) AV.any)=g j:=by
 split
 . grind
 . have e:j=n:=ac
   subst e
   rw[w9,i]
   unfold kx;rw[x8 h];rfl
section
variable (p:aj) (b:Int) (s:ah) (a:Int)
def qj5:=bP (gM p b s a).snd.fst
def qj6:Int:=(gM p b s a).snd.snd
def qj7:Nat:=(eD p b s a).fst.af.length
def TX:=qj7 p b s a=0
def tx:Ev:=(eD p b s a).snd.fst
def Rs:=qj6 p b s a !=0
def Ag:Nat:=(gM p b s a).fst.af.length
def I4:Int:=↑(Ag p b s a)
def RM:Int:=((gM p b s a).fst.af.getD (Int.toNat 0) au).id
def Pe:=co (RM p b s a)
def qrx:Int:=max (dz s.ag (RM p b s a)) 0
def qry:=decide (0<=dz s.ag ((gM p b s a).fst.af.getD (Int.toNat 0) au).id)
def qj8:Nat:=0+1
def JV:=0<1/\↑qj8*↑(40:Nat)<=(140737488355328:Int)/\qj8<=9223372036854775807
variable (x4:Nat)
def Zv:=x4<=Ag p b s a/\qj6 p b s a=0
def OQ:=RR s.ag.length/\∀ i:Nat,i<s.ag.length->RR (aB (s.ag.getD i aD))
def CE:aF:=(gM p b s a).fst.af.getD x4 au
def FP:=aq (CE p b s a x4)
def Mu:=x4<Ag p b s a
def qj9:=RR (Ag p b s a)/\∀ i:Nat,Mu p b s a i->RR (FP p b s a i)
def Lh:=RR (I4 p b s a)
def GC:=OQ s/\qj9 p b s a/\Lh p b s a/\AR=↑x4
def P8:=(0:Nat)=(0:Nat)/\((0:Nat)=(0:Nat)/\(0:Nat)=(0:Nat)/\(0:Nat)=(0:Nat)/\(0:Nat)=(0:Nat))/\(0:Nat)=(0:Nat)
def qja:=RR (0:Int)/\RR (0:Int)/\RR (0:Int)/\RR (0:Int)/\RR (0:Int)/\RR (0:Int)/\RR (0:Int)/\RR (0:Int)/\RR (0:Int)
def PC:=LS (ao (gM p b s a).fst.mem) (ao (gM p b s a).fst.mem)
variable (x0:Nat)
def qrz:=qj8=x0
def Lq:=qj9 p b s a/\PC p b s a/\qrz x4
def qjb:=LS (qj5 p b s a) (qj5 p b s a)
def Xu:Nat:=x0 - 0
def Bw:=kx s.ag (CE p b s a x4).id
def Iy:=x0<qj8
def T8:=decide ((0:Int)<↑(gM p b s a).fst.af.length)
def QK:aF:=(eD p b s a).fst.af.getD x4 au
def FC:=Ag p b s a=qj7 p b s a/\∀ i:Nat,Mu p b s a i->FP p b s a i=aq (QK p b s a i)
def SL:=LS (ao (gM p b s a).fst.mem) (ao (eD p b s a).fst.mem)
def Up:=kx s.ag (QK p b s a x4).id
def FL:=LS (qj5 p b s a) (bP (tx p b s a))/\0=ZO p b s a
def Us:Int:=((gM p b s a).fst.af.getD (↑x4:Int).toNat au).id
def R9:=co (Us p b s a x4)
def qs0:Int:=max (dz s.ag (Us p b s a x4)) 0
def qs1:=decide (0<=dz s.ag ((gM p b s a).fst.af.getD (↑x4:Int).toNat au).id)
def Qx:Nat:=Ag p b s a - x4
variable (x5:Nat)
def TF:=Qx p b s a x5<Qx p b s a x4
def MI:=OQ s/\qj9 p b s a/\Lh p b s a/\q9 x4=↑x5
def CP:=qj9 p b s a/\PC p b s a/\qn x4 x5
def VR:=decide ((↑x4:Int)<(↑(gM p b s a).fst.af.length:Int))
end
theorem aev (p:aj) (b:Int) (s:ah) (k a:Int) (o:bG p) (hs:cK s) (u:jM) (m:(allI s.mem).length<400000) (hl:s.af.length<1000000):KN 110 [pS s k,vP p,co b,co a] (.ax [.mc aM (.agg [aK (eD p b s a).1.af,ao (eD p b s a).1.mem,vBl s.ag (eD p b s a).1.af]),dg (eD p b s a).2.1,co (eD p b s a).2.2]):=by
 refine Kn (vOt p b s a 70 (af9 p b s a)) Tryz.func110 (KN 172 [AV.mc l8 (AV.agg [ze s,co k])] (oD s)/\(KN 60 [AV.mc z7 (ak p),co b,oD s,co a] (AV.ax [AV.mc aM (AV.agg [aK (gM p b s a).fst.af,ao (gM p b s a).fst.mem,AV.bN cz (0:Nat) λi=>aB ([].getD i aD)]),AV.mc bp (qj5 p b s a),co (qj6 p b s a)]))/\(Rs p b s a=true->(TX p b s a/\((eD p b s a).fst.mem.vars.length=0/\(eD p b s a).fst.mem.ae.length=0/\(eD p b s a).fst.mem.aa.length=0/\(eD p b s a).fst.mem.sig.length=0)/\TX p b s a)/\(0=(tx p b s a).aG/\0=(tx p b s a).idx/\0=(tx p b s a).kind/\0=(tx p b s a).obj/\0=(tx p b s a).mutex/\0=(tx p b s a).entry/\0=(tx p b s a).ord/\0=(tx p b s a).read/\0=(tx p b s a).wrote)/\qj6 p b s a=ZO p b s a)/\(Rs p b s a=false->KN 187 [bc s.ag] (bc s.ag)/\I4 p b s a<=9223372036854775807/\((T8 p b s a=true->ai 0 (Ag p b s a)/\KN 188 [bc s.ag,Pe p b s a] (AV.ax [co (qrx p b s a),AV.bool (qry p b s a)])/\(qry p b s a=true->ai (qrx p b s a) s.ag.length/\Bj/\JV/\qf/\Ys/\(∃ j,Zv p b s a j/\GC p b s a j/\P8/\qja/\Lq p b s a j/\qjb p b s a/\qrz j/\∀ (i:Nat),Iy i->(if i<0 then aB ([].getD i aD)else(Bt.set 0 (aB (s.ag.getD (qrx p b s a).toNat aD))).getD (Xu i) AV.any)=Bw p b s a i))/\(qry p b s a=false->Bj/\JV/\qf/\Ys/\(∃ j,Zv p b s a j/\GC p b s a j/\P8/\qja/\Lq p b s a j/\qjb p b s a/\qrz j/\∀ (i:Nat),Iy i->(if i<0 then aB ([].getD i aD)else(Bt.set 0 (AV.agg (Pe p b s a::uw))).getD (Xu i) AV.any)=Bw p b s a i)))/\(T8 p b s a=false->(FC p b s a/\SL p b s a/\0=qj7 p b s a/\∀ i:Nat,i<0->aB ([].getD i aD)=Up p b s a i)/\FL p b s a))/\∀ i:Nat,Zv p b s a i->(VR p b s a i=true->ai (↑i) (Ag p b s a)/\KN 188 [bc s.ag,R9 p b s a i] (AV.ax [co (qs0 p b s a i),AV.bool (qs1 p b s a i)])/\(qs1 p b s a i=true->ai (qs0 p b s a i) s.ag.length/\Bj/\XL i/\qf/\qa i/\(∃ j,Zv p b s a j/\TF p b s a i j/\MI p b s a i j/\ta/\qja/\CP p b s a i j/\qjb p b s a/\qn i j/\∀ (ar:Nat),rU i ar->(if ar<i then Bw p b s a ar else(Bt.set 0 (aB (s.ag.getD (qs0 p b s a i).toNat aD))).getD (ar - i) AV.any)=Bw p b s a ar))/\(qs1 p b s a i=false->Bj/\XL i/\qf/\qa i/\(∃ j,Zv p b s a j/\TF p b s a i j/\MI p b s a i j/\ta/\qja/\CP p b s a i j/\qjb p b s a/\qn i j/\∀ (ar:Nat),rU i ar->(if ar<i then Bw p b s a ar else(Bt.set 0 (AV.agg (R9 p b s a i::uw))).getD (ar - i) AV.any)=Bw p b s a ar)))/\(VR p b s a i=false->i<=i/\(FC p b s a/\SL p b s a/\i=qj7 p b s a/\∀ (ar:Nat),ar<i->Bw p b s a ar=Up p b s a ar)/\FL p b s a))) ?_
 try delta oD qj5 qj6 qj7 TX tx ZO Rs Ag I4 RM Pe qrx qry Bj qj8 JV qf AR Ys Zv OQ CE FP Mu qj9 Lh GC P8 qja PC qrz Lq qjb uw Bt Xu Bw Iy T8 QK FC SL Up FL Us R9 qs0 qs1 qd XL q9 qa Qx TF MI lB ta qn CP rU VR
 simp only[SB,ai]
 simp only[ep,yx]
 have r:=zjl (b:=b) (a:=a) o hs.sc m hl
 have h1:(gM p b s a).1.af.length<=1000000:=r.1.af
 have f:=hs.ag
 have fl:∀ {t:Int},0<=dz s.ag t ->0<=max (dz s.ag t) 0/\max (dz s.ag t) 0<(s.ag.length:Int):=fun {t} h=>by have :=zlm s.ag t;omega
 refine⟨Qw s k,anv p b s a o hs u m hl,λh=>?_,λh=>?_⟩
 . have e:eD p b s a=(aE,aH,(gM p b s a).2.2):=x9 h
   rw[e];exact⟨⟨rfl,dD,rfl⟩,⟨rfl,rfl,rfl,rfl,rfl,rfl,rfl,rfl,rfl⟩,rfl⟩
 have e:eD p b s a=(uj (gM p b s a).1 s.ag,(gM p b s a).2.1,0):=x8 (not_not_intro h)
 have et:(eD p b s a).1.af=(gM p b s a).1.af:=by rw[e];rfl
 have y:(eD p b s a).1.mem=(gM p b s a).1.mem:=by rw[e];rfl
 have ee:(eD p b s a).2.1=(gM p b s a).2.1:=by rw[e]
 have x:(eD p b s a).2.2=0:=by rw[e]
 rw[et,y,ee,x]
 let G:Nat ->AV:=λj=>kx s.ag ((gM p b s a).1.af.getD j au).id
 refine⟨afs _ f hs.cE,ac,⟨λh0=>⟨⟨ap,h0⟩,zql _ _ f,λhf=>⟨fl hf,ap,ap,za ap ap,1,⟨ac,h⟩,rfl,rfl,rfl,λj hj=>zyg hf 0 (λj=>aB (([]:List cg).getD j aD)) G (λj hj=>ac) rfl j hj⟩,λhf=>⟨ap,ap,za ap ap,1,⟨ac,h⟩,rfl,rfl,rfl,λj hj=>ac8 hf 0 (λj=>aB (([]:List cg).getD j aD)) G (λj hj=>ac) rfl j hj⟩⟩,λh0=>⟨⟨⟨rfl,λ_ _=>rfl⟩,er rfl,ac,λj hj=>ac⟩,er rfl,rfl⟩⟩,λi hi=>⟨λhlt=>⟨hlt,zql _ _ f,λhf=>⟨fl hf,ap,ac,dl,i+1,⟨ac,h⟩,ac,ac,rfl,rfl,λj hj=>zyg hf i G G (λj hj=>rfl) rfl j hj⟩,λhf=>⟨ap,ac,dl,i+1,⟨ac,h⟩,ac,ac,rfl,rfl,λj hj=>ac8 hf i G G (λj hj=>rfl) rfl j hj⟩⟩,λhge=>⟨⟨⟨rfl,λ_ _=>rfl⟩,er rfl,ac,λ_ _=>rfl⟩,er rfl,rfl⟩⟩⟩
theorem aai (p:aj) (b:Int) (s:ah) (k a:Int) (H:bG p) (hs:cK s) (J:jM) (E:(allI s.mem).length<400000) (hl:s.af.length<1000000):
 KN 110 [pS s k,vP p,co b,co a] (.ax [cj (eD p b s a).1,dg (eD p b s a).2.1,co (eD p b s a).2.2]):=by
 have K:∃ l,(eD p b s a).1.ag=fD (eD p b s a).1.af l (eD p b s a).1.af.length/\(l=s.ag∨(eD p b s a).1.af.length=0):=by
  unfold eD
  split
  . exact⟨[],rfl, .inr rfl⟩
  . exact⟨s.ag,rfl, .inl rfl⟩
 refine(aev p b s k a H hs J E hl).imp λw F v h=>dU.kV (r:=[_,_,_]) (r':=[_,_,_]) (by rfl) (λj e u y=>?_) h
 match j,e with
 |1,_ |2,_=>exact y
 |0,_=>
  cases y with
  |mc m sh x hs z=>
   refine .mc m _ _ hs λj e=>?_
   have h:=z j e
   match j,e with
   |0,_ |1,_ |2,_ |3,_ |4,_=>exact h
   |5,_=>
    show ay w F _ (bc (eD p b s a).1.ag)
    have⟨l,M,i⟩:=K
    rw[M]
    rcases i with rfl |i
    . exact zqe (eD p b s a).1.af s.ag _ (xm _) h
    . unfold vBl at h
      rw[i]at h ⊢
      generalize m.getD 5 undef=v at h ⊢
      cases h with
      |db=>exact .db _ _ _ _
      |seq g o n cap sh f m R Q O N=>exact .db _ _ _ _
structure bq where
 model:Int
 bound:Int
 deriving Inhabited,DecidableEq
variable (p:aj) (b:Int) (c:bq) (s:ah) (a:Int)
def aco:bq:=⟨0,0⟩
def tJ:AV:= .agg [co c.model,co c.bound]
def pM:AV:= .mc ct (tJ c)
def aaa:Shape:= .agg [z7,ct]
def aav:AV:= .agg [ak p,tJ c]
def pL:AV:= .mc aaa (aav p c)
def eH:Int:=if(c.model≠1/\c.model≠2)/\c.model≠3 then 18 else if c.bound<1∨32<c.bound then 2 else 0
def bV:Int:=if(zc p).1≠0 then(zc p).1 else if eH c≠0 then eH c else if c.model=3 then 18 else 0
def c5:aj:=if bV p c≠0 then lX else p
def cc:bq:=if bV p c≠0 then aco else c
def fb:ah×Int:=if c.model=2 then zp p c.bound else zj p c.bound
def mT:List Int:=if c.model=2 then dk p s else cY p s
def xLb:Ev×Bool:=if c.model=2 then zf p s a else bA p s a
def iH:ah×Ev×Int:=if c.model=2 then zt p c.bound s a else cA p c.bound s a
def fp:ah×Int:=if bV p c≠0 then(aE,bV p c)else fb p c
def eEn:List Int:=if bV p c≠0 then []else mT p c s
def mr:ah×Ev×Int:=if bV p c≠0 then(aE,aH,bV p c)else iH p c s a
def oXa:FuncId ->List AV ->Option AV
 |54,[_]=>some (.ax [co (zc p).1,co (zc p).2.1,co (zc p).2.2])
 |55,[_]=>some (co (eH c))
 |33,_=>some (.ax [pL (c5 p c) (cc p c),co (bV p c)])
 |64,_=>some (.ax [cj (zp p c.bound).1,co (zp p c.bound).2])
 |65,_=>some (.ax [fY (zj p c.bound).1,co (zj p c.bound).2])
 |57,_=>some (ab (dk p s))
 |58,_=>some (ab (cY p s))
 |61,_=>some (.ax [dg (zf p s a).1, .bool (zf p s a).2])
 |62,_=>some (.ax [dg (bA p s a).1, .bool (bA p s a).2])
 |59,_=>some (.ax [cj (zt p c.bound s a).1,dg (zt p c.bound s a).2.1,co (zt p c.bound s a).2.2])
 |60,_=>some (.ax [sM (cA p c.bound s a).1,dg (cA p c.bound s a).2.1,co (cA p c.bound s a).2.2])
 |41,_=>some (.ax [cj (fb (c5 p c) (cc p c)).1,co (fb (c5 p c) (cc p c)).2])
 |35,_=>some (ab (mT (c5 p c) (cc p c) s))
 |37,_=>some (.ax [dg (xLb (c5 p c) (cc p c) s a).1, .bool (xLb (c5 p c) (cc p c) s a).2])
 |36,_=>some (.ax [cj (iH (c5 p c) (cc p c) s a).1,dg (iH (c5 p c) (cc p c) s a).2.1,co (iH (c5 p c) (cc p c) s a).2.2])
 |_,_=>none
noncomputable def Zr (p:aj) (c:bq) (s:ah) (a:Int) (n:Nat):bj:={C:=dc n λ_ _=>false,CC:=aL Tryz.prog GG,bb:=λ_ _=>oXa p c s a,inv:=λ_=>none}
theorem aop {p:aj} {b:Int} {S:ah} (h:S.ag=[]) (x y z:Int):(fk p b S x y z).1.ag=[]:=by
 unfold fk
 split
 . rfl
 . split
   . rfl
   . exact h
theorem ab8:(cA p b s a).1.ag=[]:=by
 unfold cA
 split
 . rfl
 split
 . rfl
 rename_i f
 have e:s.ag=[]:=y3 (qH.1 (by simpa using f)).2.1
 split
 . rfl
 dsimp only
 split
 . rfl
 split
 . split
   . rfl
   . split
     . rfl
     . exact aop (S:={s with mem:=(du s.mem (bn p s a).1 (bn p s a).2.1 (aT s (bn p s a).1 (bn p s a).2.1)).1}) e _ _ _
 . split
   . rfl
   . split
     . rfl
     . exact e
theorem ae9:(zj p b).1.ag=[]:=by
 unfold zj;split<;>first |rfl | (split<;>rfl)
theorem vZ {p:aj} {c:bq} (h:bV p c=0):c5 p c=p/\cc p c=c:=by grind[c5,cc]
theorem amt {p:aj} {c:bq} (h:¬bV p c=0):c5 p c=lX/\cc p c=aco:=by grind[c5,cc]
section
variable (c:bq)
def yN:=(c.model !=1)=true
def nf:=yN c->yN c
def Ab:=c.model !=1&&c.model !=2
def xK:=Ab c=true
def ny:=xK c->xK c
def qQ:=Ab c&&c.model !=3
def yY:=decide (c.bound<1)
def Ar:=(!yY c)=true
def nv:=Ar c->Ar c
def qD:=yY c||decide (32<c.bound)
end
theorem ai2:KN 55 [pM c] (co (eH c)):=by
 refine Kn (Zr lX c aE 0 24) Tryz.func55 (nf c/\nf c/\nf c/\ny c/\ny c/\ny c/\(qQ c=true->18=eH c)/\(qQ c=false->nv c/\nv c/\nv c/\(qD c=true->2=eH c)/\(qD c=false->0=eH c))) ?_
 try delta yN nf Ab xK ny qQ yY Ar nv qD
 simp only[SZ]
 unfold eH
 omega
section
variable (p:aj) (c:bq)
def AA:=((c5 p c).vars.length=0/\(c5 p c).aS.length=0/\(c5 p c).conds.length=0/\(c5 p c).al.length=0/\(c5 p c).af.length=0)/\0=(cc p c).model/\0=(cc p c).bound
end
theorem Sg (i:bG p):KN 33 [vP p,pM c] (.ax [pL (c5 p c) (cc p c),co (bV p c)]):=by
 refine Kn (Zr p c aE 0 33) Tryz.func33 (KN 54 [AV.mc z7 (ak p)] (AV.ax [co (zc p).fst,co (zc p).snd.fst,co (zc p).snd.snd])/\(si p=true->AA p c/\(zc p).fst=bV p c)/\(si p=false->KN 55 [AV.mc ct (AV.agg [co c.model,co c.bound])] (co (eH c))/\((eH c !=0)=true->AA p c/\eH c=bV p c)/\((eH c !=0)=false->((c.model==3)=true->AA p c/\18=bV p c)/\((c.model==3)=false->(LS (ak p) (ak (c5 p c))/\c.model=(cc p c).model/\c.bound=(cc p c).bound)/\0=bV p c)))) ?_
 try delta AA si
 simp only[SB,ai]
 have z:∀ {n:Int},n≠0 ->bV p c=n ->((((c5 p c).vars.length=0/\(c5 p c).aS.length=0/\(c5 p c).conds.length=0/\(c5 p c).al.length=0/\(c5 p c).af.length=0)/\0=(cc p c).model/\0=(cc p c).bound)/\n=bV p c):=λh0 h=>by
  have⟨e1,f⟩:=amt (by omega:¬bV p c=0)
  rw[e1,f];exact⟨⟨⟨rfl,rfl,rfl,rfl,rfl⟩,rfl,rfl⟩,h.symm⟩
 have u:bV p c=if(zc p).1≠0 then(zc p).1 else if eH c≠0 then eH c else if c.model=3 then 18 else 0:=rfl
 refine⟨WR p i,λh=>z h (by rw[u,x9 h]),λh=>⟨ai2 c,λh2=>z h2 (by rw[u,x8 (λh'=>h' h),x9 h2]),λh2=>⟨λh3=>z ap (by rw[u,x8 (λh'=>h' h),x8 (λh'=>h' h2),x9 h3]),λh3=>?_⟩⟩⟩
 have e:bV p c=0:=ac
 have⟨e1,f⟩:=vZ e
 rw[e1,f];exact⟨⟨er rfl,rfl,rfl⟩,e.symm⟩
section
variable (p:aj) (c:bq)
def qO:List AV:=[AV.mc z7 (ak p),co c.bound]
end
theorem abe (f:bG p):KN 41 [pL p c] (.ax [cj (fb p c).1,co (fb p c).2]):=by
 refine Kn (Zr p c aE 0 24) Tryz.func41 (((c.model==2)=true->KN 64 (qO p c) (AV.ax [AV.mc aM (ze (zp p c.bound).fst),co (zp p c.bound).snd])/\LS (ze (zp p c.bound).fst) (ze (fb p c).fst)/\(zp p c.bound).snd=(fb p c).snd)/\((c.model==2)=false->KN 65 (qO p c) (AV.ax [AV.mc aM (AV.agg [aK (zj p c.bound).fst.af,ao (zj p c.bound).fst.mem,AV.aA]),co (zj p c.bound).snd])/\(((zj p c.bound).fst.af.length=(fb p c).fst.af.length/\∀ i:Nat,i<(zj p c.bound).fst.af.length->aq ((zj p c.bound).fst.af.getD i au)=aq ((fb p c).fst.af.getD i au))/\LS (ao (zj p c.bound).fst.mem) (ao (fb p c).fst.mem)/\(fb p c).fst.ag.length=0)/\(zj p c.bound).snd=(fb p c).snd)) ?_
 try delta qO
 simp only[SB,ai]
 refine⟨λh=>?_,λh=>?_⟩
 . have e:fb p c=zp p c.bound:=x9 h
   rw[e];exact⟨aak p _ f,er rfl,rfl⟩
 . have e:fb p c=zj p c.bound:=x8 h
   rw[e];exact⟨abh p _ f,⟨⟨rfl,λ_ _=>rfl⟩,er rfl,by rw[ae9];rfl⟩,rfl⟩
section
variable (p:aj) (s:ah)
def Mo:List AV:=[AV.mc z7 (ak p),AV.mc aM (ze s)]
end
section
variable (p:aj) (c:bq) (s:ah) (x3:Nat)
def Md:=co ((mT p c s).getD x3 0)
end
theorem agn (f:bG p) (hs:cK s):KN 35 [pL p c,cj s] (ab (mT p c s)):=by
 refine Kn (Zr p c s 0 17) Tryz.func35 (((c.model==2)=true->KN 57 (Mo p s) (ab (dk p s))/\(dk p s).length=(mT p c s).length/\∀ i:Nat,i<(dk p s).length->co ((dk p s).getD i 0)=Md p c s i)/\((c.model==2)=false->KN 58 (Mo p s) (ab (cY p s))/\(cY p s).length=(mT p c s).length/\∀ i:Nat,i<(cY p s).length->co ((cY p s).getD i 0)=Md p c s i)) ?_
 try delta Mo Md
 simp only[SZ]
 refine⟨λh=>?_,λh=>?_⟩
 . have e:mT p c s=dk p s:=x9 h
   rw[e];exact⟨ak4 p s f hs,rfl,λ_ _=>rfl⟩
 . have e:mT p c s=cY p s:=x8 h
   rw[e];exact⟨acy p s f hs,rfl,λ_ _=>rfl⟩
structure XW (s:ah):Prop where
 sm:cK s
 all:(allI s.mem).length<400000
 af:s.af.length<400000
section
variable (p:aj) (c:bq) (s:ah) (a:Int)
def qU:List AV:=[AV.mc z7 (ak p),co c.bound,AV.mc aM (ze s),co a]
def r6:=bP (zt p c.bound s a).snd.fst
def qM:Int:=(zt p c.bound s a).snd.snd
def Vl:=bP (iH p c s a).snd.fst
def Gy:Int:=(iH p c s a).snd.snd
def KI:=ao (cA p c.bound s a).fst.mem
def pV:=bP (cA p c.bound s a).snd.fst
def pI:Int:=(cA p c.bound s a).snd.snd
def IX:Nat:=(cA p c.bound s a).fst.af.length
end
theorem akk (f:bG p) (w:XW s) (j:jM) (o:jS a):KN 36 [pL p c,cj s,co a] (.ax [cj (iH p c s a).1,dg (iH p c s a).2.1,co (iH p c s a).2.2]):=by
 refine Kn (Zr p c s a 35) Tryz.func36 (((c.model==2)=true->KN 59 (qU p c s a) (AV.ax [AV.mc aM (ze (zt p c.bound s a).fst),AV.mc bp (r6 p c s a),co (qM p c s a)])/\LS (ze (zt p c.bound s a).fst) (ze (iH p c s a).fst)/\LS (r6 p c s a) (Vl p c s a)/\qM p c s a=Gy p c s a)/\((c.model==2)=false->(KN 60 (qU p c s a) (AV.ax [AV.mc aM (AV.agg [aK (cA p c.bound s a).fst.af,KI p c s a,AV.bN cz (0:Nat) λi=>aB ([].getD i aD)]),AV.mc bp (pV p c s a),co (pI p c s a)]))/\((IX p c s a=(iH p c s a).fst.af.length/\∀ i:Nat,i<IX p c s a->aq ((cA p c.bound s a).fst.af.getD i au)=aq ((iH p c s a).fst.af.getD i au))/\LS (KI p c s a) (ao (iH p c s a).fst.mem)/\0=(iH p c s a).fst.ag.length/\∀ i:Nat,i<0->aB ([].getD i aD)=aB ((iH p c s a).fst.ag.getD i aD))/\LS (pV p c s a) (Vl p c s a)/\pI p c s a=Gy p c s a)) ?_
 try delta qU r6 qM Vl Gy KI pV pI IX
 simp only[SB,ai]
 have r:=w.af
 have k:=w.all
 refine⟨λh=>?_,λh=>?_⟩
 . have e:iH p c s a=zt p c.bound s a:=x9 h
   rw[e];exact⟨zqu p _ s a f w.sm o ac λ_ _ _ _ _ _=>aai p _ s _ a f w.sm j k ac,er rfl,er rfl,rfl⟩
 . have e:iH p c s a=cA p c.bound s a:=x8 h
   rw[e];exact⟨acr p _ s a f w.sm j k ac,⟨⟨rfl,λ_ _=>rfl⟩,er rfl,by rw[ab8];exact⟨rfl,λi m=>absurd m (wg i)⟩⟩,er rfl,rfl⟩
section
variable (p:aj) (c:bq)
def q7:=AV.mc (Shape.agg [z7,ct]) (AV.agg [ak (c5 p c),AV.agg [co (cc p c).model,co (cc p c).bound]])
def iV:=bV p c !=0
end
theorem an6 (f:bG p):KN 24 [vP p,pM c] (.ax [cj (fp p c).1,co (fp p c).2]):=by
 refine Kn (Zr p c aE 0 22) Tryz.func24 (KN 33 [AV.mc z7 (ak p),AV.mc ct (AV.agg [co c.model,co c.bound])] (AV.ax [q7 p c,co (bV p c)])/\(iV p c=true->((fp p c).fst.af.length=0/\((fp p c).fst.mem.vars.length=0/\(fp p c).fst.mem.ae.length=0/\(fp p c).fst.mem.aa.length=0/\(fp p c).fst.mem.sig.length=0)/\(fp p c).fst.ag.length=0)/\bV p c=(fp p c).snd)/\(iV p c=false->KN 41 [q7 p c] (AV.ax [AV.mc aM (ze (fb (c5 p c) (cc p c)).fst),co (fb (c5 p c) (cc p c)).snd])/\LS (ze (fb (c5 p c) (cc p c)).fst) (ze (fp p c).fst)/\(fb (c5 p c) (cc p c)).snd=(fp p c).snd)) ?_
 try delta q7 iV
 simp only[SB,ai]
 refine⟨Sg p c f,λh=>?_,λh=>?_⟩
 . have e:fp p c=(aE,bV p c):=x9 h
   rw[e];exact⟨mq,rfl⟩
 . have e:fp p c=fb p c:=x8 (λh'=>h' h)
   have⟨i,e2⟩:=vZ h
   rw[e,i,e2];exact⟨abe p c f,er rfl,rfl⟩
end
end Go.Proofs.S25
