import Derived.Test.YtgcpdfihjmmggaaGreatDoorXt
namespace Go.Proofs.S25
open Go Go.AV Tryz
open Go.IntKind renaming i64 -> j6
open Go.AV.ex (ey)
noncomputable section
variable {w:World} {F:Nat ->Prop} {v:Value} {q:List Int} {n:Nat} (a:Int) (p:ai) (b:Int) (l:List i5) (m:i8) (c:Int) (s:ja) (id:Int) (t:i5) (i:aK) (e:Ev)
section
variable (m:i8) (i:Int) (id:Int)
def H8:i8×Int:=bc (dM (aj m)) i id (-1) id
def Rs:=aj (H8 m i id).fst
def atb:Int:=(H8 m i id).snd
def U0:i8×Int:=bc m i id (-1) id
end
theorem YB (i id:Int) (e:dk m):KN 237 [vM m,d9 i,d9 id] (.av [vM (bc m i id (-1) id).1,d9 (bc m i id (-1) id).2]):=by
 refine Kn (kL 15 λ_=>none) func237 (KN 252 [AV.mc zm (aj m),d9 i,d9 id,d9 (-1:Int),d9 id] (AV.av [AV.mc zm (Rs m i id),d9 (atb m i id)])/\LS (Rs m i id) (aj (U0 m i id).fst)/\atb m i id=(U0 m i id).snd) ?_;try delta H8 Rs atb U0
 simp only[SZ];exact aaw m i id (-1) id e
section
variable (m:i8) (i:Int) (id:Int)
def Dx:i8×Int:=bc (dM (aj m)) i id id (-1)
def Ky:=aj (Dx m i id).fst
def Ie:Int:=(Dx m i id).snd
def VM:i8×Int:=bc m i id id (-1)
end
theorem aad (i id:Int) (e:dk m):KN 238 [vM m,d9 i,d9 id] (.av [vM (bc m i id id (-1)).1,d9 (bc m i id id (-1)).2]):=by
 refine Kn (kL 15 λ_=>none) func238 (KN 252 [AV.mc zm (aj m),d9 i,d9 id,d9 id,d9 (-1:Int)] (AV.av [AV.mc zm (Ky m i id),d9 (Ie m i id)])/\LS (Ky m i id) (aj (VM m i id).fst)/\Ie m i id=(VM m i id).snd) ?_;try delta Dx Ky Ie VM
 simp only[SZ];exact aaw m i id id (-1) e
section
variable (m:i8) (id:Int) (x2:Nat)
def qp1:=x2<=m.a6.length/\∀ j:Nat,j<x2->aQ (m.a6.getD j []) id=false
def qp2:=aQ (zw (m.a6.getD (↑x2:Int).toNat []).length λi=>d9 ((m.a6.getD (↑x2:Int).toNat []).getD i 0)) id
def xS:=aQ (zw m.lT.length λi=>d9 (m.lT.getD i 0)) id
end
theorem aik (f:dk m):KN 253 [vM m,d9 id] (.bool (nt m id)):=by
 refine Kn (kL 22 (ahg m id)) func253 (aH ↑m.a6.length/\(∃ i,qp1 m id i/\(RR id/\LT (aE m.a6)/\RR (↑m.a6.length:Int)/\0=(↑i:Int))/\LT (aj m))/\∀ i:Nat,qp1 m id i->Z (qj m i) (af (↑i) m.a6.length/\KN 53 [a8 (m.a6.getD (↑i:Int).toNat []),d9 id] (AV.bool (qp2 m id i))/\Z (qp2 m id i) (true=nt m id) (aM j6 (q9 i)/\(∃ j,qp1 m id j/\qi m j<qi m i/\(RR id/\LT (aE m.a6)/\RR (↑m.a6.length:Int)/\q9 i=(↑j:Int))/\LT (aj m)))) (KN 244 [a8 m.lT,d9 id] (AV.bool (xS m id))/\xS m id=nt m id)) ?_;try delta Z aH qp1 qp2 q9 qi qj xS
 simp only[SZ];simp only[oR];have s3:=f.a6;refine⟨O,⟨0,⟨O,λj k=>O⟩,rfl⟩,λi u=>⟨λhlt=>⟨hlt,Ny _ _ (by have :=f.q i;omega),λh=>?_,λh=>⟨f9,i+1,⟨O,λj k=>?_⟩,O,O⟩⟩,λhge=>⟨zp5 _ _ (by have :=f.lT;omega), ?_⟩⟩⟩;unfold nt;rw[(zb7 m.a6 (λq=>aQ q id) []).2 ⟨i,hlt,h⟩];rfl;by_cases e:j=i;grind;exact u.2 j O;have e:m.a6.any (λq=>aQ q id)=false:=by
  rw[<- jy,zb7 m.a6 _ []];rintro⟨j,k,h⟩;rw[u.2 j O]at h;cases h
 unfold nt;rw[e];rfl
section
variable (m:i8) (id:Int)
def qc9:=(dD m id).fst.eA.length=0/\(dD m id).fst.aa.length=0/\(dD m id).fst.a6.length=0/\(dD m id).fst.lT.length=0
def U2:=!xS m id
def Up:Nat->AV:=λi=>d9 ((dR dI (a8 m.lT)).getD i 0)
def Sa:=a8 (cU (zw (dR dI (a8 m.lT)).length (Up m)) id)
end
theorem aes (hm:dk m):KN 240 [vM m,d9 id] (.av [vM (dD m id).1,d9 (dD m id).2]):=by
 refine Kn (kL 25 λ_=>none) func240 (KN 173 [AV.mc zm (aj m)] (AV.bool (ca (dM (aj m))))/\Z (!ca (dM (aj m))) (qc9 m id/\1=(dD m id).snd) (KN 244 [a8 m.lT,d9 id] (AV.bool (xS m id))/\Z (U2 m id) (qc9 m id/\30=(dD m id).snd) ((KF (185:Nat) [AV.mc zm (aj m)] (AV.mc zm (AV.agg [AV.own (0:Nat) (dR dI (a8 m.eA)).length,AV.own (1:Nat) (dR dI (a8 m.aa)).length,AV.own (2:Nat) (dR (dR dI) (aE m.a6)).length,AV.own (3:Nat) (dR dI (a8 m.lT)).length])) [ar.row (3:TypeId) ey (dR dI (a8 m.eA)).length λi=>d9 ((dR dI (a8 m.eA)).getD i (0:Int)),ar.row (3:TypeId) ey (dR dI (a8 m.aa)).length λi=>d9 ((dR dI (a8 m.aa)).getD i (0:Int)),ar.row (29:TypeId) ey (dR (dR dI) (aE m.a6)).length λi=>a8 ((dR (dR dI) (aE m.a6)).getD i []),ar.row (3:TypeId) ey (dR dI (a8 m.lT)).length (Up m)])/\(dR dI (a8 m.lT)).length<=(dR dI (a8 m.lT)).length/\KN 194 [a8 (dR dI (a8 m.lT)),d9 id] (Sa m id)/\(dR dI (a8 m.eA)).length<=(dR dI (a8 m.eA)).length/\(dR dI (a8 m.aa)).length<=(dR dI (a8 m.aa)).length/\(dR (dR dI) (aE m.a6)).length<=(dR (dR dI) (aE m.a6)).length/\(LS (a8 (dR dI (a8 m.eA))) (a8 (dD m id).fst.eA)/\LS (a8 (dR dI (a8 m.aa))) (a8 (dD m id).fst.aa)/\LS (aE (dR (dR dI) (aE m.a6))) (aE (dD m id).fst.a6)/\LS (Sa m id) (a8 (dD m id).fst.lT))/\0=(dD m id).snd))) ?_;try delta Z qc9 xS U2 Up Sa
 simp only[SZ];simp only[oR];refine⟨zfn m hm.wo,λh=>?_,λh=>⟨zp5 _ _ (by have :=hm.lT;omega),λh2=>?_,λh2=>⟨zfo m hm,Lw _ _ hm.lT, ?_⟩⟩⟩;have e:dD m id=(du,1):=by unfold dD;rw[x9 h]
 rw[e];exact⟨df,rfl⟩;have e:dD m id=(du,30):=by unfold dD;rw[x8 (by simp[h]),x9 h2]
 rw[e];exact⟨df,rfl⟩;have e:dD m id=({m with lT:=cU m.lT id},0):=by unfold dD;rw[x8 (by simp[h]),x8 (by simp[h2])]
 grind
section
variable (p:ai)
def WO:=(zc (dP (ah p))).fst==0
def Vh:=WO p=true
def Xv:=Vh p->Vh p
variable (m:i8)
def qp3:=WO p&&ca (dM (aj m))
def vz:=qp3 p m=true
def lZ:=vz p m->vz p m
def qp4:=qp3 p m&&(↑m.eA.length:Int)==(↑p.eA.length:Int)
def wT:=qp4 p m=true
def ma:=wT p m->wT p m
def qhv:=qp4 p m&&(↑m.aa.length:Int)==(↑p.aP.length:Int)
def vW:=qhv p m=true
def lY:=vW p m->vW p m
end
theorem abm (e:bI p) (f:MWk m):KN 112 [vP p,vM m] (.bool (ec p m)):=by
 refine Kn (kL 38 λ_=>none) func112 (KN 111 [AV.mc z7 (ah p)] (AV.bool (WO p))/\Xv p/\(Vh p->KN 173 [AV.mc zm (aj m)] (AV.bool (ca (dM (aj m)))))/\Xv p/\lZ p m/\lZ p m/\(vz p m->aH ↑m.eA.length)/\lZ p m/\lZ p m/\(vz p m->aH ↑p.eA.length)/\lZ p m/\lZ p m/\lZ p m/\ma p m/\ma p m/\(wT p m->aH ↑m.aa.length)/\ma p m/\ma p m/\(wT p m->aH ↑p.aP.length)/\ma p m/\ma p m/\ma p m/\lY p m/\lY p m/\(vW p m->aH ↑m.a6.length)/\lY p m/\lY p m/\(vW p m->aH ↑p.kC.length)/\lY p m/\lY p m/\lY p m/\(qhv p m&&(↑m.a6.length:Int)==(↑p.kC.length:Int))=ec p m) ?_;try delta aH WO Vh Xv qp3 vz lZ qp4 wT ma qhv vW lY
 simp only[SZ];have x:=f.eA;have u:=f.aa;have k:=f.a6;have j:=e.eA;have i:=e.aP;have h:=e.kC;refine⟨zox p e,λ_=>zfn m f,λ_=>O,λ_=>O,λ_=>O,λ_=>O,λ_=>O,λ_=>O, ?_⟩;grind[ec]
theorem zle (q:List Int):∀ (l:List Int),(q.foldl c9 l).length<=l.length+q.length:=by
 induction q with
 |nil=>intro l;simp
 |cons x q e=>
  intro l;have h:=e (c9 l x);have f:=zj6 l x;simp;omega
theorem aks (q:List Int) (i:Nat) (e:i<q.length):q.take (i+1)=q.take i++[q.getD i 0]:=ce
theorem zww (q l:List Int) (i:Nat) (e:i<q.length):(q.take (i+1)).foldl c9 l=c9 ((q.take i).foldl c9 l) (q.getD i 0):=by
 rw[aks q i e,List.foldl_append];rfl
theorem zd1 {j:Nat} (h:j<n):(q.take n).getD j 0=q.getD j 0:=dl
theorem zq2 {j:Nat}:(q.drop n).getD j 0=q.getD (n+j) 0:=dl
theorem YZ {k:Nat} (e:k=q.length - n):zw k (λi=>d9 (q.getD (n+i) 0))=q.drop n:=by
 subst e;show(List.range _).map _=_;apply j5 ap;intro j f m;have h:j<q.length - n:=by simpa using f
 simp[dI,(show n+j<q.length by omega)]
theorem zec {k:Nat} (e:k=q.length - n) (f:q.length<=1000000):KN 225 [.seq .ey k λi=>d9 (q.getD (n+i) 0)] (a8 (q.drop n)):=by
 refine(zfm (q.drop n) (by rw[wn];omega)).weaken (args':=[_]) rfl ⟨⟨rfl,by rw[wn];exact e,λj h=>?_⟩,trivial⟩;show d9 (q.getD (n+j) 0)=d9 ((q.drop n).getD j 0);rw[zq2]
theorem aa2 (l:List (List Int)) (a:Nat) (v:List Int) (j:Nat) (f:j<l.length):(if j=a then a8 v else a8 (l.getD j []))=a8 ((l.set a v).getD j []):=by
 rw[x7 (l:=l.set _ _),gq];by_cases e:a=j;grind;rw[x8 (λh=>e h.symm),x8 e,x7]
section
variable (m:i8) (c:Int)
def qp5:Int:=bC (dM (aj m)) c ↑m.a6.length
variable (n:Int)
def qp6:Nat:=(zi m c n).fst.a6.length
def Af:=qp5 m c !=0
variable (x1:Nat)
def B6:=a8 ((dR (dR dI) (aE m.a6)).getD x1 [])
def uT:=af c (dR (dR dI) (aE m.a6)).length
def sM:=c.toNat<(dR (dR dI) (aE m.a6)).length
def nk:List Int:=(dR (dR dI) (aE m.a6)).getD c.toNat []
def oK:Int:=↑(nk m c).length
def vN:Int:=if ↑((dR (dR dI) (aE m.a6)).getD c.toNat []).length<n then oK m c else n
def Ia:=0<=vN m c n
def RA:=vN m c n<=oK m c
def qhw:Nat:=(vN m c n - 0).toNat
def Qf:Int:=↑(qhw m c n)
def MM:=(dR dI (a8 m.lT)).length<=(dR dI (a8 m.lT)).length
def QQ:Int:=(nk m c).getD (Int.toNat 0+Int.toNat 0) 0
def Pv:=a8 (c9 (zw (dR dI (a8 m.lT)).length (Up m)) (QQ m c))
variable (x3:Nat)
def qp7:=1<=x3/\x3<=gZ m c n/\bC m c ↑m.a6.length=0
def qhx:List Int:=List.take (gZ m c n) (m.a6.getD c.toNat [])
def Mg:Nat:=(qhx m c n).length
def Fi:=(dR dI (a8 m.eA)).length=m.eA.length
def SN:=(dR dI (a8 m.aa)).length=m.aa.length
def Q2:=(dR (dR dI) (aE m.a6)).length=m.a6.length
variable (x2:Nat)
def qp8:List Int:=List.foldl c9 m.lT (List.take x2 (m.a6.getD c.toNat []))
def Zy:=a8 (qp8 m c x2)
def OM:=x1<(dR (dR dI) (aE m.a6)).length
def SC:=decide ((0:Int)<↑((if ↑((dR (dR dI) (aE m.a6)).getD c.toNat []).length<n then ↑((dR (dR dI) (aE m.a6)).getD c.toNat []).length else n) - (0:Int)).toNat)
def Fe:Nat:=(oK m c - vN m c n).toNat
def RH:Nat->AV:=λi=>d9 ((nk m c).getD ((vN m c n).toNat+i) 0)
def QD:=a8 (zw (Fe m c n) (RH m c n))
def Nh:=a8 ((zi m c n).fst.a6.getD x3 [])
def DT:=0=(zi m c n).snd.snd
def LD:Int:=(qhx m c n).getD (↑x3:Int).toNat 0
def PH:=a8 (c9 (zw (qp8 m c x3).length λi=>d9 ((qp8 m c x3).getD i 0)) (LD m c n x3))
def Nk:=decide ((↑x3:Int)<(↑(gZ m c n):Int))
def nR:Int:=↑(m.a6.getD c.toNat []).length
def Bc:Nat:=(nR m c - ↑(gZ m c n)).toNat
def LW:Nat->AV:=λi=>d9 ((m.a6.getD c.toNat []).getD ((↑(gZ m c n):Int).toNat+i) 0)
def Rb:=a8 (zw (Bc m c n) (LW m c n))
end
theorem zq3 (n:Int) (f:dk m) (k:0<=n):KN 254 [vM m,d9 c,d9 n] (.av [vM (zi m c n).1,d9 (zi m c n).2.1,d9 (zi m c n).2.2]):=by
 refine Kn {vM3 65 (λ_=>false) (λ_=>none)with sK:=afl m c n} func254 (aH ↑m.a6.length/\KN 189 [AV.mc zm (aj m),d9 c,d9 ↑m.a6.length] (d9 (qp5 m c))/\Z (Af m c) (((zi m c n).fst.eA.length=0/\(zi m c n).fst.aa.length=0/\qp6 m c n=0/\(zi m c n).fst.lT.length=0)/\0=(zi m c n).snd.fst/\qp5 m c=(zi m c n).snd.snd) ((KF (185:Nat) [AV.mc zm (aj m)] (AV.mc zm (AV.agg [AV.own (0:Nat) (dR dI (a8 m.eA)).length,AV.own (1:Nat) (dR dI (a8 m.aa)).length,AV.own (2:Nat) (dR (dR dI) (aE m.a6)).length,AV.own (3:Nat) (dR dI (a8 m.lT)).length])) [ar.row (3:TypeId) ey (dR dI (a8 m.eA)).length λi=>v7 m i,ar.row (3:TypeId) ey (dR dI (a8 m.aa)).length λi=>oq m i,ar.row (29:TypeId) ey (dR (dR dI) (aE m.a6)).length λi=>B6 m i,ar.row (3:TypeId) ey (dR dI (a8 m.lT)).length (Up m)])/\uT m c/\sM m c/\oK m c<=9223372036854775807/\uT m c/\sM m c/\((0:Int)<=(0:Int)/\Ia m c n/\RA m c n)/\Qf m c n<=9223372036854775807/\(Z (SC m c n) (af 0 (qhw m c n)/\MM m/\KN 193 [a8 (dR dI (a8 m.lT)),d9 (QQ m c)] (Pv m c)/\aM j6 vh/\(∃ (j:Nat),qp7 m c n j/\(RR c/\vN m c n=(↑(gZ m c n):Int)/\(qhw m c n=Mg m c n/\∀ (i:Nat),i<qhw m c n->d9 (List.getD (nk m c) (Int.toNat (0:Int)+i) (0:Int))=d9 (List.getD (qhx m c n) i (0:Int)))/\Qf m c n=(↑(gZ m c n):Int)/\vh=(↑j:Int))/\(bt/\bt/\bt/\bt)/\(Fi m/\SN m/\Q2 m/\LS (Pv m c) (Zy m c j))/\(Fi m/\∀ (i:Nat),i<List.length (dR dI (a8 (i8.eA m)))->v7 m i=d9 (List.getD (i8.eA m) i (0:Int)))/\(SN m/\∀ (i:Nat),i<List.length (dR dI (a8 (i8.aa m)))->oq m i=d9 (List.getD (i8.aa m) i (0:Int)))/\Q2 m/\∀ (i:Nat),OM m i->B6 m i=a8 (List.getD (i8.a6 m) i []))) (uT m c/\sM m c/\(Ia m c n/\RA m c n/\oK m c<=oK m c)/\KN 225 [AV.seq ey (Fe m c n) (RH m c n)] (QD m c n)/\uT m c/\sM m c/\(dR dI (a8 m.eA)).length<=(dR dI (a8 m.eA)).length/\(dR dI (a8 m.aa)).length<=(dR dI (a8 m.aa)).length/\(dR (dR dI) (aE m.a6)).length<=(dR (dR dI) (aE m.a6)).length/\MM m/\(LS (a8 (dR dI (a8 m.eA))) (a8 (zi m c n).fst.eA)/\LS (a8 (dR dI (a8 m.aa))) (a8 (zi m c n).fst.aa)/\((dR (dR dI) (aE m.a6)).length=qp6 m c n/\∀ i:Nat,OM m i->(if i=c.toNat then aq (QD m c n)else B6 m i)=Nh m c n i)/\LS (a8 (dR dI (a8 m.lT))) (a8 (zi m c n).fst.lT))/\vN m c n=(zi m c n).snd.fst/\DT m c n))/\∀ i:Nat,qp7 m c n i->Z (Nk m c n i) (af (↑i) (Mg m c n)/\KN 193 [Zy m c i,d9 (LD m c n i)] (PH m c n i)/\aM j6 (q9 i)/\(∃ j,qp7 m c n j/\gZ m c n - j<gZ m c n - i/\(RR c/\RR (↑(gZ m c n):Int)/\LT (a8 (qhx m c n))/\RR (↑(gZ m c n):Int)/\q9 i=(↑j:Int))/\(LT (a8 [])/\LT (a8 [])/\LT (aE [])/\LT (a8 []))/\(RR m.eA.length/\RR m.aa.length/\RR m.a6.length/\LS (PH m c n i) (Zy m c j))/\(RR m.eA.length/\∀ (i:Nat),i<m.eA.length->RR (d9 (m.eA.getD i 0)))/\(RR m.aa.length/\∀ (i:Nat),i<m.aa.length->RR (d9 (m.aa.getD i 0)))/\RR m.a6.length/\∀ (i:Nat),i<m.a6.length->RR (a8 (m.a6.getD i [])))) (af c m.a6.length/\c.toNat<m.a6.length/\((0:Int)<=↑(gZ m c n)/\↑(gZ m c n)<=nR m c/\nR m c<=nR m c)/\KN 225 [AV.seq ey (Bc m c n) (LW m c n)] (Rb m c n)/\af c m.a6.length/\c.toNat<m.a6.length/\m.eA.length<=m.eA.length/\m.aa.length<=m.aa.length/\m.a6.length<=m.a6.length/\(LS (a8 m.eA) (a8 (zi m c n).fst.eA)/\LS (a8 m.aa) (a8 (zi m c n).fst.aa)/\(m.a6.length=qp6 m c n/\∀ (i:Nat),i<m.a6.length->(if i=c.toNat then aq (Rb m c n)else a8 (m.a6.getD i []))=Nh m c n i)/\LS (Zy m c i) (a8 (zi m c n).fst.lT))/\↑(gZ m c n)=(zi m c n).snd.fst/\DT m c n))) ?_;try delta Z aH bt qp5 qp6 Af v7 oq B6 Up uT sM nk oK vN Ia RA qhw Qf MM QQ Pv vh qp7 qhx Mg Fi SN Q2 qp8 Zy OM SC Fe RH QD Nh DT LD PH q9 Nk nR Bc LW Rb
 simp only[SZ];have s3:=f.a6;have hq:=f.q c.toNat;have sA:=f.all;have hA:(kw m).length=m.lT.length+m.a6.flatten.length:=by unfold kw;rw[xl]
 have hq2:=TJ m.a6 c.toNat;have eN:(if((m.a6.getD c.toNat []).length:Int)<n then((m.a6.getD c.toNat []).length:Int)else n)=((gZ m c n:Nat):Int):=by
  unfold gZ;rw[Int.min_def];split<;>split<;>omega
 have hN:gZ m c n<=(m.a6.getD c.toNat []).length:=O;have eW:min n ((m.a6.getD c.toNat []).length:Int)=((gZ m c n:Nat):Int):=by
  unfold gZ;rw[Int.min_def];split<;>omega
 have eK:((((m.a6.getD c.toNat []).length:Int)) - ((gZ m c n:Nat):Int)).toNat=(m.a6.getD c.toNat []).length - gZ m c n:=O;have yes:bC m c m.a6.length=0 ->zi m c n=(ud m c.toNat (gZ m c n),((gZ m c n:Nat):Int),0):=λh=>by
  unfold zi;rw[x8 (by simp[h]),eW,gp]
 simp only[eN,oR,gp,eK,w6,wg];have fin:bC m c m.a6.length=0 ->∀ i,i=gZ m c n ->(0<=c/\c<(m.a6.length:Int))/\c.toNat<m.a6.length:=λh i _=>by have :=kM h;omega
 refine⟨O,TC m _ _ f,λh=>?_,λh=>?_⟩;have e:zi m c n=(du,0,bC m c m.a6.length):=by unfold zi;rw[x9 h]
 rw[e];exact⟨df,rfl,rfl⟩;have hc:=(kM h).2;rw[yes h];refine⟨zfo m f,hc,O,O,hc,O,⟨O,O,O⟩,O,⟨λh0=>⟨⟨O,O⟩,qN _ _ O,f9,1,⟨O,O,h⟩,⟨⟨by rw[xr];omega,λj hj=>by rw[zd1 hj]⟩,rfl⟩, ?_⟩,λh0=>?_⟩,λi hi=>⟨λhlt=>?_,λhge=>?_⟩⟩;have e:=zww (m.a6.getD c.toNat []) m.lT 0 O;rw[e];exact⟨rfl,λ_ _=>rfl⟩;have e0:gZ m c n=0:=O;refine⟨hc,O,⟨O,O⟩,by rw[YZ rfl];exact zec rfl hq,hc,O,⟨⟨rfl,λ_ _=>rfl⟩,⟨rfl,λ_ _=>rfl⟩,⟨by show _=(List.set _ _ _).length;simp,λj hj=>by rw[YZ rfl];exact aa2 _ _ _ j hj⟩, ?_⟩,rfl,rfl⟩;unfold ud;rw[e0];exact⟨rfl,λ_ _=>rfl⟩;have e:=zww (m.a6.getD c.toNat []) m.lT i O;have hf:=zle ((m.a6.getD c.toNat []).take i) m.lT;rw[xr]at hf;refine⟨by rw[xr];omega,qN _ _ O,f9,i+1,⟨O,hlt,h⟩,O,O, ?_⟩;rw[e,zd1 hlt];exact⟨rfl,λ_ _=>rfl⟩;have e0:gZ m c n=i:=O;refine⟨hc,O,hN,by rw[YZ rfl];exact zec rfl hq,hc,O,⟨⟨rfl,λ_ _=>rfl⟩,⟨rfl,λ_ _=>rfl⟩,⟨by show _=(List.set _ _ _).length;simp,λj hj=>by rw[YZ rfl];exact aa2 _ _ _ j hj⟩, ?_⟩,rfl,rfl⟩;unfold ud;rw[e0];exact⟨rfl,λ_ _=>rfl⟩
section
variable (m:i8) (c:Int)
def zH:=aj (zi (dM (aj m)) c 1).fst
def SG:Int×Int:=(zi (dM (aj m)) c 1).snd
def Gv:Int:=(SG m c).fst
def ET:Int:=(SG m c).snd
def VB:Int×Int:=(zi m c 1).snd
end
theorem ags (e:dk m):KN 241 [vM m,d9 c] (.av [vM (zi m c 1).1,d9 (zi m c 1).2.1,d9 (zi m c 1).2.2]):=by
 refine Kn (kL 13 λ_=>none) func241 (KN 254 [AV.mc zm (aj m),d9 c,d9 (1:Int)] (AV.av [AV.mc zm (zH m c),d9 (Gv m c),d9 (ET m c)])/\LS (zH m c) (aj (zi m c 1).fst)/\Gv m c=(VB m c).fst/\ET m c=(VB m c).snd) ?_;try delta zH SG Gv ET VB
 simp only[SZ];exact zq3 m c 1 e (am)
theorem zwx (l:List (List Int)) (i:Nat) (f:i<l.length):z1z (l.take (i+1))=max (z1z (l.take i)) ((l.getD i []).length:Int):=by
 have e:l.take (i+1)=l.take i++[l.getD i []]:=by
  simp_all
 unfold z1z;rw[e,List.foldl_append];rfl
theorem zlf (l:List (List Int)):∀ i,i<=l.length ->0<=z1z (l.take i)
 |0,_=>yr _
 |i+1,h=>by
  rw[zwx l i O];omega
section
variable (m:i8) (x1:Nat)
def RT:Int:=(↑(m.a6.getD (↑x1:Int).toNat []).length:Int)
variable (c:Int) (x2:Nat)
def Fy:=aj (zi (dM (aj m)) c (z1z (List.take x2 m.a6))).fst
def C4:Int×Int:=(zi (dM (aj m)) c (z1z (List.take x2 m.a6))).snd
def D3:Int:=(C4 m c x2).fst
def OJ:Int:=(C4 m c x2).snd
end
theorem afo (f:dk m):KN 242 [vM m,d9 c] (.av [vM (zi m c (z1z m.a6)).1,d9 (zi m c (z1z m.a6)).2.1,d9 (zi m c (z1z m.a6)).2.2]):=by
 refine Kn (kL 29 (acz m c)) func242 (aH ↑m.a6.length/\(∃ (i:Nat),i<=List.length (i8.a6 m)/\(RR c/\(0:Int)=z1z (List.take i (i8.a6 m))/\LT (aE (i8.a6 m))/\RR (↑(List.length (i8.a6 m)):Int)/\(0:Int)=(↑i:Int))/\LT (aj m)/\bt/\bt/\bt/\bt)/\∀ i:Nat,i<=m.a6.length->Z (qj m i) (af (↑i) m.a6.length/\RT m i<=9223372036854775807/\aM j6 (q9 i)/\(∃ j,j<=m.a6.length/\qi m j<qi m i/\(RR c/\(if z1z (List.take i m.a6)<(↑(m.a6.getD (↑i:Int).toNat []).length:Int)then RT m i else z1z (List.take i m.a6))=z1z (List.take j m.a6)/\LT (aE m.a6)/\RR (↑m.a6.length:Int)/\q9 i=(↑j:Int))/\LT (aj m)/\LT (a8 [])/\LT (a8 [])/\LT (aE [])/\LT (a8 []))) (KN 254 [AV.mc zm (aj m),d9 c,d9 (z1z (List.take i m.a6))] (AV.av [AV.mc zm (Fy m c i),d9 (D3 m c i),d9 (OJ m c i)])/\LS (Fy m c i) (aj (zi m c (z1z m.a6)).fst)/\D3 m c i=(zi m c (z1z m.a6)).snd.fst/\OJ m c i=(zi m c (z1z m.a6)).snd.snd)) ?_;try delta Z aH bt RT q9 qi qj Fy C4 D3 OJ
 simp only[SZ];have s3:=f.a6;refine⟨O,⟨0,O,rfl,rfl⟩,λi k=>⟨λhlt=>⟨hlt,by have :=f.q i;omega,f9,i+1,hlt,O, ?_,O⟩,λhge=>?_⟩⟩;rw[zwx m.a6 i hlt];omega;have e:m.a6.take i=m.a6:=xu O;have h:=zlf m.a6 i k;rw[e]at h ⊢;exact⟨zq3 m c _ f h,⟨⟨rfl,λ_ _=>rfl⟩,⟨rfl,λ_ _=>rfl⟩,⟨rfl,λ_ _=>rfl⟩,rfl,λ_ _=>rfl⟩,rfl,rfl⟩
theorem aa3 (i:Nat) (f:i<p.eA.length):gQ p (i+1)=gQ p i++[(p.eA.getD i dY).init]:=by
 have e:p.eA.take (i+1)=p.eA.take i++[p.eA.getD i dY]:=by
  simp_all
 unfold gQ;rw[e,List.map_append];rfl
theorem zq4 (i:Nat) (e:i<=p.eA.length):(gQ p i).length=i:=by grind[gQ]
section
variable (p:ai)
def SO:=↑p.kC.length<=(9223372036854775807:Int)
def qhz:=(zc p).fst=0
variable (x1:Nat)
def xM:=x1<=p.eA.length/\qhz p
def EK:=(↑p.kC.length:Int).toNat=p.kC.length
def sV:Nat:=(gQ p x1).length+1
def sy:=LT (a8 [])/\LT (a8 [])/\LT (aE [])/\LT (a8 [])
variable (x2:Nat)
def Wv:=sV p x1=(gQ p x2).length
def wN:=d9 ((gQ p x1).getD x2 0)
def Ea:=∀ (i:Nat),i<p.kC.length->RR AV.ax
def qp9:=RR p.kC.length/\Ea p
def xN:=x1<=p.aP.length/\qhz p
def yA:=d9 ((List.map (λx=>x.init) p.eA).getD x1 0)
variable (x0:Nat)
def pO:Nat:=(List.replicate x0 (-1)).length
def UA:Nat:=p.aP.length - x1
end
section
variable (x0:Nat) (x1:Nat)
def xE:=d9 ((List.replicate x0 (-1)).getD x1 0)
end
section
variable (p:ai) (x1:Nat)
def Tc:=decide ((↑x1:Int)<(↑p.aP.length:Int))
end
theorem ai7 (m:bI p):KN 62 [vP p] (.av [zpz (m0 p).1 (m0 p).1.a6.length,d9 (m0 p).2]):=by
 refine Kn (kL 52 (afy p)) func62 (KN 51 [AV.mc z7 (ah p)] (AV.av [d9 (zc (dP (ah p))).fst,d9 (zc (dP (ah p))).snd.fst,d9 (zc (dP (ah p))).snd.snd])/\Z (lf p) (((m0 p).fst.eA.length=0/\(m0 p).fst.aa.length=0/\(m0 p).fst.a6.length=0)/\(zc (dP (ah p))).fst=(m0 p).snd) (SO p/\((0:Int)<=↑p.kC.length/\(↑p.kC.length:Int)<=(↑p.kC.length:Int)/\↑(24:Nat)*↑p.kC.length<=(140737488355328:Int)/\SO p)/\aH ↑p.eA.length/\(∃ (i:Nat),xM p i/\(LT (eP (ai.eA p))/\RR (↑(List.length (ai.eA p)):Int)/\(0:Int)=(↑i:Int))/\LT (ah p)/\(bt/\bt/\bt/\bt)/\(List.length (gQ p i)=(0:Nat)/\EK p)/\List.length (gQ p i)=(0:Nat)/\EK p/\∀ (i:Nat),i<Int.toNat (↑(List.length (ai.kC p)):Int)->RR AV.ax)/\∀ i:Nat,xM p i->Z (qz p i) (af (↑i) p.eA.length/\qr/\(RR (gQ p i).length/\↑(sV p i)*↑(8:Nat)<=(140737488355328:Int)/\sV p i<=9223372036854775807)/\qf/\qa i/\(∃ j,xM p j/\p.eA.length - j<p.eA.length - i/\(LT (eP p.eA)/\RR (↑p.eA.length:Int)/\qb i j)/\LT (ah p)/\sy/\(Wv p i j/\RR p.kC.length)/\(Wv p i j/\∀ (f:Nat),f<sV p i->(if f<(gQ p i).length then wN p i f else(mI.set 0 (aq (d9 (p.eA.getD (↑i:Int).toNat dY).init))).getD (f - (gQ p i).length) AV.any)=wN p j f)/\qp9 p)) (aH ↑p.aP.length/\(∃ f,xN p f/\(RR (↑p.aP.length:Int)/\0=(↑f:Int))/\sy/\((gQ p i).length=p.eA.length/\f=0/\RR p.kC.length)/\((gQ p i).length=(List.map (λx=>x.init) p.eA).length/\∀ (i_2:Nat),i_2<(gQ p i).length->wN p i i_2=yA p i_2)/\pO f=0/\qp9 p)/\∀ (i:Nat),xN p i->Z (Tc p i) (qr/\(i=pO i/\(↑(qd i):Int)*(↑(8:Nat):Int)<=(140737488355328:Int)/\qd i<=(9223372036854775807:Nat))/\qf/\qa i/\∃ j,xN p j/\UA p j<UA p i/\(RR (↑p.aP.length:Int)/\qb i j)/\sy/\(RR p.eA.length/\qd i=j/\RR p.kC.length)/\(RR (List.map (λx=>x.init) p.eA).length/\∀ (i:Nat),i<(List.map (λx=>x.init) p.eA).length->RR (yA p i))/\(qd i=pO j/\∀ (f:Nat),f<qd i->(if f<i then xE i f else(mI.set (0:Nat) (aq (d9 (-1:Int)))).getD (f - i) AV.any)=xE j f)/\qp9 p) (p.eA.length<=(List.map (λx=>x.init) p.eA).length/\i<=pO i/\p.kC.length<=p.kC.length/\((p.eA.length=(m0 p).fst.eA.length/\∀ (i:Nat),i<p.eA.length->yA p i=d9 ((m0 p).fst.eA.getD i (0:Int)))/\(i=(m0 p).fst.aa.length/\∀ (f:Nat),f<i->xE i f=d9 ((m0 p).fst.aa.getD f (0:Int)))/\p.kC.length=(m0 p).fst.a6.length/\Ea p)/\(0:Int)=(m0 p).snd)))) ?_;try delta Z aH bt lf SO qhz xM EK qr sV qf q9 qa qb sy Wv wN mI Ea qp9 qz xN yA pO qd UA xE Tc
 simp only[SZ];have H:=m.eA;have h5:=m.aP;have F:=m.kC;refine⟨zcr p m,λh=>?_,λh=>⟨O,⟨O,O⟩,O,⟨0,⟨O,h⟩,rfl,rfl,rfl⟩,λi y=>?_⟩⟩;have e:m0 p=(du,(zc p).1):=by unfold m0;rw[x9 h]
 rw[e];exact⟨⟨rfl,rfl,rfl⟩,rfl⟩;have e:m0 p=(⟨p.eA.map (·.init),List.replicate p.aP.length (-1),List.replicate p.kC.length [],[]⟩,0):=by unfold m0;rw[x8 (by simp[h])]
 rw[e];have u:=zq4 p i y.1;refine⟨λhlt=>⟨hlt,am,⟨O,O⟩,f9,i+1,⟨hlt,h⟩,O,O, ?_⟩,λhge=>⟨O,⟨0,⟨O,h⟩,rfl,⟨O,rfl⟩, ?_,rfl⟩,λk E=>⟨λhlt=>⟨am,⟨ap,O,O⟩,f9,k+1,⟨hlt,h⟩,O,O,rfl, ?_⟩,λhge=>⟨ap,ap,⟨⟨ap,λ_ _=>rfl⟩,⟨co,λj hj=>?_⟩,ap⟩,rfl⟩⟩⟩⟩;rw[aa3 p i hlt];exact⟨ap,ap,λj hj=>kI _ _ j hj⟩;have e2:gQ p i=p.eA.map (·.init):=by unfold gQ;rw[xu O]
 grind;refine⟨ap,λj hj=>?_⟩;have :=kI (List.replicate k (-1)) (-1) j (by simpa using hj);rw[List.length_replicate]at this;rw[this,<- List.replicate_succ'];have e2:k=p.aP.length:=O;rw[e2]
theorem dx.jT {r':List AV} {r:List AV} {w:World} {F:Nat ->Prop} {v:Value} (hl:r.length=r'.length)
 (h:∀ j,j<r.length ->∀ v,au w F v (r.getD j .any) ->au w F v (r'.getD j .any)) (i:dx w F v (.av r)):dx w F v (.av r'):=by
 have⟨f,e,m,k⟩:=i;exact⟨f,e,m.trans hl,λj s=>h j O _ (k j O)⟩
theorem _root_.Go.AV.mp.imp {P:Program} {G:List (Nat×AV)} {f:FuncId} {args:List AV} {r r':AV} (h:mp P G f args r)
 (x:∀ (w:World) (F:Nat ->Prop) (v:Value),dx w F v r ->dx w F v r'):mp P G f args r':=by
 rcases h with⟨u,m⟩ |h
 refine .inl ⟨u,λw F i K J k j=>(m w F i K J k j).mono ?_⟩;rintro en Q ⟨v,N,e,H,b2,b3,E,y⟩;exact⟨v,N,e,H,b2,b3,E,x _ _ _ y⟩;refine .inr λw F i k j=>?_;have⟨v,u,m⟩:=h w F i k j;grind
theorem _root_.Go.AV.c6.stat {P:Program} {G:List (Nat×AV)} {f:FuncId} {args:List AV} {ty:TypeId} {sh:ex} {n:Nat} {g:Nat ->AV} (h:c6 P G f args (.own 0 n) [.row ty sh n g]):mp P G f args (.seq sh n g):=by
 refine .inl ⟨h.1,λw F V a1 a2 Z Y=>(h.2 w F V a1 a2 Z Y).mono ?_⟩;rintro en w' ⟨v,R,U,e,Q,b2,b3,N,H,X,_⟩;have⟨c1,c2,E⟩:=X 0 _ rfl;rcases E with⟨E,rfl⟩ | ⟨k,cs,d1,d2,d3,d4,d5,d6,d7,d8⟩
 cases H with
 |own b g n x J=>rw[E]at x;cases x
 |gX=>exact⟨_,R,e,Q,b2,b3,N, .cH _ _ _ _⟩
 |stat h=>cases h
 generalize y:n=m at H;cases H with
 |own b k' m x J=>
  rw[d1]at x;cases x;subst y;refine⟨_,λj=>R j∨j=k,e,Q,λj u=> .inl (b2 j u),λj u=>?_,λj u=>?_, .seq k 0 n _ sh _ (λi j=>cs.getD (i*sh.size+j) undef) (.inr rfl) J (λi K j u=>?_) λi K j u=>?_⟩;rcases u with u |rfl;exact b3 j u;exact .inr d2;rcases u with u |rfl;exact N j u;exact(xj.1 d4).1;have y:=xn sh.size (show i+1<=(U 0).cap by omega);rw[y7]at y;rw[xw];exact nq d4 (by omega);exact(d8 i K j u).keep (λ_ _=>rfl) λ_ h=> .inl h
 |gX b x=>rw[d1]at x;cases x
 |stat h=>cases h
theorem zwy (h:au w F v .ax) (l:List Int) (hl:l=[]):au w F v (a8 l):=by
 subst hl;cases h;exact .cH _ _ _ _
theorem zq5 (h:au w F v (.seq .ey n λ_=> .ax)) (l:List (List Int)) (hl:l.length=n) (m:∀ i,i<n ->l.getD i []=[]):au w F v (aE l):=by
 show au w F v (.seq .ey l.length λi=>a8 (l.getD i []));rw[hl];cases h with
 |cH=>exact .cH _ _ _ _
 |seq g o n cap sh f y x u s r=>
  exact .seq g o _ cap .ey _ y x u s λi e j k=>by
   have :=r i e j k;exact zwy this _ (m i e)
theorem zlg (h:au w F v (zpz (m0 p).1 (m0 p).1.a6.length)):au w F v (vM (m0 p).1):=by
 have u:(m0 p).1.lT=[]:=by unfold m0;split<;>rfl
 have m:∀ i,i<(m0 p).1.a6.length ->(m0 p).1.a6.getD i []=[]:=by
  unfold m0;split;intro i k;exact absurd k (jo _);grind
 cases h with
 |mc y sh x hs f=>
  refine .mc y _ _ hs λj e=>?_;have h:=f j e;match j,e with
  |0,_=>exact h
  |1,_=>exact h
  |2,_=>exact zq5 h _ rfl m
  |3,_=>exact zwy h _ u
theorem Ke (f:bI p):KN 62 [vP p] (.av [vM (m0 p).1,d9 (m0 p).2]):=by
 refine(ai7 p f).imp λw F v h=>dx.jT (r:=[_,_]) (r':=[_,_]) (by rfl) (λj i u e=>?_) h;match j,i with
 |0,_=>exact zlg p e
 |1,_=>exact e
def aX:Int:=if a<0 then -(a+1)else a
def m6 (t:Int):Int:=if t<0 then 0 else -t - 1
def aas:FuncId ->List AV ->Option AV
 |59,[.int _ a]=>some (.bool (decide (a<0)))
 |121,[.int _ a] |147,[.int _ a]=>some (d9 (aX a))
 |118,[.int _ t] |81,[.int _ t]=>some (d9 (m6 t))
 |f,l=>spM f l
noncomputable def vE (n:Nat) (inv:Nat ->Option lm):bm:={C:=di n λ_ _=>false,CC:=mp prog GG,b9:=λ_ _=>aas,inv:=inv}
def jY (n:Int):Prop:= -9223372036854775808<=n/\n<=9223372036854775807
theorem aib:KN 59 [d9 a] (.bool (decide (a<0))):=by
 refine Kn (vE 5 λ_=>none) func59 (RR (decide (a<0))) ?_;try delta RR;try rfl
section
variable (a:Int)
def YS:Int:=a+1
def UK:Int:=0 - YS a
def mi:=decide (a<0)
end
theorem ad5 (e:jY a):KN 121 [d9 a] (d9 (aX a)):=by
 refine Kn (vE 9 λ_=>none) func121 (Z (mi a) (aM j6 (YS a)/\aM j6 (UK a)/\UK a=aX a) (a=aX a)) ?_;try delta Z YS UK mi
 simp only[SZ];have⟨i,f⟩:=e;unfold aX;refine⟨λh=>⟨f9,f9, ?_⟩,λh=>by rw[x8 h]⟩;omega
section
variable (a:Int)
def FV:=decide (0<=a)
end
theorem ake (e:jY a):KN 147 [d9 a] (d9 (aX a)):=by
 refine Kn (vE 9 λ_=>none) func147 (Z (FV a) (a=aX a) (aM j6 (YS a)/\aM j6 (UK a)/\UK a=aX a)) ?_;try delta Z FV YS UK
 simp only[SZ];have⟨h,f⟩:=e;unfold aX;refine⟨λh=>by rw[x8 O],λh=>⟨f9,f9, ?_⟩⟩;omega
section
variable (a:Int)
def qi1:Int:=0 - a
def UB:Int:=qi1 a - 1
end
theorem aaa (e:jY a):KN 118 [d9 a] (d9 (m6 a)):=by
 refine Kn (vE 8 λ_=>none) func118 (Z (mi a) (0=m6 a) (aM j6 (qi1 a)/\aM j6 (UB a)/\UB a=m6 a)) ?_;try delta Z mi qi1 UB
 simp only[SZ];have⟨i,f⟩:=e;unfold m6;refine⟨λh=>by rw[x9 h],λh=>⟨f9,f9, ?_⟩⟩;omega
theorem aku (e:jY a):KN 81 [d9 a] (d9 (m6 a)):=by
 refine Kn (vE 8 λ_=>none) func81 (Z (mi a) (0=m6 a) (aM j6 (qi1 a)/\aM j6 (UB a)/\UB a=m6 a)) ?_;try delta Z mi qi1 UB
 simp only[SZ];have⟨i,f⟩:=e;unfold m6;refine⟨λh=>by rw[x9 h],λh=>⟨f9,f9, ?_⟩⟩;omega
theorem fQ {s:ja} (h:vk s.ab):eu (ze s)=s:=by
 have :eu (ze s)=⟨dR dT (aF s.ab),dM (aj s.l5),dR dB (aY s.ae)⟩:=rfl;rw[this,z9i h,zo0,Il]
theorem XL (d e f g h i:Int):jX (.agg [d9 a,d9 b,d9 c,d9 d,d9 e,d9 f,d9 g,d9 h,d9 i])=⟨a,b,c,d,e,f,g,h,i⟩:=rfl
def bp (j:Int):Int:=t.aw.getD j.toNat 0
def z5e (p:ai) (b:Int) (l:List i5) (j:Nat):Prop:=fq p b (l.getD j ao)=true/\(0<j ->(l.getD (j - 1) ao).id<(l.getD j ao).id)
instance (p:ai) (b:Int) (l:List i5) (j:Nat):Decidable (z5e p b l j):=by unfold z5e;infer_instance
def rZ:Bool:=(List.range l.length).all λj=>decide (z5e p b l j)
def bT:Bool:=ec p s.l5&&(s.ae.length==0&&rZ p b s.ab)
def z1p (n:Nat):List i5:=(List.range n).map λ(j:Nat)=>(ba p b (j:Int) (p.ab.getD j dQ).fn (p.ab.getD j dQ).arg).1
def zj:ja×Int:=if aV p b≠0 then(mt,aV p b)else(⟨z1p p b p.ab.length,(m0 p).1,[]⟩,0)
def bg:i5×aK×Bool:=
 if aS s.ab id<0 then(ao,dL,false)else(s.ab.getD (aS s.ab id).toNat ao,zg p (s.ab.getD (aS s.ab id).toNat ao),cm p (s.ab.getD (aS s.ab id).toNat ao))
def im:Ev:=
 if t.gH=0 then {e with kind:=12,k7:=i.n}else if t.gH=1 then {e with kind:=13}else {e with kind:=9,ii:=i.n}
def bz:Ev:=
 let v:=(fo s.l5 i.ii).1
 let f:Ev:={e with ord:=i.ord,read:=v,kind:=5}
 if i.op=8 then {f with kind:=1}else if i.op=14 then {f with kind:=8}else if i.op=9 then {f with kind:=2,read:=0,i4:=bp t i.b}
 else if i.op=10 then {f with i4:=bp t i.b}else if i.op=11 then {f with i4:=(app 1 v (bp t i.b)).1}
 else if v=bp t i.b then {f with i4:=bp t i.c}else {f with kind:=6}
def iP:Ev:=⟨t.id,t.io,0,i.ii,-1,-1,0,0,0⟩
def nK (o:Int):Int:=(m.a6.getD o.toNat []).length
def ek (b:Bool):Int:=if b then 1 else 0
def m8:Ev:=
 if i.op=13 then {iP t i with kind:=7}else if i.op=15 then {iP t i with kind:=9}else if i.op=16 then {iP t i with kind:=10}
 else if i.op=17 then {iP t i with kind:=11,read:=ek (iJ s.l5 i.ii)}else if i.op=18 then im t i (iP t i)
 else if i.op=19 then {iP t i with kind:=14,read:=min 1 (nK s.l5 i.ii)}else if i.op=20 then {iP t i with kind:=15,read:=nK s.l5 i.ii}
 else if i.op=21 then {iP t i with kind:=16,ii:=eU t}else if i.op=22 then {iP t i with kind:=17,ii:=bp t i.b}else bz s t i (iP t i)
def xT:Bool:=decide (0<=aS l id)&&((l.getD (aS l id).toNat ao).ip==2 || (l.getD (aS l id).toNat ao).ip==3)
def z20:Bool:=
 if i.op=14 then(app i.fn (fo s.l5 i.ii).1 (bp t i.b)).1 !=0 else if i.op=15 then iJ s.l5 i.ii
 else if i.op=18 then(if t.gH=1 then aQ s.l5.lT t.id else if t.gH=2 then iJ s.l5 i.n else true)else if i.op=22 then xT s.ab (bp t i.b)else true
def np:Bool:=cm p t&&z20 s t (zg p t)
def cX:List Int:=if bT p 32 s then(s.ab.filter (np p s)).map (·.id)else []
def bA (a:Int):Ev×Bool:=
 if bT p 32 s=false then(aW,false)else if(bg p s a).2.2=false then(aW,false)else(m8 s (bg p s a).1 (bg p s a).2.1,true)
def fi:AV:= .mc aI (.agg [aF s.ab,aj s.l5, .ax])
def ZW:FuncId ->List AV ->Option AV
 |61,[.mc _ p, .int _ b] |38,[.mc _ p, .int _ b]=>some (d9 (aV (dP p) b))
 |176,[.mc _ p, .int _ b, .mc _ s]=>some (.bool (bT (dP p) b (eu s)))
 |28,[.mc _ p, .int _ b]=>some (.av [fi (zj (dP p) b).1,d9 (zj (dP p) b).2])
 |195,[.mc _ p, .mc _ s, .int _ a]=>some (.av [vT (bg (dP p) (eu s) a).1,vI (bg (dP p) (eu s) a).2.1, .bool (bg (dP p) (eu s) a).2.2])
 |233,[.bool b]=>some (d9 (ek b))
 |236,[.mc _ s, .mc _ t, .mc _ i, .mc _ e]=>some (dh (bz (eu s) (dT t) (dX i) (jX e)))
 |234,[.mc _ t, .mc _ i, .mc _ e]=>some (dh (im (dT t) (dX i) (jX e)))
 |196,[.mc _ s, .mc _ t, .mc _ i]=>some (dh (m8 (eu s) (dT t) (dX i)))
 |178,[.mc _ s, .mc _ t, .mc _ i]=>some (.bool (z20 (eu s) (dT t) (dX i)))
 |116,[.mc _ p, .mc _ s]=>some (a8 (cX (dP p) (eu s)))
 |184,[.mc _ p, .mc _ s, .int _ a]=>some (.av [dh (bA (dP p) (eu s) a).1, .bool (bA (dP p) (eu s) a).2])
 |f,l=>aas f l
abbrev fb:ar:= .cell 35 aI (ze s)
abbrev Wl:ar:= .cell 57 bF (bX e)
noncomputable def nE (n:Nat) (inv:Nat ->Option lm):bm:={C:=di n λ_ _=>false,CC:=mp prog GG,b9:=λ_ _=>ZW,inv:=inv}
structure cw (s:ja):Prop where
 ab:s.ab.length<=1000000
 ok:∀ j,dU (s.ab.getD j ao)
 l5:dk s.l5
 ae:s.ae.length<=1000000
 nw:∀ j,(s.ae.getD j az).bO.length<=1000000
structure SWk (s:ja):Prop where
 ab:s.ab.length<=1000000
 ok:∀ j,TOW (s.ab.getD j ao)
 l5:MWk s.l5
 ae:s.ae.length<=1000000
 nw:∀ j,(s.ae.getD j az).bO.length<=140737488355328
theorem cw.wo {s:ja} (h:cw s):SWk s:=⟨h.ab,λj=>(h.ok j).wo,h.l5.wo,h.ae,λj=>by have :=h.nw j;omega⟩
theorem cw.r8 {s:ja} (h:cw s):vk s.ab:=λj=>(h.ok j).aw
structure VW (m:i8) (i:aK):Prop where
 op:8<=i.op/\i.op<=22
 b:i.op=9∨i.op=10∨i.op=11∨i.op=12∨i.op=14∨i.op=21∨i.op=22 ->0<=i.b/\i.b<8
 c:i.op=12 ->0<=i.c/\i.c<8
 q:i.op=18∨i.op=19∨i.op=20 ->0<=i.ii/\i.ii<m.a6.length
def aii (k:Nat):Option lm:=match Nat.beq k 4 with
 |true=>iw s.ab.length (λi=>⟨[(1,d9 b),(3, .ptr 3 []),(5, .ptr 5 []),(21,aF s.ab),(22,d9 s.ab.length),(23,d9 i)],[(3,iM p),(5,fb s)]⟩) λi=>ec p s.l5=true/\s.ae.length=0/\∀ j,j<i ->z5e p b s.ab j
 |false=>none
end
end Go.Proofs.S25
