import Derived.Test.YtgcpdfihjmmggaaGreatDoorXt
namespace Go.Proofs.S25
open Go Go.AV
open Go.IntKind renaming i64 -> j6
open Go.AV.Shape (leaf)
noncomputable section
variable {w:World} {F:Nat ->Prop} {v:Value} {q:List Int} {n:Nat} (a:Int) (p:ai) (b:Int) (l:List aB) (m:Mem) (c:Int) (s:ag) (id:Int) (t:aB) (i:aK) (e:Ev)
section
variable (m:Mem) (i:Int) (id:Int)
def H8:Mem×Int:=bc (dM (aj m)) i id (-1) id
def Rs:=aj (H8 m i id).fst
def atb:Int:=(H8 m i id).snd
def U0:Mem×Int:=bc m i id (-1) id
end
theorem YB (i id:Int) (hm:dk m):KN 237 [vM m, .int .i64 i, .int .i64 id] (.av [vM (bc m i id (-1) id).1, .int .i64 (bc m i id (-1) id).2]):=by
 refine Kn (kL 15 λ_=>none) Tryz.func237 (KN 252 [AV.mc zm (aj m),AV.int j6 i,AV.int j6 id,AV.int j6 (-1:Int),AV.int j6 id] (AV.av [AV.mc zm (Rs m i id),AV.int j6 (atb m i id)])/\LS (Rs m i id) (aj (U0 m i id).fst)/\atb m i id=(U0 m i id).snd) ?_
 try delta H8 Rs atb U0
 simp only[SZ]
 exact aaw m i id (-1) id hm
section
variable (m:Mem) (i:Int) (id:Int)
def Dx:Mem×Int:=bc (dM (aj m)) i id id (-1)
def Ky:=aj (Dx m i id).fst
def Ie:Int:=(Dx m i id).snd
def VM:Mem×Int:=bc m i id id (-1)
end
theorem aad (i id:Int) (hm:dk m):KN 238 [vM m, .int .i64 i, .int .i64 id] (.av [vM (bc m i id id (-1)).1, .int .i64 (bc m i id id (-1)).2]):=by
 refine Kn (kL 15 λ_=>none) Tryz.func238 (KN 252 [AV.mc zm (aj m),AV.int j6 i,AV.int j6 id,AV.int j6 id,AV.int j6 (-1:Int)] (AV.av [AV.mc zm (Ky m i id),AV.int j6 (Ie m i id)])/\LS (Ky m i id) (aj (VM m i id).fst)/\Ie m i id=(VM m i id).snd) ?_
 try delta Dx Ky Ie VM
 simp only[SZ]
 exact aaw m i id id (-1) hm
section
variable (m:Mem) (id:Int) (x2:Nat)
def qp1:=x2<=m.a6.length/\∀ j:Nat,j<x2->aQ (m.a6.getD j []) id=false
def qp2:=aQ (zw (m.a6.getD (↑x2:Int).toNat []).length λi=>AV.int j6 ((m.a6.getD (↑x2:Int).toNat []).getD i 0)) id
def xS:=aQ (zw m.sig.length λi=>AV.int j6 (m.sig.getD i 0)) id
end
theorem aik (hm:dk m):KN 253 [vM m, .int .i64 id] (.bool (nt m id)):=by
 refine Kn (kL 22 (ahg m id)) Tryz.func253 (↑m.a6.length<=(9223372036854775807:Int)/\(∃ i,qp1 m id i/\(RR id/\LT (aE m.a6)/\RR (↑m.a6.length:Int)/\0=(↑i:Int))/\LT (aj m))/\∀ i:Nat,qp1 m id i->(qj m i=true->af (↑i) m.a6.length/\KN 53 [a8 (m.a6.getD (↑i:Int).toNat []),AV.int j6 id] (AV.bool (qp2 m id i))/\(qp2 m id i=true->true=nt m id)/\(qp2 m id i=false->aM j6 (q9 i)/\(∃ j,qp1 m id j/\qi m j<qi m i/\(RR id/\LT (aE m.a6)/\RR (↑m.a6.length:Int)/\q9 i=(↑j:Int))/\LT (aj m))))/\(qj m i=false->KN 244 [a8 m.sig,AV.int j6 id] (AV.bool (xS m id))/\xS m id=nt m id)) ?_
 try delta qp1 qp2 q9 qi qj xS
 simp only[SZ]
 simp only[oR]
 have s3:=hm.a6
 refine⟨by omega,⟨0,⟨by omega,λj hj=>by omega⟩,rfl⟩,λi hi=>⟨λhlt=>⟨hlt,Ny _ _ (by have :=hm.q i;omega),λh=>?_,λh=>⟨za (by omega) (by omega),i+1,⟨by omega,λj hj=>?_⟩,by omega,by omega⟩⟩,λhge=>⟨zp5 _ _ (by have :=hm.sig;omega), ?_⟩⟩⟩
 . unfold nt
   rw[(zb7 m.a6 (λq=>aQ q id) []).2 ⟨i,hlt,h⟩];rfl
 . by_cases e:j=i
   . grind
   . exact hi.2 j (by omega)
 . have e:m.a6.any (λq=>aQ q id)=false:=by
    rw[<- jy,zb7 m.a6 _ []]
    rintro⟨j,hj,h⟩
    rw[hi.2 j (by omega)]at h;cases h
   unfold nt;rw[e];rfl
section
variable (m:Mem) (id:Int)
def T1:=(dD m id).fst.vars.length=0/\(dD m id).fst.aa.length=0/\(dD m id).fst.a6.length=0/\(dD m id).fst.sig.length=0
def U2:=!xS m id
def Up:Nat->AV:=λi=>AV.int j6 ((dR dI (a8 m.sig)).getD i 0)
def Sa:=a8 (cU (zw (dR dI (a8 m.sig)).length (Up m)) id)
end
theorem aes (hm:dk m):KN 240 [vM m, .int .i64 id] (.av [vM (dD m id).1, .int .i64 (dD m id).2]):=by
 refine Kn (kL 25 λ_=>none) Tryz.func240 (KN 173 [AV.mc zm (aj m)] (AV.bool (ca (dM (aj m))))/\((!ca (dM (aj m)))=true->T1 m id/\1=(dD m id).snd)/\((!ca (dM (aj m)))=false->KN 244 [a8 m.sig,AV.int j6 id] (AV.bool (xS m id))/\(U2 m id=true->T1 m id/\30=(dD m id).snd)/\(U2 m id=false->(KF (185:Nat) [AV.mc zm (aj m)] (AV.mc zm (AV.agg [AV.own (0:Nat) (dR dI (a8 m.vars)).length,AV.own (1:Nat) (dR dI (a8 m.aa)).length,AV.own (2:Nat) (dR (dR dI) (aE m.a6)).length,AV.own (3:Nat) (dR dI (a8 m.sig)).length])) [ar.row (3:TypeId) leaf (dR dI (a8 m.vars)).length λi=>AV.int j6 ((dR dI (a8 m.vars)).getD i (0:Int)),ar.row (3:TypeId) leaf (dR dI (a8 m.aa)).length λi=>AV.int j6 ((dR dI (a8 m.aa)).getD i (0:Int)),ar.row (29:TypeId) leaf (dR (dR dI) (aE m.a6)).length λi=>a8 ((dR (dR dI) (aE m.a6)).getD i []),ar.row (3:TypeId) leaf (dR dI (a8 m.sig)).length (Up m)])/\(dR dI (a8 m.sig)).length<=(dR dI (a8 m.sig)).length/\KN 194 [a8 (dR dI (a8 m.sig)),AV.int j6 id] (Sa m id)/\(dR dI (a8 m.vars)).length<=(dR dI (a8 m.vars)).length/\(dR dI (a8 m.aa)).length<=(dR dI (a8 m.aa)).length/\(dR (dR dI) (aE m.a6)).length<=(dR (dR dI) (aE m.a6)).length/\(LS (a8 (dR dI (a8 m.vars))) (a8 (dD m id).fst.vars)/\LS (a8 (dR dI (a8 m.aa))) (a8 (dD m id).fst.aa)/\LS (aE (dR (dR dI) (aE m.a6))) (aE (dD m id).fst.a6)/\LS (Sa m id) (a8 (dD m id).fst.sig))/\0=(dD m id).snd))) ?_
 try delta T1 xS U2 Up Sa
 simp only[SZ]
 simp only[oR]
 refine⟨zfn m hm.wo,λh=>?_,λh=>⟨zp5 _ _ (by have :=hm.sig;omega),λh2=>?_,λh2=>⟨zfo m hm,Lw _ _ hm.sig, ?_⟩⟩⟩
 . have e:dD m id=(du,1):=by unfold dD;rw[x9 h]
   rw[e];exact⟨df,rfl⟩
 . have e:dD m id=(du,30):=by unfold dD;rw[x8 (by simp[h]),x9 h2]
   rw[e];exact⟨df,rfl⟩
 . have e:dD m id=({m with sig:=cU m.sig id},0):=by unfold dD;rw[x8 (by simp[h]),x8 (by simp[h2])]
   grind
section
variable (p:ai)
def WO:=(zc (dP (ah p))).fst==0
def Vh:=WO p=true
def Xv:=Vh p->Vh p
variable (m:Mem)
def qp3:=WO p&&ca (dM (aj m))
def vz:=qp3 p m=true
def lZ:=vz p m->vz p m
def qp4:=qp3 p m&&(↑m.vars.length:Int)==(↑p.vars.length:Int)
def wT:=qp4 p m=true
def ma:=wT p m->wT p m
def qhv:=qp4 p m&&(↑m.aa.length:Int)==(↑p.aP.length:Int)
def vW:=qhv p m=true
def lY:=vW p m->vW p m
end
theorem abm (hp:bI p) (hm:MWk m):KN 112 [vP p,vM m] (.bool (ec p m)):=by
 refine Kn (kL 38 λ_=>none) Tryz.func112 (KN 111 [AV.mc z7 (ah p)] (AV.bool (WO p))/\Xv p/\(Vh p->KN 173 [AV.mc zm (aj m)] (AV.bool (ca (dM (aj m)))))/\Xv p/\lZ p m/\lZ p m/\(vz p m->↑m.vars.length<=(9223372036854775807:Int))/\lZ p m/\lZ p m/\(vz p m->↑p.vars.length<=(9223372036854775807:Int))/\lZ p m/\lZ p m/\lZ p m/\ma p m/\ma p m/\(wT p m->↑m.aa.length<=(9223372036854775807:Int))/\ma p m/\ma p m/\(wT p m->↑p.aP.length<=(9223372036854775807:Int))/\ma p m/\ma p m/\ma p m/\lY p m/\lY p m/\(vW p m->↑m.a6.length<=(9223372036854775807:Int))/\lY p m/\lY p m/\(vW p m->↑p.conds.length<=(9223372036854775807:Int))/\lY p m/\lY p m/\lY p m/\(qhv p m&&(↑m.a6.length:Int)==(↑p.conds.length:Int))=ec p m) ?_
 try delta WO Vh Xv qp3 vz lZ qp4 wT ma qhv vW lY
 simp only[SZ]
 have h1:=hm.vars
 have h2:=hm.aa
 have h3:=hm.a6
 have h4:=hp.vars
 have h5:=hp.aP
 have h6:=hp.conds
 refine⟨zox p hp,λ_=>zfn m hm,λ_=>by omega,λ_=>by omega,λ_=>by omega,λ_=>by omega,λ_=>by omega,λ_=>by omega, ?_⟩
 grind[ec]
theorem zle (q:List Int):∀ (l:List Int),(q.foldl c9 l).length<=l.length+q.length:=by
 induction q with
 |nil=>intro l;simp
 |cons x q ih=>
  intro l
  have h1:=ih (c9 l x)
  have h2:=zj6 l x
  simp;omega
theorem aks (q:List Int) (i:Nat) (hi:i<q.length):q.take (i+1)=q.take i++[q.getD i 0]:=by simp_all
theorem zww (q l:List Int) (i:Nat) (hi:i<q.length):(q.take (i+1)).foldl c9 l=c9 ((q.take i).foldl c9 l) (q.getD i 0):=by
 rw[aks q i hi,List.foldl_append];rfl
theorem zd1 {j:Nat} (h:j<n):(q.take n).getD j 0=q.getD j 0:=by grind
theorem zq2 {j:Nat}:(q.drop n).getD j 0=q.getD (n+j) 0:=by grind
theorem YZ {k:Nat} (hk:k=q.length - n):zw k (λi=>AV.int .i64 (q.getD (n+i) 0))=q.drop n:=by
 subst hk
 show(List.range _).map _=_
 apply j5 (by simp)
 intro j h1 h2
 have hj:j<q.length - n:=by simpa using h1
 simp[dI,(show n+j<q.length by omega)]
theorem zec {k:Nat} (hk:k=q.length - n) (hq:q.length<=1000000):KN 225 [.seq .leaf k λi=>AV.int .i64 (q.getD (n+i) 0)] (a8 (q.drop n)):=by
 refine(zfm (q.drop n) (by rw[wn];omega)).weaken (args':=[_]) rfl ⟨⟨rfl,by rw[wn];exact hk,λj hj=>?_⟩,trivial⟩
 show AV.int .i64 (q.getD (n+j) 0)=AV.int .i64 ((q.drop n).getD j 0)
 rw[zq2]
theorem aa2 (l:List (List Int)) (a:Nat) (v:List Int) (j:Nat) (hj:j<l.length):(if j=a then a8 v else a8 (l.getD j []))=a8 ((l.set a v).getD j []):=by
 rw[x7 (l:=l.set _ _),gq]
 by_cases e:a=j
 . grind
 . rw[x8 (λh=>e h.symm),x8 e,x7]
section
variable (m:Mem) (c:Int)
def qp5:Int:=bC (dM (aj m)) c ↑m.a6.length
variable (n:Int)
def qp6:Nat:=(zi m c n).fst.a6.length
def Af:=qp5 m c !=0
variable (x1:Nat)
def B6:=a8 ((dR (dR dI) (aE m.a6)).getD x1 [])
def uT:=af c (dR (dR dI) (aE m.a6)).length
def sM:=c.toNat<(dR (dR dI) (aE m.a6)).length
def nk:List Int:=(dR (dR dI) (aE m.a6)).getD c.toNat []
def oK:Int:=↑(nk m c).length
def vN:Int:=if ↑((dR (dR dI) (aE m.a6)).getD c.toNat []).length<n then oK m c else n
def Ia:=0<=vN m c n
def RA:=vN m c n<=oK m c
def qhw:Nat:=(vN m c n - 0).toNat
def Qf:Int:=↑(qhw m c n)
def MM:=(dR dI (a8 m.sig)).length<=(dR dI (a8 m.sig)).length
def QQ:Int:=(nk m c).getD (Int.toNat 0+Int.toNat 0) 0
def Pv:=a8 (c9 (zw (dR dI (a8 m.sig)).length (Up m)) (QQ m c))
variable (x3:Nat)
def qp7:=1<=x3/\x3<=gZ m c n/\bC m c ↑m.a6.length=0
def qhx:List Int:=List.take (gZ m c n) (m.a6.getD c.toNat [])
def Mg:Nat:=(qhx m c n).length
def Fi:=(dR dI (a8 m.vars)).length=m.vars.length
def SN:=(dR dI (a8 m.aa)).length=m.aa.length
def Q2:=(dR (dR dI) (aE m.a6)).length=m.a6.length
variable (x2:Nat)
def qp8:List Int:=List.foldl c9 m.sig (List.take x2 (m.a6.getD c.toNat []))
def Zy:=a8 (qp8 m c x2)
def OM:=x1<(dR (dR dI) (aE m.a6)).length
def SC:=decide ((0:Int)<↑((if ↑((dR (dR dI) (aE m.a6)).getD c.toNat []).length<n then ↑((dR (dR dI) (aE m.a6)).getD c.toNat []).length else n) - (0:Int)).toNat)
def Fe:Nat:=(oK m c - vN m c n).toNat
def RH:Nat->AV:=λi=>AV.int j6 ((nk m c).getD ((vN m c n).toNat+i) 0)
def QD:=a8 (zw (Fe m c n) (RH m c n))
def Nh:=a8 ((zi m c n).fst.a6.getD x3 [])
def DT:=0=(zi m c n).snd.snd
def LD:Int:=(qhx m c n).getD (↑x3:Int).toNat 0
def PH:=a8 (c9 (zw (qp8 m c x3).length λi=>AV.int j6 ((qp8 m c x3).getD i 0)) (LD m c n x3))
def Nk:=decide ((↑x3:Int)<(↑(gZ m c n):Int))
def nR:Int:=↑(m.a6.getD c.toNat []).length
def Bc:Nat:=(nR m c - ↑(gZ m c n)).toNat
def LW:Nat->AV:=λi=>AV.int j6 ((m.a6.getD c.toNat []).getD ((↑(gZ m c n):Int).toNat+i) 0)
def Rb:=a8 (zw (Bc m c n) (LW m c n))
end
theorem zq3 (n:Int) (hm:dk m) (hn:0<=n):KN 254 [vM m, .int .i64 c, .int .i64 n] (.av [vM (zi m c n).1, .int .i64 (zi m c n).2.1, .int .i64 (zi m c n).2.2]):=by
 refine Kn {vM3 65 (λ_=>false) (λ_=>none)with sK:=afl m c n} Tryz.func254 (↑m.a6.length<=(9223372036854775807:Int)/\KN 189 [AV.mc zm (aj m),AV.int j6 c,AV.int j6 ↑m.a6.length] (AV.int j6 (qp5 m c))/\(Af m c=true->((zi m c n).fst.vars.length=0/\(zi m c n).fst.aa.length=0/\qp6 m c n=0/\(zi m c n).fst.sig.length=0)/\0=(zi m c n).snd.fst/\qp5 m c=(zi m c n).snd.snd)/\(Af m c=false->(KF (185:Nat) [AV.mc zm (aj m)] (AV.mc zm (AV.agg [AV.own (0:Nat) (dR dI (a8 m.vars)).length,AV.own (1:Nat) (dR dI (a8 m.aa)).length,AV.own (2:Nat) (dR (dR dI) (aE m.a6)).length,AV.own (3:Nat) (dR dI (a8 m.sig)).length])) [ar.row (3:TypeId) leaf (dR dI (a8 m.vars)).length λi=>v7 m i,ar.row (3:TypeId) leaf (dR dI (a8 m.aa)).length λi=>oq m i,ar.row (29:TypeId) leaf (dR (dR dI) (aE m.a6)).length λi=>B6 m i,ar.row (3:TypeId) leaf (dR dI (a8 m.sig)).length (Up m)])/\uT m c/\sM m c/\oK m c<=9223372036854775807/\uT m c/\sM m c/\((0:Int)<=(0:Int)/\Ia m c n/\RA m c n)/\Qf m c n<=9223372036854775807/\((SC m c n=true->af 0 (qhw m c n)/\MM m/\KN 193 [a8 (dR dI (a8 m.sig)),AV.int j6 (QQ m c)] (Pv m c)/\aM j6 vh/\(∃ (j:Nat),qp7 m c n j/\(RR c/\vN m c n=(↑(gZ m c n):Int)/\(qhw m c n=Mg m c n/\∀ (i:Nat),i<qhw m c n->AV.int j6 (List.getD (nk m c) (Int.toNat (0:Int)+i) (0:Int))=AV.int j6 (List.getD (qhx m c n) i (0:Int)))/\Qf m c n=(↑(gZ m c n):Int)/\vh=(↑j:Int))/\((0:Nat)=(0:Nat)/\(0:Nat)=(0:Nat)/\(0:Nat)=(0:Nat)/\(0:Nat)=(0:Nat))/\(Fi m/\SN m/\Q2 m/\LS (Pv m c) (Zy m c j))/\(Fi m/\∀ (i:Nat),i<List.length (dR dI (a8 (Mem.vars m)))->v7 m i=AV.int j6 (List.getD (Mem.vars m) i (0:Int)))/\(SN m/\∀ (i:Nat),i<List.length (dR dI (a8 (Mem.aa m)))->oq m i=AV.int j6 (List.getD (Mem.aa m) i (0:Int)))/\Q2 m/\∀ (i:Nat),OM m i->B6 m i=a8 (List.getD (Mem.a6 m) i [])))/\(SC m c n=false->uT m c/\sM m c/\(Ia m c n/\RA m c n/\oK m c<=oK m c)/\KN 225 [AV.seq leaf (Fe m c n) (RH m c n)] (QD m c n)/\uT m c/\sM m c/\(dR dI (a8 m.vars)).length<=(dR dI (a8 m.vars)).length/\(dR dI (a8 m.aa)).length<=(dR dI (a8 m.aa)).length/\(dR (dR dI) (aE m.a6)).length<=(dR (dR dI) (aE m.a6)).length/\MM m/\(LS (a8 (dR dI (a8 m.vars))) (a8 (zi m c n).fst.vars)/\LS (a8 (dR dI (a8 m.aa))) (a8 (zi m c n).fst.aa)/\((dR (dR dI) (aE m.a6)).length=qp6 m c n/\∀ i:Nat,OM m i->(if i=c.toNat then aq (QD m c n)else B6 m i)=Nh m c n i)/\LS (a8 (dR dI (a8 m.sig))) (a8 (zi m c n).fst.sig))/\vN m c n=(zi m c n).snd.fst/\DT m c n))/\∀ i:Nat,qp7 m c n i->(Nk m c n i=true->af (↑i) (Mg m c n)/\KN 193 [Zy m c i,AV.int j6 (LD m c n i)] (PH m c n i)/\aM j6 (q9 i)/\(∃ j,qp7 m c n j/\gZ m c n - j<gZ m c n - i/\(RR c/\RR (↑(gZ m c n):Int)/\LT (a8 (qhx m c n))/\RR (↑(gZ m c n):Int)/\q9 i=(↑j:Int))/\(LT (a8 [])/\LT (a8 [])/\LT (aE [])/\LT (a8 []))/\(RR m.vars.length/\RR m.aa.length/\RR m.a6.length/\LS (PH m c n i) (Zy m c j))/\(RR m.vars.length/\∀ (i:Nat),i<m.vars.length->RR (AV.int j6 (m.vars.getD i 0)))/\(RR m.aa.length/\∀ (i:Nat),i<m.aa.length->RR (AV.int j6 (m.aa.getD i 0)))/\RR m.a6.length/\∀ (i:Nat),i<m.a6.length->RR (a8 (m.a6.getD i []))))/\(Nk m c n i=false->af c m.a6.length/\c.toNat<m.a6.length/\((0:Int)<=↑(gZ m c n)/\↑(gZ m c n)<=nR m c/\nR m c<=nR m c)/\KN 225 [AV.seq leaf (Bc m c n) (LW m c n)] (Rb m c n)/\af c m.a6.length/\c.toNat<m.a6.length/\m.vars.length<=m.vars.length/\m.aa.length<=m.aa.length/\m.a6.length<=m.a6.length/\(LS (a8 m.vars) (a8 (zi m c n).fst.vars)/\LS (a8 m.aa) (a8 (zi m c n).fst.aa)/\(m.a6.length=qp6 m c n/\∀ (i:Nat),i<m.a6.length->(if i=c.toNat then aq (Rb m c n)else a8 (m.a6.getD i []))=Nh m c n i)/\LS (Zy m c i) (a8 (zi m c n).fst.sig))/\↑(gZ m c n)=(zi m c n).snd.fst/\DT m c n))) ?_
 try delta qp5 qp6 Af v7 oq B6 Up uT sM nk oK vN Ia RA qhw Qf MM QQ Pv vh qp7 qhx Mg Fi SN Q2 qp8 Zy OM SC Fe RH QD Nh DT LD PH q9 Nk nR Bc LW Rb
 simp only[SZ]
 have s3:=hm.a6
 have hq:=hm.q c.toNat
 have sA:=hm.all
 have hA:(allI m).length=m.sig.length+m.a6.flatten.length:=by unfold allI;rw[xl]
 have hq2:=TJ m.a6 c.toNat
 have eN:(if((m.a6.getD c.toNat []).length:Int)<n then((m.a6.getD c.toNat []).length:Int)else n)=((gZ m c n:Nat):Int):=by
  unfold gZ;rw[Int.min_def]
  split<;>split<;>omega
 have hN:gZ m c n<=(m.a6.getD c.toNat []).length:=by omega
 have eW:min n ((m.a6.getD c.toNat []).length:Int)=((gZ m c n:Nat):Int):=by
  unfold gZ;rw[Int.min_def]
  split<;>omega
 have eK:((((m.a6.getD c.toNat []).length:Int)) - ((gZ m c n:Nat):Int)).toNat=(m.a6.getD c.toNat []).length - gZ m c n:=by omega
 have yes:bC m c m.a6.length=0 ->zi m c n=(ud m c.toNat (gZ m c n),((gZ m c n:Nat):Int),0):=λh=>by
  unfold zi;rw[x8 (by simp[h]),eW,gp]
 simp only[eN,oR,gp,eK,w6,wg]
 have fin:bC m c m.a6.length=0 ->∀ i,i=gZ m c n ->(0<=c/\c<(m.a6.length:Int))/\c.toNat<m.a6.length:=λh i _=>by have :=kM h;omega
 refine⟨by omega,TC m _ _ hm,λh=>?_,λh=>?_⟩
 . have e:zi m c n=(du,0,bC m c m.a6.length):=by unfold zi;rw[x9 h]
   rw[e];exact⟨df,rfl,rfl⟩
 have hc:=(kM h).2
 rw[yes h]
 refine⟨zfo m hm,hc,by omega,by omega,hc,by omega,⟨by omega,by omega,by omega⟩,by omega,⟨λh0=>⟨⟨by omega,by omega⟩,qN _ _ (by omega),za (by omega) (by omega),1,⟨by omega,by omega,h⟩,⟨⟨by rw[xr];omega,λj hj=>by rw[zd1 hj]⟩,rfl⟩, ?_⟩,λh0=>?_⟩,λi hi=>⟨λhlt=>?_,λhge=>?_⟩⟩
 . have e:=zww (m.a6.getD c.toNat []) m.sig 0 (by omega)
   rw[e];exact⟨rfl,λ_ _=>rfl⟩
 . have e0:gZ m c n=0:=by omega
   refine⟨hc,by omega,⟨by omega,by omega⟩,by rw[YZ rfl];exact zec rfl hq,hc,by omega,⟨⟨rfl,λ_ _=>rfl⟩,⟨rfl,λ_ _=>rfl⟩,⟨by show _=(List.set _ _ _).length;simp,λj hj=>by rw[YZ rfl];exact aa2 _ _ _ j hj⟩, ?_⟩,rfl,rfl⟩
   unfold ud;rw[e0];exact⟨rfl,λ_ _=>rfl⟩
 . have e:=zww (m.a6.getD c.toNat []) m.sig i (by omega)
   have hf:=zle ((m.a6.getD c.toNat []).take i) m.sig
   rw[xr]at hf
   refine⟨by rw[xr];omega,qN _ _ (by omega),za (by omega) (by omega),i+1,⟨by omega,hlt,h⟩,by omega,by omega, ?_⟩
   rw[e,zd1 hlt];exact⟨rfl,λ_ _=>rfl⟩
 . have e0:gZ m c n=i:=by omega
   refine⟨hc,by omega,hN,by rw[YZ rfl];exact zec rfl hq,hc,by omega,⟨⟨rfl,λ_ _=>rfl⟩,⟨rfl,λ_ _=>rfl⟩,⟨by show _=(List.set _ _ _).length;simp,λj hj=>by rw[YZ rfl];exact aa2 _ _ _ j hj⟩, ?_⟩,rfl,rfl⟩
   unfold ud;rw[e0];exact⟨rfl,λ_ _=>rfl⟩
section
variable (m:Mem) (c:Int)
def zH:=aj (zi (dM (aj m)) c 1).fst
def SG:Int×Int:=(zi (dM (aj m)) c 1).snd
def Gv:Int:=(SG m c).fst
def ET:Int:=(SG m c).snd
def VB:Int×Int:=(zi m c 1).snd
end
theorem ags (hm:dk m):KN 241 [vM m, .int .i64 c] (.av [vM (zi m c 1).1, .int .i64 (zi m c 1).2.1, .int .i64 (zi m c 1).2.2]):=by
 refine Kn (kL 13 λ_=>none) Tryz.func241 (KN 254 [AV.mc zm (aj m),AV.int j6 c,AV.int j6 (1:Int)] (AV.av [AV.mc zm (zH m c),AV.int j6 (Gv m c),AV.int j6 (ET m c)])/\LS (zH m c) (aj (zi m c 1).fst)/\Gv m c=(VB m c).fst/\ET m c=(VB m c).snd) ?_
 try delta zH SG Gv ET VB
 simp only[SZ]
 exact zq3 m c 1 hm (by decide)
theorem zwx (l:List (List Int)) (i:Nat) (hi:i<l.length):jn (l.take (i+1))=max (jn (l.take i)) ((l.getD i []).length:Int):=by
 have e:l.take (i+1)=l.take i++[l.getD i []]:=by
  simp_all
 unfold jn
 rw[e,List.foldl_append];rfl
theorem zlf (l:List (List Int)):∀ i,i<=l.length ->0<=jn (l.take i)
 |0,_=>yr _
 |i+1,h=>by
  rw[zwx l i (by omega)];omega
section
variable (m:Mem) (x1:Nat)
def RT:Int:=(↑(m.a6.getD (↑x1:Int).toNat []).length:Int)
variable (c:Int) (x2:Nat)
def Fy:=aj (zi (dM (aj m)) c (jn (List.take x2 m.a6))).fst
def C4:Int×Int:=(zi (dM (aj m)) c (jn (List.take x2 m.a6))).snd
def D3:Int:=(C4 m c x2).fst
def OJ:Int:=(C4 m c x2).snd
end
theorem afo (hm:dk m):KN 242 [vM m, .int .i64 c] (.av [vM (zi m c (jn m.a6)).1, .int .i64 (zi m c (jn m.a6)).2.1, .int .i64 (zi m c (jn m.a6)).2.2]):=by
 refine Kn (kL 29 (acz m c)) Tryz.func242 (↑m.a6.length<=(9223372036854775807:Int)/\(∃ (i:Nat),i<=List.length (Mem.a6 m)/\(RR c/\(0:Int)=jn (List.take i (Mem.a6 m))/\LT (aE (Mem.a6 m))/\RR (↑(List.length (Mem.a6 m)):Int)/\(0:Int)=(↑i:Int))/\LT (aj m)/\(0:Nat)=(0:Nat)/\(0:Nat)=(0:Nat)/\(0:Nat)=(0:Nat)/\(0:Nat)=(0:Nat))/\∀ i:Nat,i<=m.a6.length->(qj m i=true->af (↑i) m.a6.length/\RT m i<=9223372036854775807/\aM j6 (q9 i)/\(∃ j,j<=m.a6.length/\qi m j<qi m i/\(RR c/\(if jn (List.take i m.a6)<(↑(m.a6.getD (↑i:Int).toNat []).length:Int)then RT m i else jn (List.take i m.a6))=jn (List.take j m.a6)/\LT (aE m.a6)/\RR (↑m.a6.length:Int)/\q9 i=(↑j:Int))/\LT (aj m)/\LT (a8 [])/\LT (a8 [])/\LT (aE [])/\LT (a8 [])))/\(qj m i=false->KN 254 [AV.mc zm (aj m),AV.int j6 c,AV.int j6 (jn (List.take i m.a6))] (AV.av [AV.mc zm (Fy m c i),AV.int j6 (D3 m c i),AV.int j6 (OJ m c i)])/\LS (Fy m c i) (aj (zi m c (jn m.a6)).fst)/\D3 m c i=(zi m c (jn m.a6)).snd.fst/\OJ m c i=(zi m c (jn m.a6)).snd.snd)) ?_
 try delta RT q9 qi qj Fy C4 D3 OJ
 simp only[SZ]
 have s3:=hm.a6
 refine⟨by omega,⟨0,by omega,rfl,rfl⟩,λi hi=>⟨λhlt=>⟨hlt,by have :=hm.q i;omega,za (by omega) (by omega),i+1,hlt,by omega, ?_,by omega⟩,λhge=>?_⟩⟩
 . rw[zwx m.a6 i hlt]
   omega
 . have e:m.a6.take i=m.a6:=xu (by omega)
   have h0:=zlf m.a6 i hi
   rw[e]at h0 ⊢
   exact⟨zq3 m c _ hm h0,⟨⟨rfl,λ_ _=>rfl⟩,⟨rfl,λ_ _=>rfl⟩,⟨rfl,λ_ _=>rfl⟩,rfl,λ_ _=>rfl⟩,rfl,rfl⟩
theorem aa3 (i:Nat) (hi:i<p.vars.length):gQ p (i+1)=gQ p i++[(p.vars.getD i dY).init]:=by
 have e:p.vars.take (i+1)=p.vars.take i++[p.vars.getD i dY]:=by
  simp_all
 unfold gQ;rw[e,List.map_append];rfl
theorem zq4 (i:Nat) (hi:i<=p.vars.length):(gQ p i).length=i:=by grind[gQ]
section
variable (p:ai)
def SO:=↑p.conds.length<=(9223372036854775807:Int)
def qhz:=(zc p).fst=0
variable (x1:Nat)
def xM:=x1<=p.vars.length/\qhz p
def EK:=(↑p.conds.length:Int).toNat=p.conds.length
def sV:Nat:=(gQ p x1).length+1
def sy:=LT (a8 [])/\LT (a8 [])/\LT (aE [])/\LT (a8 [])
variable (x2:Nat)
def Wv:=sV p x1=(gQ p x2).length
def wN:=AV.int j6 ((gQ p x1).getD x2 0)
def Ea:=∀ (i:Nat),i<p.conds.length->RR AV.ax
def qp9:=RR p.conds.length/\Ea p
def xN:=x1<=p.aP.length/\qhz p
def yA:=AV.int j6 ((List.map (λx=>x.init) p.vars).getD x1 0)
variable (x0:Nat)
def pO:Nat:=(List.replicate x0 (-1)).length
def UA:Nat:=p.aP.length - x1
end
section
variable (x0:Nat) (x1:Nat)
def xE:=AV.int j6 ((List.replicate x0 (-1)).getD x1 0)
end
section
variable (p:ai) (x1:Nat)
def Tc:=decide ((↑x1:Int)<(↑p.aP.length:Int))
end
theorem ai7 (hp:bI p):KN 62 [vP p] (.av [zpz (bf p).1 (bf p).1.a6.length, .int .i64 (bf p).2]):=by
 refine Kn (kL 52 (afy p)) Tryz.func62 (KN 51 [AV.mc z7 (ah p)] (AV.av [AV.int j6 (zc (dP (ah p))).fst,AV.int j6 (zc (dP (ah p))).snd.fst,AV.int j6 (zc (dP (ah p))).snd.snd])/\(lf p=true->((bf p).fst.vars.length=0/\(bf p).fst.aa.length=0/\(bf p).fst.a6.length=0)/\(zc (dP (ah p))).fst=(bf p).snd)/\(lf p=false->SO p/\((0:Int)<=↑p.conds.length/\(↑p.conds.length:Int)<=(↑p.conds.length:Int)/\↑(24:Nat)*↑p.conds.length<=(140737488355328:Int)/\SO p)/\↑p.vars.length<=(9223372036854775807:Int)/\(∃ (i:Nat),xM p i/\(LT (eP (ai.vars p))/\RR (↑(List.length (ai.vars p)):Int)/\(0:Int)=(↑i:Int))/\LT (ah p)/\((0:Nat)=(0:Nat)/\(0:Nat)=(0:Nat)/\(0:Nat)=(0:Nat)/\(0:Nat)=(0:Nat))/\(List.length (gQ p i)=(0:Nat)/\EK p)/\List.length (gQ p i)=(0:Nat)/\EK p/\∀ (i:Nat),i<Int.toNat (↑(List.length (ai.conds p)):Int)->RR AV.ax)/\∀ i:Nat,xM p i->(qz p i=true->af (↑i) p.vars.length/\qr/\(RR (gQ p i).length/\↑(sV p i)*↑(8:Nat)<=(140737488355328:Int)/\sV p i<=9223372036854775807)/\qf/\qa i/\(∃ j,xM p j/\p.vars.length - j<p.vars.length - i/\(LT (eP p.vars)/\RR (↑p.vars.length:Int)/\qb i j)/\LT (ah p)/\sy/\(Wv p i j/\RR p.conds.length)/\(Wv p i j/\∀ (i_1:Nat),i_1<sV p i->(if i_1<(gQ p i).length then wN p i i_1 else(mI.set 0 (aq (AV.int j6 (p.vars.getD (↑i:Int).toNat dY).init))).getD (i_1 - (gQ p i).length) AV.any)=wN p j i_1)/\qp9 p))/\(qz p i=false->↑p.aP.length<=(9223372036854775807:Int)/\(∃ i_1,xN p i_1/\(RR (↑p.aP.length:Int)/\0=(↑i_1:Int))/\sy/\((gQ p i).length=p.vars.length/\i_1=0/\RR p.conds.length)/\((gQ p i).length=(List.map (λx=>x.init) p.vars).length/\∀ (i_2:Nat),i_2<(gQ p i).length->wN p i i_2=yA p i_2)/\pO i_1=0/\qp9 p)/\∀ (i:Nat),xN p i->(Tc p i=true->qr/\(i=pO i/\(↑(qd i):Int)*(↑(8:Nat):Int)<=(140737488355328:Int)/\qd i<=(9223372036854775807:Nat))/\qf/\qa i/\∃ j,xN p j/\UA p j<UA p i/\(RR (↑p.aP.length:Int)/\qb i j)/\sy/\(RR p.vars.length/\qd i=j/\RR p.conds.length)/\(RR (List.map (λx=>x.init) p.vars).length/\∀ (i:Nat),i<(List.map (λx=>x.init) p.vars).length->RR (yA p i))/\(qd i=pO j/\∀ (i_1:Nat),i_1<qd i->(if i_1<i then xE i i_1 else(mI.set (0:Nat) (aq (AV.int j6 (-1:Int)))).getD (i_1 - i) AV.any)=xE j i_1)/\qp9 p)/\(Tc p i=false->p.vars.length<=(List.map (λx=>x.init) p.vars).length/\i<=pO i/\p.conds.length<=p.conds.length/\((p.vars.length=(bf p).fst.vars.length/\∀ (i:Nat),i<p.vars.length->yA p i=AV.int j6 ((bf p).fst.vars.getD i (0:Int)))/\(i=(bf p).fst.aa.length/\∀ (i_1:Nat),i_1<i->xE i i_1=AV.int j6 ((bf p).fst.aa.getD i_1 (0:Int)))/\p.conds.length=(bf p).fst.a6.length/\Ea p)/\(0:Int)=(bf p).snd)))) ?_
 try delta lf SO qhz xM EK qr sV qf q9 qa qb sy Wv wN mI Ea qp9 qz xN yA pO qd UA xE Tc
 simp only[SZ]
 have h4:=hp.vars
 have h5:=hp.aP
 have h6:=hp.conds
 refine⟨zcr p hp,λh=>?_,λh=>⟨by omega,⟨by omega,by omega⟩,by omega,⟨0,⟨by omega,h⟩,rfl,rfl,rfl⟩,λi hi=>?_⟩⟩
 . have e:bf p=(du,(zc p).1):=by unfold bf;rw[x9 h]
   rw[e];exact⟨⟨rfl,rfl,rfl⟩,rfl⟩
 have e:bf p=(⟨p.vars.map (·.init),List.replicate p.aP.length (-1),List.replicate p.conds.length [],[]⟩,0):=by unfold bf;rw[x8 (by simp[h])]
 rw[e]
 have hil:=zq4 p i hi.1
 refine⟨λhlt=>⟨hlt,by decide,⟨by omega,by omega⟩,za (by omega) (by omega),i+1,⟨hlt,h⟩,by omega,by omega, ?_⟩,λhge=>⟨by omega,⟨0,⟨by omega,h⟩,rfl,⟨by omega,rfl⟩, ?_,rfl⟩,λk hk=>⟨λhlt=>⟨by decide,⟨by simp,by omega,by omega⟩,za (by omega) (by omega),k+1,⟨hlt,h⟩,by omega,by omega,rfl, ?_⟩,λhge=>⟨by simp,by simp,⟨⟨by simp,λ_ _=>rfl⟩,⟨by simp;omega,λj hj=>?_⟩,by simp⟩,rfl⟩⟩⟩⟩
 . rw[aa3 p i hlt]
   exact⟨by simp,by simp,λj hj=>kI _ _ j hj⟩
 . have e2:gQ p i=p.vars.map (·.init):=by unfold gQ;rw[xu (by omega)]
   grind
 . refine⟨by simp,λj hj=>?_⟩
   have :=kI (List.replicate k (-1)) (-1) j (by simpa using hj)
   rw[List.length_replicate]at this
   rw[this,<- List.replicate_succ']
 . have e2:k=p.aP.length:=by omega
   rw[e2]
theorem dx.jT {r':List AV} {r:List AV} {w:World} {F:Nat ->Prop} {v:Value} (hl:r.length=r'.length)
 (h:∀ j,j<r.length ->∀ v,au w F v (r.getD j .any) ->au w F v (r'.getD j .any)) (hr:dx w F v (.av r)):dx w F v (.av r'):=by
 obtain⟨vs,e,h1,h2⟩:=hr
 exact⟨vs,e,h1.trans hl,λj hj=>h j (by omega) _ (h2 j (by omega))⟩
theorem _root_.Go.AV.eS.imp {P:Program} {G:List (Nat×AV)} {f:FuncId} {args:List AV} {r r':AV} (h:eS P G f args r)
 (hr:∀ (w:World) (F:Nat ->Prop) (v:Value),dx w F v r ->dx w F v r'):eS P G f args r':=by
 rcases h with⟨h1,h2⟩ |h
 . refine .inl ⟨h1,λw F vs a1 a2 a3 a4=>(h2 w F vs a1 a2 a3 a4).mono ?_⟩
   rintro en w' ⟨v,F',e,b1,b2,b3,b4,b5⟩
   exact⟨v,F',e,b1,b2,b3,b4,hr _ _ _ b5⟩
 . refine .inr λw F vs a3 a4=>?_
   obtain⟨v,h1,h2⟩:=h w F vs a3 a4
   grind
theorem _root_.Go.AV.c6.stat {P:Program} {G:List (Nat×AV)} {f:FuncId} {args:List AV} {ty:TypeId} {sh:Shape} {n:Nat} {g:Nat ->AV} (h:c6 P G f args (.own 0 n) [.row ty sh n g]):eS P G f args (.seq sh n g):=by
 refine .inl ⟨h.1,λw F vs a1 a2 a3 a4=>(h.2 w F vs a1 a2 a3 a4).mono ?_⟩
 rintro en w' ⟨v,F',φ',e,b1,b2,b3,b4,b5,b6,_⟩
 obtain⟨c1,c2,c3⟩:=b6 0 _ rfl
 rcases c3 with⟨c3,rfl⟩ | ⟨k,cs,d1,d2,d3,d4,d5,d6,d7,d8⟩
 . cases b5 with
   |own b g n hb hn=>rw[c3]at hb;cases hb
   |gX=>exact⟨_,F',e,b1,b2,b3,b4, .cH _ _ _ _⟩
   |stat h=>cases h
 . generalize hm:n=m at b5
   cases b5 with
   |own b k' m hb hn=>
    rw[d1]at hb;cases hb
    subst hm
    refine⟨_,λj=>F' j∨j=k,e,b1,λj hj=> .inl (b2 j hj),λj hj=>?_,λj hj=>?_, .seq k 0 n _ sh _ (λi j=>cs.getD (i*sh.size+j) undef) (.inr rfl) hn (λi hi j hj=>?_) λi hi j hj=>?_⟩
    . rcases hj with hj |rfl
      . exact b3 j hj
      . exact .inr d2
    . rcases hj with hj |rfl
      . exact b4 j hj
      . exact(xj.1 d4).1
    . have hm:=xn sh.size (show i+1<=(φ' 0).cap by omega)
      rw[y7]at hm
      rw[xw];exact nq d4 (by omega)
    . exact(d8 i hi j hj).keep (λ_ _=>rfl) λ_ h=> .inl h
   |gX b hb=>rw[d1]at hb;cases hb
   |stat h=>cases h
theorem zwy (h:au w F v .ax) (l:List Int) (hl:l=[]):au w F v (a8 l):=by
 subst hl;cases h;exact .cH _ _ _ _
theorem zq5 (h:au w F v (.seq .leaf n λ_=> .ax)) (l:List (List Int)) (hl:l.length=n) (he:∀ i,i<n ->l.getD i []=[]):au w F v (aE l):=by
 show au w F v (.seq .leaf l.length λi=>a8 (l.getD i []))
 rw[hl]
 cases h with
 |cH=>exact .cH _ _ _ _
 |seq g o n cap sh f cs h1 h2 h3 h4=>
  exact .seq g o _ cap .leaf _ cs h1 h2 h3 λi hi j hj=>by
   have :=h4 i hi j hj
   exact zwy this _ (he i hi)
theorem zlg (h:au w F v (zpz (bf p).1 (bf p).1.a6.length)):au w F v (vM (bf p).1):=by
 have e1:(bf p).1.sig=[]:=by unfold bf;split<;>rfl
 have e2:∀ i,i<(bf p).1.a6.length ->(bf p).1.a6.getD i []=[]:=by
  unfold bf;split
  . intro i hi;exact absurd hi (jo _)
  . grind
 cases h with
 |mc cs sh x hs hr=>
  refine .mc cs _ _ hs λj hj=>?_
  have h:=hr j hj
  match j,hj with
  |0,_=>exact h
  |1,_=>exact h
  |2,_=>exact zq5 h _ rfl e2
  |3,_=>exact zwy h _ e1
theorem Ke (hp:bI p):KN 62 [vP p] (.av [vM (bf p).1, .int .i64 (bf p).2]):=by
 refine(ai7 p hp).imp λw F v h=>dx.jT (r:=[_,_]) (r':=[_,_]) (by rfl) (λj hj u hu=>?_) h
 match j,hj with
 |0,_=>exact zlg p hu
 |1,_=>exact hu
def aX:Int:=if a<0 then -(a+1)else a
def aol (t:Int):Int:=if t<0 then 0 else -t - 1
def aas:FuncId ->List AV ->Option AV
 |59,[.int _ a]=>some (.bool (decide (a<0)))
 |121,[.int _ a] |147,[.int _ a]=>some (.int .i64 (aX a))
 |118,[.int _ t] |81,[.int _ t]=>some (.int .i64 (aol t))
 |f,l=>spM f l
noncomputable def vE (n:Nat) (inv:Nat ->Option Inv):bm:={C:=di n λ_ _=>false,CC:=eS Tryz.prog GG,b9:=λ_ _=>aas,inv:=inv}
def jY (n:Int):Prop:= -9223372036854775808<=n/\n<=9223372036854775807
theorem aib:KN 59 [.int .i64 a] (.bool (decide (a<0))):=by
 refine Kn (vE 5 λ_=>none) Tryz.func59 (RR (decide (a<0))) ?_
 try delta RR;try rfl
section
variable (a:Int)
def YS:Int:=a+1
def UK:Int:=0 - YS a
def mi:=decide (a<0)
end
theorem ad5 (ha:jY a):KN 121 [.int .i64 a] (.int .i64 (aX a)):=by
 refine Kn (vE 9 λ_=>none) Tryz.func121 ((mi a=true->aM j6 (YS a)/\aM j6 (UK a)/\UK a=aX a)/\(mi a=false->a=aX a)) ?_
 try delta YS UK mi
 simp only[SZ]
 obtain⟨h1,h2⟩:=ha
 unfold aX
 refine⟨λh=>⟨za (by omega) (by omega),za (by omega) (by omega), ?_⟩,λh=>by rw[x8 h]⟩
 omega
section
variable (a:Int)
def FV:=decide (0<=a)
end
theorem ake (ha:jY a):KN 147 [.int .i64 a] (.int .i64 (aX a)):=by
 refine Kn (vE 9 λ_=>none) Tryz.func147 ((FV a=true->a=aX a)/\(FV a=false->aM j6 (YS a)/\aM j6 (UK a)/\UK a=aX a)) ?_
 try delta FV YS UK
 simp only[SZ]
 obtain⟨h1,h2⟩:=ha
 unfold aX
 refine⟨λh=>by rw[x8 (by omega)],λh=>⟨za (by omega) (by omega),za (by omega) (by omega), ?_⟩⟩
 omega
section
variable (a:Int)
def qi1:Int:=0 - a
def UB:Int:=qi1 a - 1
end
theorem aaa (ha:jY a):KN 118 [.int .i64 a] (.int .i64 (aol a)):=by
 refine Kn (vE 8 λ_=>none) Tryz.func118 ((mi a=true->0=aol a)/\(mi a=false->aM j6 (qi1 a)/\aM j6 (UB a)/\UB a=aol a)) ?_
 try delta mi qi1 UB
 simp only[SZ]
 obtain⟨h1,h2⟩:=ha
 unfold aol
 refine⟨λh=>by rw[x9 h],λh=>⟨za (by omega) (by omega),za (by omega) (by omega), ?_⟩⟩
 omega
theorem aku (ha:jY a):KN 81 [.int .i64 a] (.int .i64 (aol a)):=by
 refine Kn (vE 8 λ_=>none) Tryz.func81 ((mi a=true->0=aol a)/\(mi a=false->aM j6 (qi1 a)/\aM j6 (UB a)/\UB a=aol a)) ?_
 try delta mi qi1 UB
 simp only[SZ]
 obtain⟨h1,h2⟩:=ha
 unfold aol
 refine⟨λh=>by rw[x9 h],λh=>⟨za (by omega) (by omega),za (by omega) (by omega), ?_⟩⟩
 omega
theorem fQ {s:ag} (h:vk s.ab):eu (ze s)=s:=by
 have :eu (ze s)=⟨dR dT (aF s.ab),dM (aj s.mem),dR dB (aY s.ae)⟩:=rfl
 rw[this,nA h,zo0,Il]
theorem XL (d e f g h i:Int):jX (.agg [.int .i64 a, .int .i64 b, .int .i64 c, .int .i64 d, .int .i64 e, .int .i64 f, .int .i64 g, .int .i64 h, .int .i64 i])=⟨a,b,c,d,e,f,g,h,i⟩:=rfl
def bp (j:Int):Int:=t.aw.getD j.toNat 0
def kg (p:ai) (b:Int) (l:List aB) (j:Nat):Prop:=fq p b (l.getD j ao)=true/\(0<j ->(l.getD (j - 1) ao).id<(l.getD j ao).id)
instance (p:ai) (b:Int) (l:List aB) (j:Nat):Decidable (kg p b l j):=by unfold kg;infer_instance
def rZ:Bool:=(List.range l.length).all λj=>decide (kg p b l j)
def bT:Bool:=ec p s.mem&&(s.ae.length==0&&rZ p b s.ab)
def eD (n:Nat):List aB:=(List.range n).map λ(j:Nat)=>(ba p b (j:Int) (p.ab.getD j dQ).fn (p.ab.getD j dQ).arg).1
def zj:ag×Int:=if aV p b≠0 then(aN,aV p b)else(⟨eD p b p.ab.length,(bf p).1,[]⟩,0)
def bg:aB×aK×Bool:=
 if aS s.ab id<0 then(ao,dL,false)else(s.ab.getD (aS s.ab id).toNat ao,zg p (s.ab.getD (aS s.ab id).toNat ao),cm p (s.ab.getD (aS s.ab id).toNat ao))
def im:Ev:=
 if t.phase=0 then {e with kind:=12,mutex:=i.n}else if t.phase=1 then {e with kind:=13}else {e with kind:=9,obj:=i.n}
def bz:Ev:=
 let v:=(fo s.mem i.obj).1
 let e1:Ev:={e with ord:=i.ord,read:=v,kind:=5}
 if i.op=8 then {e1 with kind:=1}else if i.op=14 then {e1 with kind:=8}else if i.op=9 then {e1 with kind:=2,read:=0,wrote:=bp t i.b}
 else if i.op=10 then {e1 with wrote:=bp t i.b}else if i.op=11 then {e1 with wrote:=(app 1 v (bp t i.b)).1}
 else if v=bp t i.b then {e1 with wrote:=bp t i.c}else {e1 with kind:=6}
def iP:Ev:=⟨t.id,t.steps,0,i.obj,-1,-1,0,0,0⟩
def nK (o:Int):Int:=(m.a6.getD o.toNat []).length
def ek (b:Bool):Int:=if b then 1 else 0
def aR:Ev:=
 if i.op=13 then {iP t i with kind:=7}else if i.op=15 then {iP t i with kind:=9}else if i.op=16 then {iP t i with kind:=10}
 else if i.op=17 then {iP t i with kind:=11,read:=ek (iJ s.mem i.obj)}else if i.op=18 then im t i (iP t i)
 else if i.op=19 then {iP t i with kind:=14,read:=min 1 (nK s.mem i.obj)}else if i.op=20 then {iP t i with kind:=15,read:=nK s.mem i.obj}
 else if i.op=21 then {iP t i with kind:=16,obj:=eU t}else if i.op=22 then {iP t i with kind:=17,obj:=bp t i.b}else bz s t i (iP t i)
def xT:Bool:=decide (0<=aS l id)&&((l.getD (aS l id).toNat ao).status==2 || (l.getD (aS l id).toNat ao).status==3)
def z20:Bool:=
 if i.op=14 then(app i.fn (fo s.mem i.obj).1 (bp t i.b)).1 !=0 else if i.op=15 then iJ s.mem i.obj
 else if i.op=18 then(if t.phase=1 then aQ s.mem.sig t.id else if t.phase=2 then iJ s.mem i.n else true)else if i.op=22 then xT s.ab (bp t i.b)else true
def np:Bool:=cm p t&&z20 s t (zg p t)
def cX:List Int:=if bT p 32 s then(s.ab.filter (np p s)).map (·.id)else []
def bA (a:Int):Ev×Bool:=
 if bT p 32 s=false then(aW,false)else if(bg p s a).2.2=false then(aW,false)else(aR s (bg p s a).1 (bg p s a).2.1,true)
def fi:AV:= .mc aI (.agg [aF s.ab,aj s.mem, .ax])
def ZW:FuncId ->List AV ->Option AV
 |61,[.mc _ p, .int _ b] |38,[.mc _ p, .int _ b]=>some (.int .i64 (aV (dP p) b))
 |176,[.mc _ p, .int _ b, .mc _ s]=>some (.bool (bT (dP p) b (eu s)))
 |28,[.mc _ p, .int _ b]=>some (.av [fi (zj (dP p) b).1, .int .i64 (zj (dP p) b).2])
 |195,[.mc _ p, .mc _ s, .int _ a]=>some (.av [vT (bg (dP p) (eu s) a).1,vI (bg (dP p) (eu s) a).2.1, .bool (bg (dP p) (eu s) a).2.2])
 |233,[.bool b]=>some (.int .i64 (ek b))
 |236,[.mc _ s, .mc _ t, .mc _ i, .mc _ e]=>some (dh (bz (eu s) (dT t) (dX i) (jX e)))
 |234,[.mc _ t, .mc _ i, .mc _ e]=>some (dh (im (dT t) (dX i) (jX e)))
 |196,[.mc _ s, .mc _ t, .mc _ i]=>some (dh (aR (eu s) (dT t) (dX i)))
 |178,[.mc _ s, .mc _ t, .mc _ i]=>some (.bool (z20 (eu s) (dT t) (dX i)))
 |116,[.mc _ p, .mc _ s]=>some (a8 (cX (dP p) (eu s)))
 |184,[.mc _ p, .mc _ s, .int _ a]=>some (.av [dh (bA (dP p) (eu s) a).1, .bool (bA (dP p) (eu s) a).2])
 |f,l=>aas f l
abbrev fb:ar:= .cell 35 aI (ze s)
abbrev Wl:ar:= .cell 57 bF (bX e)
noncomputable def nE (n:Nat) (inv:Nat ->Option Inv):bm:={C:=di n λ_ _=>false,CC:=eS Tryz.prog GG,b9:=λ_ _=>ZW,inv:=inv}
structure cw (s:ag):Prop where
 ab:s.ab.length<=1000000
 ok:∀ j,dU (s.ab.getD j ao)
 mem:dk s.mem
 ae:s.ae.length<=1000000
 cf:∀ j,(s.ae.getD j az).entries.length<=1000000
structure jr (s:ag):Prop where
 ab:s.ab.length<=1000000
 ok:∀ j,dr (s.ab.getD j ao)
 mem:MWk s.mem
 ae:s.ae.length<=1000000
 cf:∀ j,(s.ae.getD j az).entries.length<=140737488355328
theorem cw.wo {s:ag} (h:cw s):jr s:=⟨h.ab,λj=>(h.ok j).wo,h.mem.wo,h.ae,λj=>by have :=h.cf j;omega⟩
theorem cw.r8 {s:ag} (h:cw s):vk s.ab:=λj=>(h.ok j).aw
structure VW (m:Mem) (i:aK):Prop where
 op:8<=i.op/\i.op<=22
 b:i.op=9∨i.op=10∨i.op=11∨i.op=12∨i.op=14∨i.op=21∨i.op=22 ->0<=i.b/\i.b<8
 c:i.op=12 ->0<=i.c/\i.c<8
 q:i.op=18∨i.op=19∨i.op=20 ->0<=i.obj/\i.obj<m.a6.length
def aii (k:Nat):Option Inv:=match Nat.beq k 4 with
 |true=>iw s.ab.length (λi=>⟨[(1, .int .i64 b),(3, .ptr 3 []),(5, .ptr 5 []),(21,aF s.ab),(22, .int .i64 s.ab.length),(23, .int .i64 i)],[(3,iM p),(5,fb s)]⟩) λi=>ec p s.mem=true/\s.ae.length=0/\∀ j,j<i ->kg p b s.ab j
 |false=>none
end
end Go.Proofs.S25
