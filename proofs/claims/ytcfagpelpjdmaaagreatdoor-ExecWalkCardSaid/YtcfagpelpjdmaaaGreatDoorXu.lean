import Derived.Test.YtcfagpelpjdmaaaGreatDoorXt
namespace Go.Proofs.S25
open Go Go.AV
open Go.IntKind renaming i64 -> j6
open Go.AV.Shape (leaf)
noncomputable section
variable {w:World} {F:Nat ->Prop} {v:Value} {q:List Int} {n:Nat} (a:Int) (p:aj) (b:Int) (l:List aF) (m:Mem) (c:Int) (s:ah) (id:Int) (t:aF) (i:aP) (e:Ev)
section
variable (m:Mem) (i:Int) (id:Int)
def Tg:Mem×Int:=bm (dM (ao m)) i id (-1) id
def H2:=ao (Tg m i id).fst
def Tx:Int:=(Tg m i id).snd
def Xl:Mem×Int:=bm m i id (-1) id
end
theorem aaw (i id:Int) (e:dN m):KN 195 [vM m,co i,co id] (.ax [vM (bm m i id (-1) id).1,co (bm m i id (-1) id).2]):=by
 refine Kn (mj 15 λ_=>none) Tryz.func195 (KN 243 [AV.mc zm (ao m),co i,co id,co (-1:Int),co id] (AV.ax [AV.mc zm (H2 m i id),co (Tx m i id)])/\LS (H2 m i id) (ao (Xl m i id).fst)/\Tx m i id=(Xl m i id).snd) ?_;try delta Tg H2 Tx Xl
 simp only[SZ];exact aag m i id (-1) id e
section
variable (m:Mem) (i:Int) (id:Int)
def Pn:Mem×Int:=bm (dM (ao m)) i id id (-1)
def DA:=ao (Pn m i id).fst
def Ko:Int:=(Pn m i id).snd
def Zo:Mem×Int:=bm m i id id (-1)
end
theorem abb (i id:Int) (e:dN m):KN 196 [vM m,co i,co id] (.ax [vM (bm m i id id (-1)).1,co (bm m i id id (-1)).2]):=by
 refine Kn (mj 15 λ_=>none) Tryz.func196 (KN 243 [AV.mc zm (ao m),co i,co id,co id,co (-1:Int)] (AV.ax [AV.mc zm (DA m i id),co (Ko m i id)])/\LS (DA m i id) (ao (Zo m i id).fst)/\Ko m i id=(Zo m i id).snd) ?_;try delta Pn DA Ko Zo
 simp only[SZ];exact aag m i id id (-1) e
section
variable (m:Mem) (id:Int) (x2:Nat)
def qp1:=x2<=m.aa.length/\∀ j:Nat,j<x2->aW (m.aa.getD j []) id=false
def qp2:=aW (zw (m.aa.getD (↑x2:Int).toNat []).length λi=>co ((m.aa.getD (↑x2:Int).toNat []).getD i 0)) id
def C3:=aW (zw m.sig.length λi=>co (m.sig.getD i 0)) id
end
theorem amo (f:dN m):KN 244 [vM m,co id] (.bool (oT m id)):=by
 refine Kn (mj 22 (afj m id)) Tryz.func244 (↑m.aa.length<=(9223372036854775807:Int)/\(∃ i,qp1 m id i/\(RR id/\LT (aJ m.aa)/\RR (↑m.aa.length:Int)/\0=(↑i:Int))/\LT (ao m))/\∀ i:Nat,qp1 m id i->(qj m i=true->ai (↑i) m.aa.length/\KN 106 [ab (m.aa.getD (↑i:Int).toNat []),co id] (AV.bool (qp2 m id i))/\(qp2 m id i=true->true=oT m id)/\(qp2 m id i=false->aU j6 (q9 i)/\(∃ j,qp1 m id j/\qi m j<qi m i/\(RR id/\LT (aJ m.aa)/\RR (↑m.aa.length:Int)/\q9 i=(↑j:Int))/\LT (ao m))))/\(qj m i=false->KN 245 [ab m.sig,co id] (AV.bool (C3 m id))/\C3 m id=oT m id)) ?_;try delta qp1 qp2 q9 qi qj C3
 simp only[SZ];simp only[oR];have s3:=f.aa;refine⟨ac,⟨0,⟨ac,λj k=>ac⟩,rfl⟩,λi o=>⟨λhlt=>⟨hlt,Q2 _ _ (f.q i),λh=>?_,λh=>⟨dl,i+1,⟨ac,λj k=>?_⟩,ac,ac⟩⟩,λhge=>⟨zp5 _ _ f.sig, ?_⟩⟩⟩
 . unfold oT;rw[(zb7 m.aa (λq=>aW q id) []).2 ⟨i,hlt,h⟩];rfl
 . by_cases e:j=i
   . grind
   . exact o.2 j ac
 . have e:m.aa.any (λq=>aW q id)=false:=by
    rw[<- gk,zb7 m.aa _ []];rintro⟨j,k,h⟩;rw[o.2 j ac]at h;cases h
   unfold oT;rw[e];rfl
section
variable (m:Mem) (id:Int)
def Xm:=(eh m id).fst.vars.length=0/\(eh m id).fst.ae.length=0/\(eh m id).fst.aa.length=0/\(eh m id).fst.sig.length=0
def X5:=!C3 m id
def YM:Nat->AV:=λi=>co ((dR dI (ab m.sig)).getD i 0)
def Nw:=ab (dt (zw (dR dI (ab m.sig)).length (YM m)) id)
end
theorem am4 (hm:dN m):KN 198 [vM m,co id] (.ax [vM (eh m id).1,co (eh m id).2]):=by
 refine Kn (mj 25 λ_=>none) Tryz.func198 (KN 236 [AV.mc zm (ao m)] (AV.bool (cx (dM (ao m))))/\((!cx (dM (ao m)))=true->Xm m id/\1=(eh m id).snd)/\((!cx (dM (ao m)))=false->KN 245 [ab m.sig,co id] (AV.bool (C3 m id))/\(X5 m id=true->Xm m id/\30=(eh m id).snd)/\(X5 m id=false->(KF (116:Nat) [AV.mc zm (ao m)] (AV.mc zm (AV.agg [AV.own (0:Nat) (dR dI (ab m.vars)).length,AV.own (1:Nat) (dR dI (ab m.ae)).length,AV.own (2:Nat) (dR (dR dI) (aJ m.aa)).length,AV.own (3:Nat) (dR dI (ab m.sig)).length])) [aw.row (3:TypeId) leaf (dR dI (ab m.vars)).length λi=>co ((dR dI (ab m.vars)).getD i (0:Int)),aw.row (3:TypeId) leaf (dR dI (ab m.ae)).length λi=>co ((dR dI (ab m.ae)).getD i (0:Int)),aw.row (31:TypeId) leaf (dR (dR dI) (aJ m.aa)).length λi=>ab ((dR (dR dI) (aJ m.aa)).getD i []),aw.row (3:TypeId) leaf (dR dI (ab m.sig)).length (YM m)])/\(dR dI (ab m.sig)).length<=(dR dI (ab m.sig)).length/\KN 209 [ab (dR dI (ab m.sig)),co id] (Nw m id)/\(dR dI (ab m.vars)).length<=(dR dI (ab m.vars)).length/\(dR dI (ab m.ae)).length<=(dR dI (ab m.ae)).length/\(dR (dR dI) (aJ m.aa)).length<=(dR (dR dI) (aJ m.aa)).length/\(LS (ab (dR dI (ab m.vars))) (ab (eh m id).fst.vars)/\LS (ab (dR dI (ab m.ae))) (ab (eh m id).fst.ae)/\LS (aJ (dR (dR dI) (aJ m.aa))) (aJ (eh m id).fst.aa)/\LS (Nw m id) (ab (eh m id).fst.sig))/\0=(eh m id).snd))) ?_;try delta Xm C3 X5 YM Nw
 simp only[SZ];simp only[oR];refine⟨zfn m hm,λh=>?_,λh=>⟨zp5 _ _ hm.sig,λh2=>?_,λh2=>⟨zfo m hm,Wn _ _ hm.sig, ?_⟩⟩⟩
 . have e:eh m id=(eg,1):=by unfold eh;rw[x9 h]
   rw[e];exact⟨dD,rfl⟩
 . have e:eh m id=(eg,30):=by unfold eh;rw[x8 (by simp[h]),x9 h2]
   rw[e];exact⟨dD,rfl⟩
 . have e:eh m id=({m with sig:=dt m.sig id},0):=by unfold eh;rw[x8 (by simp[h]),x8 (by simp[h2])]
   grind
section
variable (p:aj)
def Y3:=(zc (dP (ak p))).fst==0
def Zz:=Y3 p=true
def qce:=Zz p->Zz p
variable (m:Mem)
def qp3:=Y3 p&&cx (dM (ao m))
def Ck:=qp3 p m=true
def nG:=Ck p m->Ck p m
def qp4:=qp3 p m&&(↑m.vars.length:Int)==(↑p.vars.length:Int)
def Bz:=qp4 p m=true
def nR:=Bz p m->Bz p m
def qhv:=qp4 p m&&(↑m.ae.length:Int)==(↑p.aS.length:Int)
def C9:=qhv p m=true
def nA:=C9 p m->C9 p m
end
theorem aa2 (e:bG p) (f:dN m):KN 169 [vP p,vM m] (.bool (fc p m)):=by
 refine Kn (mj 38 λ_=>none) Tryz.func169 (KN 168 [AV.mc z7 (ak p)] (AV.bool (Y3 p))/\qce p/\(Zz p->KN 236 [AV.mc zm (ao m)] (AV.bool (cx (dM (ao m)))))/\qce p/\nG p m/\nG p m/\(Ck p m->↑m.vars.length<=(9223372036854775807:Int))/\nG p m/\nG p m/\(Ck p m->↑p.vars.length<=(9223372036854775807:Int))/\nG p m/\nG p m/\nG p m/\nR p m/\nR p m/\(Bz p m->↑m.ae.length<=(9223372036854775807:Int))/\nR p m/\nR p m/\(Bz p m->↑p.aS.length<=(9223372036854775807:Int))/\nR p m/\nR p m/\nR p m/\nA p m/\nA p m/\(C9 p m->↑m.aa.length<=(9223372036854775807:Int))/\nA p m/\nA p m/\(C9 p m->↑p.conds.length<=(9223372036854775807:Int))/\nA p m/\nA p m/\nA p m/\(qhv p m&&(↑m.aa.length:Int)==(↑p.conds.length:Int))=fc p m) ?_;try delta Y3 Zz qce qp3 Ck nG qp4 Bz nR qhv C9 nA
 simp only[SZ];have r:=f.vars;have o:=f.ae;have k:=f.aa;have j:=e.vars;have i:=e.aS;have h:=e.conds;refine⟨zox p e,λ_=>zfn m f,λ_=>ac,λ_=>ac,λ_=>ac,λ_=>ac,λ_=>ac,λ_=>ac, ?_⟩;grind[fc]
theorem zle (q:List Int):∀ (l:List Int),(q.foldl cu l).length<=l.length+q.length:=by
 induction q with
 |nil=>intro l;simp
 |cons x q e=>
  intro l;have h:=e (cu l x);have f:=zj6 l x;simp;omega
theorem ahz (q:List Int) (i:Nat) (e:i<q.length):q.take (i+1)=q.take i++[q.getD i 0]:=by simp_all
theorem zww (q l:List Int) (i:Nat) (e:i<q.length):(q.take (i+1)).foldl cu l=cu ((q.take i).foldl cu l) (q.getD i 0):=by
 rw[ahz q i e,List.foldl_append];rfl
theorem zd1 {j:Nat} (h:j<n):(q.take n).getD j 0=q.getD j 0:=by grind
theorem zq2 {j:Nat}:(q.drop n).getD j 0=q.getD (n+j) 0:=by grind
theorem zd2 {k:Nat} (e:k=q.length - n):zw k (λi=>co (q.getD (n+i) 0))=q.drop n:=by
 subst e;show(List.range _).map _=_;apply ji be;intro j f m;have h:j<q.length - n:=by simpa using f
 simp[dI,(show n+j<q.length by omega)]
theorem zec {k:Nat} (e:k=q.length - n) (f:q.length<=1000000):KN 201 [.seq .leaf k λi=>co (q.getD (n+i) 0)] (ab (q.drop n)):=by
 refine(zfm (q.drop n) (by rw[ws];omega)).weaken (args':=[_]) rfl ⟨⟨rfl,by rw[ws];exact e,λj h=>?_⟩,trivial⟩;show co (q.getD (n+j) 0)=co ((q.drop n).getD j 0);rw[zq2]
theorem ab6 (l:List (List Int)) (a:Nat) (v:List Int) (j:Nat) (f:j<l.length):(if j=a then ab v else ab (l.getD j []))=ab ((l.set a v).getD j []):=by
 rw[x7 (l:=l.set _ _),j8];by_cases e:a=j
 . grind
 . rw[x8 (λh=>e h.symm),x8 e,x7]
section
variable (m:Mem) (c:Int)
def qp5:Int:=bM (dM (ao m)) c ↑m.aa.length
variable (n:Int)
def qp6:Nat:=(zi m c n).fst.aa.length
def TR:=qp5 m c !=0
variable (x1:Nat)
def SE:=ab ((dR (dR dI) (aJ m.aa)).getD x1 [])
def yC:=ai c (dR (dR dI) (aJ m.aa)).length
def xL:=c.toNat<(dR (dR dI) (aJ m.aa)).length
def pf:List Int:=(dR (dR dI) (aJ m.aa)).getD c.toNat []
def rO:Int:=↑(pf m c).length
def BL:Int:=if ↑((dR (dR dI) (aJ m.aa)).getD c.toNat []).length<n then rO m c else n
def Er:=0<=BL m c n
def Kb:=BL m c n<=rO m c
def qhw:Nat:=(BL m c n - 0).toNat
def L6:Int:=↑(qhw m c n)
def Jh:=(dR dI (ab m.sig)).length<=(dR dI (ab m.sig)).length
def Vz:Int:=(pf m c).getD (Int.toNat 0+Int.toNat 0) 0
def W4:=ab (cu (zw (dR dI (ab m.sig)).length (YM m)) (Vz m c))
variable (x3:Nat)
def qp7:=1<=x3/\x3<=iN m c n/\bM m c ↑m.aa.length=0
def qhx:List Int:=List.take (iN m c n) (m.aa.getD c.toNat [])
def DF:Nat:=(qhx m c n).length
def H5:=(dR dI (ab m.vars)).length=m.vars.length
def Ir:=(dR dI (ab m.ae)).length=m.ae.length
def Il:=(dR (dR dI) (aJ m.aa)).length=m.aa.length
variable (x2:Nat)
def qp8:List Int:=List.foldl cu m.sig (List.take x2 (m.aa.getD c.toNat []))
def qhy:=ab (qp8 m c x2)
def Cp:=x1<(dR (dR dI) (aJ m.aa)).length
def J0:=decide ((0:Int)<↑((if ↑((dR (dR dI) (aJ m.aa)).getD c.toNat []).length<n then ↑((dR (dR dI) (aJ m.aa)).getD c.toNat []).length else n) - (0:Int)).toNat)
def Oq:Nat:=(rO m c - BL m c n).toNat
def Wh:Nat->AV:=λi=>co ((pf m c).getD ((BL m c n).toNat+i) 0)
def Fa:=ab (zw (Oq m c n) (Wh m c n))
def Jz:=ab ((zi m c n).fst.aa.getD x3 [])
def Ns:=0=(zi m c n).snd.snd
def Pm:Int:=(qhx m c n).getD (↑x3:Int).toNat 0
def W7:=ab (cu (zw (qp8 m c x3).length λi=>co ((qp8 m c x3).getD i 0)) (Pm m c n x3))
def Pv:=decide ((↑x3:Int)<(↑(iN m c n):Int))
def pJ:Int:=↑(m.aa.getD c.toNat []).length
def J9:Nat:=(pJ m c - ↑(iN m c n)).toNat
def DK:Nat->AV:=λi=>co ((m.aa.getD c.toNat []).getD ((↑(iN m c n):Int).toNat+i) 0)
def CL:=ab (zw (J9 m c n) (DK m c n))
end
theorem zq3 (n:Int) (f:dN m) (k:0<=n):KN 246 [vM m,co c,co n] (.ax [vM (zi m c n).1,co (zi m c n).2.1,co (zi m c n).2.2]):=by
 refine Kn {vM3 65 (λ_=>false) (λ_=>none)with AK:=ak1 m c n} Tryz.func246 (↑m.aa.length<=(9223372036854775807:Int)/\KN 240 [AV.mc zm (ao m),co c,co ↑m.aa.length] (co (qp5 m c))/\(TR m c=true->((zi m c n).fst.vars.length=0/\(zi m c n).fst.ae.length=0/\qp6 m c n=0/\(zi m c n).fst.sig.length=0)/\0=(zi m c n).snd.fst/\qp5 m c=(zi m c n).snd.snd)/\(TR m c=false->(KF (116:Nat) [AV.mc zm (ao m)] (AV.mc zm (AV.agg [AV.own (0:Nat) (dR dI (ab m.vars)).length,AV.own (1:Nat) (dR dI (ab m.ae)).length,AV.own (2:Nat) (dR (dR dI) (aJ m.aa)).length,AV.own (3:Nat) (dR dI (ab m.sig)).length])) [aw.row (3:TypeId) leaf (dR dI (ab m.vars)).length λi=>zD m i,aw.row (3:TypeId) leaf (dR dI (ab m.ae)).length λi=>rG m i,aw.row (31:TypeId) leaf (dR (dR dI) (aJ m.aa)).length λi=>SE m i,aw.row (3:TypeId) leaf (dR dI (ab m.sig)).length (YM m)])/\yC m c/\xL m c/\rO m c<=9223372036854775807/\yC m c/\xL m c/\((0:Int)<=(0:Int)/\Er m c n/\Kb m c n)/\L6 m c n<=9223372036854775807/\((J0 m c n=true->ai 0 (qhw m c n)/\Jh m/\KN 208 [ab (dR dI (ab m.sig)),co (Vz m c)] (W4 m c)/\aU j6 AR/\(∃ (j:Nat),qp7 m c n j/\(RR c/\BL m c n=(↑(iN m c n):Int)/\(qhw m c n=DF m c n/\∀ (i:Nat),i<qhw m c n->co (List.getD (pf m c) (Int.toNat (0:Int)+i) (0:Int))=co (List.getD (qhx m c n) i (0:Int)))/\L6 m c n=(↑(iN m c n):Int)/\AR=(↑j:Int))/\((0:Nat)=(0:Nat)/\(0:Nat)=(0:Nat)/\(0:Nat)=(0:Nat)/\(0:Nat)=(0:Nat))/\(H5 m/\Ir m/\Il m/\LS (W4 m c) (qhy m c j))/\(H5 m/\∀ (i:Nat),i<List.length (dR dI (ab (Mem.vars m)))->zD m i=co (List.getD (Mem.vars m) i (0:Int)))/\(Ir m/\∀ (i:Nat),i<List.length (dR dI (ab (Mem.ae m)))->rG m i=co (List.getD (Mem.ae m) i (0:Int)))/\Il m/\∀ (i:Nat),Cp m i->SE m i=ab (List.getD (Mem.aa m) i [])))/\(J0 m c n=false->yC m c/\xL m c/\(Er m c n/\Kb m c n/\rO m c<=rO m c)/\KN 201 [AV.seq leaf (Oq m c n) (Wh m c n)] (Fa m c n)/\yC m c/\xL m c/\(dR dI (ab m.vars)).length<=(dR dI (ab m.vars)).length/\(dR dI (ab m.ae)).length<=(dR dI (ab m.ae)).length/\(dR (dR dI) (aJ m.aa)).length<=(dR (dR dI) (aJ m.aa)).length/\Jh m/\(LS (ab (dR dI (ab m.vars))) (ab (zi m c n).fst.vars)/\LS (ab (dR dI (ab m.ae))) (ab (zi m c n).fst.ae)/\((dR (dR dI) (aJ m.aa)).length=qp6 m c n/\∀ i:Nat,Cp m i->(if i=c.toNat then av (Fa m c n)else SE m i)=Jz m c n i)/\LS (ab (dR dI (ab m.sig))) (ab (zi m c n).fst.sig))/\BL m c n=(zi m c n).snd.fst/\Ns m c n))/\∀ i:Nat,qp7 m c n i->(Pv m c n i=true->ai (↑i) (DF m c n)/\KN 208 [qhy m c i,co (Pm m c n i)] (W7 m c n i)/\aU j6 (q9 i)/\(∃ j,qp7 m c n j/\iN m c n - j<iN m c n - i/\(RR c/\RR (↑(iN m c n):Int)/\LT (ab (qhx m c n))/\RR (↑(iN m c n):Int)/\q9 i=(↑j:Int))/\(LT (ab [])/\LT (ab [])/\LT (aJ [])/\LT (ab []))/\(RR m.vars.length/\RR m.ae.length/\RR m.aa.length/\LS (W7 m c n i) (qhy m c j))/\(RR m.vars.length/\∀ (i:Nat),i<m.vars.length->RR (co (m.vars.getD i 0)))/\(RR m.ae.length/\∀ (i:Nat),i<m.ae.length->RR (co (m.ae.getD i 0)))/\RR m.aa.length/\∀ (i:Nat),i<m.aa.length->RR (ab (m.aa.getD i []))))/\(Pv m c n i=false->ai c m.aa.length/\c.toNat<m.aa.length/\((0:Int)<=↑(iN m c n)/\↑(iN m c n)<=pJ m c/\pJ m c<=pJ m c)/\KN 201 [AV.seq leaf (J9 m c n) (DK m c n)] (CL m c n)/\ai c m.aa.length/\c.toNat<m.aa.length/\m.vars.length<=m.vars.length/\m.ae.length<=m.ae.length/\m.aa.length<=m.aa.length/\(LS (ab m.vars) (ab (zi m c n).fst.vars)/\LS (ab m.ae) (ab (zi m c n).fst.ae)/\(m.aa.length=qp6 m c n/\∀ (i:Nat),i<m.aa.length->(if i=c.toNat then av (CL m c n)else ab (m.aa.getD i []))=Jz m c n i)/\LS (qhy m c i) (ab (zi m c n).fst.sig))/\↑(iN m c n)=(zi m c n).snd.fst/\Ns m c n))) ?_;try delta qp5 qp6 TR zD rG SE YM yC xL pf rO BL Er Kb qhw L6 Jh Vz W4 AR qp7 qhx DF H5 Ir Il qp8 qhy Cp J0 Oq Wh Fa Jz Ns Pm W7 q9 Pv pJ J9 DK CL
 simp only[SZ];have s3:=f.aa;have hq:=f.q c.toNat;have sA:=f.all;have hA:(allI m).length=m.sig.length+m.aa.flatten.length:=by unfold allI;rw[xl]
 have hq2:=ZB m.aa c.toNat;have eN:(if((m.aa.getD c.toNat []).length:Int)<n then((m.aa.getD c.toNat []).length:Int)else n)=((iN m c n:Nat):Int):=by
  unfold iN;rw[Int.min_def];split<;>split<;>omega
 have hN:iN m c n<=(m.aa.getD c.toNat []).length:=ac;have eW:min n ((m.aa.getD c.toNat []).length:Int)=((iN m c n:Nat):Int):=by
  unfold iN;rw[Int.min_def];split<;>omega
 have eK:((((m.aa.getD c.toNat []).length:Int)) - ((iN m c n:Nat):Int)).toNat=(m.aa.getD c.toNat []).length - iN m c n:=ac;have yes:bM m c m.aa.length=0 ->zi m c n=(A7 m c.toNat (iN m c n),((iN m c n:Nat):Int),0):=λh=>by
  unfold zi;rw[x8 (by simp[h]),eW,j7]
 simp only[eN,oR,j7,eK,yx];have fin:bM m c m.aa.length=0 ->∀ i,i=iN m c n ->(0<=c/\c<(m.aa.length:Int))/\c.toNat<m.aa.length:=λh i _=>by have :=ma h;omega
 refine⟨ac,X2 m _ _ f,λh=>?_,λh=>?_⟩
 . have e:zi m c n=(eg,0,bM m c m.aa.length):=by unfold zi;rw[x9 h]
   rw[e];exact⟨dD,rfl,rfl⟩
 have hc:=(ma h).2;rw[yes h];refine⟨zfo m f,hc,ac,ac,hc,ac,⟨ac,ac,ac⟩,ac,⟨λh0=>⟨ey,tU _ _ ac,dl,1,⟨ac,ac,h⟩,⟨⟨by rw[xu];omega,λj hj=>by rw[zd1 hj]⟩,rfl⟩, ?_⟩,λh0=>?_⟩,λi hi=>⟨λhlt=>?_,λhge=>?_⟩⟩
 . have e:=zww (m.aa.getD c.toNat []) m.sig 0 ac;rw[e];exact eq
 . have e0:iN m c n=0:=ac;refine⟨hc,ac,ey,by rw[zd2 rfl];exact zec rfl hq,hc,ac,⟨eq,eq,⟨by show _=(List.set _ _ _).length;simp,λj hj=>by rw[zd2 rfl];exact ab6 _ _ _ j hj⟩, ?_⟩,rfl,rfl⟩;unfold A7;rw[e0];exact eq
 . have e:=zww (m.aa.getD c.toNat []) m.sig i ac;have hf:=zle ((m.aa.getD c.toNat []).take i) m.sig;rw[xu]at hf;refine⟨by rw[xu];omega,tU _ _ ac,dl,i+1,⟨ac,hlt,h⟩,ac,ac, ?_⟩;rw[e,zd1 hlt];exact eq
 . have e0:iN m c n=i:=ac;refine⟨hc,ac,hN,by rw[zd2 rfl];exact zec rfl hq,hc,ac,⟨eq,eq,⟨by show _=(List.set _ _ _).length;simp,λj hj=>by rw[zd2 rfl];exact ab6 _ _ _ j hj⟩, ?_⟩,rfl,rfl⟩;unfold A7;rw[e0];exact eq
section
variable (m:Mem) (c:Int)
def L9:=ao (zi (dM (ao m)) c 1).fst
def FI:Int×Int:=(zi (dM (ao m)) c 1).snd
def Tw:Int:=(FI m c).fst
def Kl:Int:=(FI m c).snd
def Z6:Int×Int:=(zi m c 1).snd
end
theorem agj (e:dN m):KN 199 [vM m,co c] (.ax [vM (zi m c 1).1,co (zi m c 1).2.1,co (zi m c 1).2.2]):=by
 refine Kn (mj 13 λ_=>none) Tryz.func199 (KN 246 [AV.mc zm (ao m),co c,co (1:Int)] (AV.ax [AV.mc zm (L9 m c),co (Tw m c),co (Kl m c)])/\LS (L9 m c) (ao (zi m c 1).fst)/\Tw m c=(Z6 m c).fst/\Kl m c=(Z6 m c).snd) ?_;try delta L9 FI Tw Kl Z6
 simp only[SZ];exact zq3 m c 1 e (ap)
theorem zwx (l:List (List Int)) (i:Nat) (f:i<l.length):eZ (l.take (i+1))=max (eZ (l.take i)) ((l.getD i []).length:Int):=by
 have e:l.take (i+1)=l.take i++[l.getD i []]:=by
  simp_all
 unfold eZ;rw[e,List.foldl_append];rfl
theorem zlf (l:List (List Int)):∀ i,i<=l.length ->0<=eZ (l.take i)
 |0,_=>yt _
 |i+1,h=>by
  rw[zwx l i ac];omega
section
variable (m:Mem) (x1:Nat)
def N2:Int:=(↑(m.aa.getD (↑x1:Int).toNat []).length:Int)
variable (c:Int) (x2:Nat)
def La:=ao (zi (dM (ao m)) c (eZ (List.take x2 m.aa))).fst
def ON:Int×Int:=(zi (dM (ao m)) c (eZ (List.take x2 m.aa))).snd
def R6:Int:=(ON m c x2).fst
def Uv:Int:=(ON m c x2).snd
end
theorem agh (f:dN m):KN 200 [vM m,co c] (.ax [vM (zi m c (eZ m.aa)).1,co (zi m c (eZ m.aa)).2.1,co (zi m c (eZ m.aa)).2.2]):=by
 refine Kn (mj 29 (agt m c)) Tryz.func200 (↑m.aa.length<=(9223372036854775807:Int)/\(∃ (i:Nat),i<=List.length (Mem.aa m)/\(RR c/\(0:Int)=eZ (List.take i (Mem.aa m))/\LT (aJ (Mem.aa m))/\RR (↑(List.length (Mem.aa m)):Int)/\(0:Int)=(↑i:Int))/\LT (ao m)/\(0:Nat)=(0:Nat)/\(0:Nat)=(0:Nat)/\(0:Nat)=(0:Nat)/\(0:Nat)=(0:Nat))/\∀ i:Nat,i<=m.aa.length->(qj m i=true->ai (↑i) m.aa.length/\N2 m i<=9223372036854775807/\aU j6 (q9 i)/\(∃ j,j<=m.aa.length/\qi m j<qi m i/\(RR c/\(if eZ (List.take i m.aa)<(↑(m.aa.getD (↑i:Int).toNat []).length:Int)then N2 m i else eZ (List.take i m.aa))=eZ (List.take j m.aa)/\LT (aJ m.aa)/\RR (↑m.aa.length:Int)/\q9 i=(↑j:Int))/\LT (ao m)/\LT (ab [])/\LT (ab [])/\LT (aJ [])/\LT (ab [])))/\(qj m i=false->KN 246 [AV.mc zm (ao m),co c,co (eZ (List.take i m.aa))] (AV.ax [AV.mc zm (La m c i),co (R6 m c i),co (Uv m c i)])/\LS (La m c i) (ao (zi m c (eZ m.aa)).fst)/\R6 m c i=(zi m c (eZ m.aa)).snd.fst/\Uv m c i=(zi m c (eZ m.aa)).snd.snd)) ?_;try delta N2 q9 qi qj La ON R6 Uv
 simp only[SZ];have s3:=f.aa;refine⟨ac,⟨0,ac,rfl,rfl⟩,λi k=>⟨λhlt=>⟨hlt,by have :=f.q i;omega,dl,i+1,hlt,ac, ?_,ac⟩,λhge=>?_⟩⟩
 . rw[zwx m.aa i hlt];omega
 . have e:m.aa.take i=m.aa:=xv ac;have h:=zlf m.aa i k;rw[e]at h ⊢;exact⟨zq3 m c _ f h,eq,rfl,rfl⟩
theorem adb (i:Nat) (f:i<p.vars.length):iM p (i+1)=iM p i++[(p.vars.getD i eR).init]:=by
 have e:p.vars.take (i+1)=p.vars.take i++[p.vars.getD i eR]:=by
  simp_all
 unfold iM;rw[e,List.map_append];rfl
theorem zq4 (i:Nat) (e:i<=p.vars.length):(iM p i).length=i:=by grind[iM]
section
variable (p:aj)
def LO:=↑p.conds.length<=(9223372036854775807:Int)
def qhz:=(zc p).fst=0
variable (x1:Nat)
def BT:=x1<=p.vars.length/\qhz p
def Em:=(↑p.conds.length:Int).toNat=p.conds.length
def xU:Nat:=(iM p x1).length+1
def uz:=LT (ab [])/\LT (ab [])/\LT (aJ [])/\LT (ab [])
variable (x2:Nat)
def Yv:=xU p x1=(iM p x2).length
def Bd:=co ((iM p x1).getD x2 0)
def Rc:=∀ (i:Nat),i<p.conds.length->RR AV.aA
def qp9:=RR p.conds.length/\Rc p
def BR:=x1<=p.aS.length/\qhz p
def Bi:=co ((List.map (λx=>x.init) p.vars).getD x1 0)
variable (x0:Nat)
def sZ:Nat:=(List.replicate x0 (-1)).length
def qch:Nat:=p.aS.length - x1
end
section
variable (x0:Nat) (x1:Nat)
def BH:=co ((List.replicate x0 (-1)).getD x1 0)
end
section
variable (p:aj) (x1:Nat)
def Zf:=decide ((↑x1:Int)<(↑p.aS.length:Int))
end
theorem aiu (f:bG p):KN 120 [vP p] (.ax [zpz (bo p).1 (bo p).1.aa.length,co (bo p).2]):=by
 refine Kn (mj 52 (aij p)) Tryz.func120 (KN 54 [AV.mc z7 (ak p)] (AV.ax [co (zc (dP (ak p))).fst,co (zc (dP (ak p))).snd.fst,co (zc (dP (ak p))).snd.snd])/\(mK p=true->((bo p).fst.vars.length=0/\(bo p).fst.ae.length=0/\(bo p).fst.aa.length=0)/\(zc (dP (ak p))).fst=(bo p).snd)/\(mK p=false->LO p/\((0:Int)<=↑p.conds.length/\(↑p.conds.length:Int)<=(↑p.conds.length:Int)/\↑(24:Nat)*↑p.conds.length<=(140737488355328:Int)/\LO p)/\↑p.vars.length<=(9223372036854775807:Int)/\(∃ (i:Nat),BT p i/\(LT (fK (aj.vars p))/\RR (↑(List.length (aj.vars p)):Int)/\(0:Int)=(↑i:Int))/\LT (ak p)/\((0:Nat)=(0:Nat)/\(0:Nat)=(0:Nat)/\(0:Nat)=(0:Nat)/\(0:Nat)=(0:Nat))/\(List.length (iM p i)=(0:Nat)/\Em p)/\List.length (iM p i)=(0:Nat)/\Em p/\∀ (i:Nat),i<Int.toNat (↑(List.length (aj.conds p)):Int)->RR AV.aA)/\∀ i:Nat,BT p i->(qz p i=true->ai (↑i) p.vars.length/\qr/\(RR (iM p i).length/\↑(xU p i)*↑(8:Nat)<=(140737488355328:Int)/\xU p i<=9223372036854775807)/\qf/\qa i/\(∃ j,BT p j/\p.vars.length - j<p.vars.length - i/\(LT (fK p.vars)/\RR (↑p.vars.length:Int)/\qb i j)/\LT (ak p)/\uz/\(Yv p i j/\RR p.conds.length)/\(Yv p i j/\∀ (ar:Nat),ar<xU p i->(if ar<(iM p i).length then Bd p i ar else(oI.set 0 (av (co (p.vars.getD (↑i:Int).toNat eR).init))).getD (ar - (iM p i).length) AV.any)=Bd p j ar)/\qp9 p))/\(qz p i=false->↑p.aS.length<=(9223372036854775807:Int)/\(∃ ar,BR p ar/\(RR (↑p.aS.length:Int)/\0=(↑ar:Int))/\uz/\((iM p i).length=p.vars.length/\ar=0/\RR p.conds.length)/\((iM p i).length=(List.map (λx=>x.init) p.vars).length/\∀ (i_2:Nat),i_2<(iM p i).length->Bd p i i_2=Bi p i_2)/\sZ ar=0/\qp9 p)/\∀ (i:Nat),BR p i->(Zf p i=true->qr/\(i=sZ i/\(↑(qd i):Int)*(↑(8:Nat):Int)<=(140737488355328:Int)/\qd i<=(9223372036854775807:Nat))/\qf/\qa i/\∃ j,BR p j/\qch p j<qch p i/\(RR (↑p.aS.length:Int)/\qb i j)/\uz/\(RR p.vars.length/\qd i=j/\RR p.conds.length)/\(RR (List.map (λx=>x.init) p.vars).length/\∀ (i:Nat),i<(List.map (λx=>x.init) p.vars).length->RR (Bi p i))/\(qd i=sZ j/\∀ (ar:Nat),ar<qd i->(if ar<i then BH i ar else(oI.set (0:Nat) (av (co (-1:Int)))).getD (ar - i) AV.any)=BH j ar)/\qp9 p)/\(Zf p i=false->p.vars.length<=(List.map (λx=>x.init) p.vars).length/\i<=sZ i/\p.conds.length<=p.conds.length/\((p.vars.length=(bo p).fst.vars.length/\∀ (i:Nat),i<p.vars.length->Bi p i=co ((bo p).fst.vars.getD i (0:Int)))/\(i=(bo p).fst.ae.length/\∀ (ar:Nat),ar<i->BH i ar=co ((bo p).fst.ae.getD ar (0:Int)))/\p.conds.length=(bo p).fst.aa.length/\Rc p)/\(0:Int)=(bo p).snd)))) ?_;try delta mK LO qhz BT Em qr xU qf q9 qa qb uz Yv Bd oI Rc qp9 qz BR Bi sZ qd qch BH Zf
 simp only[SZ];have u:=f.vars;have h5:=f.aS;have s:=f.conds;refine⟨WR p f,λh=>?_,λh=>⟨ac,ey,ac,⟨0,⟨ac,h⟩,rfl,rfl,rfl⟩,λi o=>?_⟩⟩
 . have e:bo p=(eg,(zc p).1):=by unfold bo;rw[x9 h]
   rw[e];exact eq
 have e:bo p=(⟨p.vars.map (·.init),List.replicate p.aS.length (-1),List.replicate p.conds.length [],[]⟩,0):=by unfold bo;rw[x8 (by simp[h])]
 rw[e];have m:=zq4 p i o.1;refine⟨λhlt=>⟨hlt,ap,ey,dl,i+1,⟨hlt,h⟩,ac,ac, ?_⟩,λhge=>⟨ac,⟨0,⟨ac,h⟩,rfl,⟨ac,rfl⟩, ?_,rfl⟩,λk r=>⟨λhlt=>⟨ap,⟨be,ac,ac⟩,dl,k+1,⟨hlt,h⟩,ac,ac,rfl, ?_⟩,λhge=>⟨be,be,⟨⟨be,λ_ _=>rfl⟩,⟨ci,λj hj=>?_⟩,be⟩,rfl⟩⟩⟩⟩
 . rw[adb p i hlt];exact⟨be,be,λj hj=>lW _ _ j hj⟩
 . have e2:iM p i=p.vars.map (·.init):=by unfold iM;rw[xv ac]
   grind
 . refine⟨be,λj hj=>?_⟩;have :=lW (List.replicate k (-1)) (-1) j (by simpa using hj);rw[List.length_replicate]at this;rw[this,<- List.replicate_succ']
 . have e2:k=p.aS.length:=ac;rw[e2]
theorem dU.kV {r':List AV} {r:List AV} {w:World} {F:Nat ->Prop} {v:Value} (hl:r.length=r'.length)
 (h:∀ j,j<r.length ->∀ v,ay w F v (r.getD j .any) ->ay w F v (r'.getD j .any)) (i:dU w F v (.ax r)):dU w F v (.ax r'):=by
 have⟨f,e,m,k⟩:=i;exact⟨f,e,m.trans hl,λj o=>h j ac _ (k j ac)⟩
theorem _root_.Go.AV.aL.imp {P:Program} {G:List (Nat×AV)} {f:FuncId} {args:List AV} {r r':AV} (h:aL P G f args r)
 (s:∀ (w:World) (F:Nat ->Prop) (v:Value),dU w F v r ->dU w F v r'):aL P G f args r':=by
 rcases h with⟨o,m⟩ |h
 . refine .inl ⟨o,λw F i E z k j=>(m w F i E z k j).mono ?_⟩;rintro K J ⟨v,H,e,y,b2,b3,x,u⟩;exact⟨v,H,e,y,b2,b3,x,s _ _ _ u⟩
 . refine .inr λw F i k j=>?_;have⟨v,o,m⟩:=h w F i k j;grind
theorem _root_.Go.AV.cd.stat {P:Program} {G:List (Nat×AV)} {f:FuncId} {args:List AV} {ty:TypeId} {sh:Shape} {n:Nat} {g:Nat ->AV} (h:cd P G f args (.own 0 n) [.row ty sh n g]):aL P G f args (.seq sh n g):=by
 refine .inl ⟨h.1,λw F M U R Q O=>(h.2 w F M U R Q O).mono ?_⟩;rintro X V ⟨v,J,K,e,H,b2,b3,E,x,N,_⟩;have⟨Z,Y,u⟩:=N 0 _ rfl;rcases u with⟨u,rfl⟩ | ⟨k,cs,d1,d2,d3,d4,d5,d6,d7,d8⟩
 . cases x with
   |own b g n r y=>rw[u]at r;cases r
   |iT=>exact⟨_,J,e,H,b2,b3,E, .db _ _ _ _⟩
   |stat h=>cases h
 . generalize s:n=m at x;cases x with
   |own b W m r y=>
    rw[d1]at r;cases r;subst s;refine⟨_,λj=>J j∨j=k,e,H,λj o=> .inl (b2 j o),λj o=>?_,λj o=>?_, .seq k 0 n _ sh _ (λi j=>cs.getD (i*sh.size+j) undef) (.inr rfl) y (λi z j o=>?_) λi z j o=>?_⟩
    . rcases o with o |rfl
      . exact b3 j o
      . exact .inr d2
    . rcases o with o |rfl
      . exact E j o
      . exact(xi.1 d4).1
    . have s:=xn sh.size (show i+1<=(K 0).cap by omega);rw[yb]at s;rw[xy];exact oW d4 (by omega)
    . exact(d8 i z j o).keep (λ_ _=>rfl) λ_ h=> .inl h
   |iT b r=>rw[d1]at r;cases r
   |stat h=>cases h
theorem zwy (h:ay w F v .aA) (l:List Int) (hl:l=[]):ay w F v (ab l):=by
 subst hl;cases h;exact .db _ _ _ _
theorem zq5 (h:ay w F v (.seq .leaf n λ_=> .aA)) (l:List (List Int)) (hl:l.length=n) (m:∀ i,i<n ->l.getD i []=[]):ay w F v (aJ l):=by
 show ay w F v (.seq .leaf l.length λi=>ab (l.getD i []));rw[hl];cases h with
 |db=>exact .db _ _ _ _
 |seq g o n cap sh f y x u s r=>
  exact .seq g o _ cap .leaf _ y x u s λi e j k=>by
   have :=r i e j k;exact zwy this _ (m i e)
theorem zlg (h:ay w F v (zpz (bo p).1 (bo p).1.aa.length)):ay w F v (vM (bo p).1):=by
 have o:(bo p).1.sig=[]:=by unfold bo;split<;>rfl
 have m:∀ i,i<(bo p).1.aa.length ->(bo p).1.aa.getD i []=[]:=by
  unfold bo;split
  . intro i k;exact absurd k (wg _)
  . grind
 cases h with
 |mc r sh x hs f=>
  refine .mc r _ _ hs λj e=>?_;have h:=f j e;match j,e with
  |0,_=>exact h
  |1,_=>exact h
  |2,_=>exact zq5 h _ rfl m
  |3,_=>exact zwy h _ o
theorem OI (f:bG p):KN 120 [vP p] (.ax [vM (bo p).1,co (bo p).2]):=by
 refine(aiu p f).imp λw F v h=>dU.kV (r:=[_,_]) (r':=[_,_]) (by rfl) (λj i u e=>?_) h;match j,i with
 |0,_=>exact zlg p e
 |1,_=>exact e
def b7:Int:=if a<0 then -(a+1)else a
def dr (t:Int):Int:=if t<0 then 0 else -t - 1
def acw:FuncId ->List AV ->Option AV
 |180,[.int _ a]=>some (.bool (decide (a<0)))
 |179,[.int _ a] |143,[.int _ a]=>some (co (b7 a))
 |48,[.int _ t] |74,[.int _ t]=>some (co (dr t))
 |f,l=>spM f l
def vE (n:Nat) (inv:Nat ->Option Inv):bj:={C:=dc n λ_ _=>false,CC:=aL Tryz.prog GG,bb:=λ_ _=>acw,inv:=inv}
def jS (n:Int):Prop:= -9223372036854775808<=n/\n<=9223372036854775807
theorem ao7:KN 180 [co a] (.bool (decide (a<0))):=by
 refine Kn (vE 5 λ_=>none) Tryz.func180 (RR (decide (a<0))) ?_;try delta RR;try rfl
section
variable (a:Int)
def qi0:Int:=a+1
def ZN:Int:=0 - qi0 a
def nP:=decide (a<0)
end
theorem aod (e:jS a):KN 179 [co a] (co (b7 a)):=by
 refine Kn (vE 9 λ_=>none) Tryz.func179 ((nP a=true->aU j6 (qi0 a)/\aU j6 (ZN a)/\ZN a=b7 a)/\(nP a=false->a=b7 a)) ?_;try delta qi0 ZN nP
 simp only[SZ];have⟨i,f⟩:=e;unfold b7;refine⟨λh=>⟨dl,dl, ?_⟩,λh=>by rw[x8 h]⟩;omega
section
variable (a:Int)
def Dz:=decide (0<=a)
end
theorem anq (e:jS a):KN 143 [co a] (co (b7 a)):=by
 refine Kn (vE 9 λ_=>none) Tryz.func143 ((Dz a=true->a=b7 a)/\(Dz a=false->aU j6 (qi0 a)/\aU j6 (ZN a)/\ZN a=b7 a)) ?_;try delta Dz qi0 ZN
 simp only[SZ];have⟨h,f⟩:=e;unfold b7;refine⟨λh=>by rw[x8 ac],λh=>⟨dl,dl, ?_⟩⟩;omega
section
variable (a:Int)
def qi1:Int:=0 - a
def qck:Int:=qi1 a - 1
end
theorem aci (e:jS a):KN 48 [co a] (co (dr a)):=by
 refine Kn (vE 8 λ_=>none) Tryz.func48 ((nP a=true->0=dr a)/\(nP a=false->aU j6 (qi1 a)/\aU j6 (qck a)/\qck a=dr a)) ?_;try delta nP qi1 qck
 simp only[SZ];have⟨i,f⟩:=e;unfold dr;refine⟨λh=>by rw[x9 h],λh=>⟨dl,dl, ?_⟩⟩;omega
theorem ao2 (e:jS a):KN 74 [co a] (co (dr a)):=by
 refine Kn (vE 8 λ_=>none) Tryz.func74 ((nP a=true->0=dr a)/\(nP a=false->aU j6 (qi1 a)/\aU j6 (qck a)/\qck a=dr a)) ?_;try delta nP qi1 qck
 simp only[SZ];have⟨i,f⟩:=e;unfold dr;refine⟨λh=>by rw[x9 h],λh=>⟨dl,dl, ?_⟩⟩;omega
theorem eP {s:ah} (h:BF s.af):gF (ze s)=s:=by
 have :gF (ze s)=⟨dR dT (aK s.af),dM (ao s.mem),dR dB (bc s.ag)⟩:=rfl;rw[this,pq h,zo0,V9]
theorem ae4 (d e f g h i:Int):jZ (.agg [co a,co b,co c,co d,co e,co f,co g,co h,co i])=⟨a,b,c,d,e,f,g,h,i⟩:=rfl
def bz (j:Int):Int:=t.az.getD j.toNat 0
def lD (p:aj) (b:Int) (l:List aF) (j:Nat):Prop:=gV p b (l.getD j au)=true/\(0<j ->(l.getD (j - 1) au).id<(l.getD j au).id)
instance (p:aj) (b:Int) (l:List aF) (j:Nat):Decidable (lD p b l j):=by unfold lD;infer_instance
def uq:Bool:=(List.range l.length).all λj=>decide (lD p b l j)
def c9:Bool:=fc p s.mem&&(s.ag.length==0&&uq p b s.af)
def fw (n:Nat):List aF:=(List.range n).map λ(j:Nat)=>(bf p b (j:Int) (p.af.getD j dL).fn (p.af.getD j dL).arg).1
def zj:ah×Int:=if aX p b≠0 then(aE,aX p b)else(⟨fw p b p.af.length,(bo p).1,[]⟩,0)
def bn:aF×aP×Bool:=
 if aV s.af id<0 then(au,dp,false)else(s.af.getD (aV s.af id).toNat au,zg p (s.af.getD (aV s.af id).toNat au),cH p (s.af.getD (aV s.af id).toNat au))
def jz:Ev:=
 if t.phase=0 then {e with kind:=12,mutex:=i.n}else if t.phase=1 then {e with kind:=13}else {e with kind:=9,obj:=i.n}
def bJ:Ev:=
 let v:=(gT s.mem i.obj).1
 let f:Ev:={e with ord:=i.ord,read:=v,kind:=5}
 if i.op=8 then {f with kind:=1}else if i.op=14 then {f with kind:=8}else if i.op=9 then {f with kind:=2,read:=0,wrote:=bz t i.b}
 else if i.op=10 then {f with wrote:=bz t i.b}else if i.op=11 then {f with wrote:=(app 1 v (bz t i.b)).1}
 else if v=bz t i.b then {f with wrote:=bz t i.c}else {f with kind:=6}
def jW:Ev:=⟨t.id,t.steps,0,i.obj,-1,-1,0,0,0⟩
def qX (o:Int):Int:=(m.aa.getD o.toNat []).length
def fi (b:Bool):Int:=if b then 1 else 0
def aT:Ev:=
 if i.op=13 then {jW t i with kind:=7}else if i.op=15 then {jW t i with kind:=9}else if i.op=16 then {jW t i with kind:=10}
 else if i.op=17 then {jW t i with kind:=11,read:=fi (jU s.mem i.obj)}else if i.op=18 then jz t i (jW t i)
 else if i.op=19 then {jW t i with kind:=14,read:=min 1 (qX s.mem i.obj)}else if i.op=20 then {jW t i with kind:=15,read:=qX s.mem i.obj}
 else if i.op=21 then {jW t i with kind:=16,obj:=fZ t}else if i.op=22 then {jW t i with kind:=17,obj:=bz t i.b}else bJ s t i (jW t i)
def AM:Bool:=decide (0<=aV l id)&&((l.getD (aV l id).toNat au).status==2 || (l.getD (aV l id).toNat au).status==3)
def z20:Bool:=
 if i.op=14 then(app i.fn (gT s.mem i.obj).1 (bz t i.b)).1 !=0 else if i.op=15 then jU s.mem i.obj
 else if i.op=18 then(if t.phase=1 then aW s.mem.sig t.id else if t.phase=2 then jU s.mem i.n else true)else if i.op=22 then AM s.af (bz t i.b)else true
def oU:Bool:=cH p t&&z20 s t (zg p t)
def cY:List Int:=if c9 p 32 s then(s.af.filter (oU p s)).map (·.id)else []
def bA (a:Int):Ev×Bool:=
 if c9 p 32 s=false then(aH,false)else if(bn p s a).2.2=false then(aH,false)else(aT s (bn p s a).1 (bn p s a).2.1,true)
def fY:AV:= .mc aM (.agg [aK s.af,ao s.mem, .aA])
def abl:FuncId ->List AV ->Option AV
 |111,[.mc _ p, .int _ b] |69,[.mc _ p, .int _ b]=>some (co (aX (dP p) b))
 |103,[.mc _ p, .int _ b, .mc _ s]=>some (.bool (c9 (dP p) b (gF s)))
 |65,[.mc _ p, .int _ b]=>some (.ax [fY (zj (dP p) b).1,co (zj (dP p) b).2])
 |112,[.mc _ p, .mc _ s, .int _ a]=>some (.ax [vT (bn (dP p) (gF s) a).1,vI (bn (dP p) (gF s) a).2.1, .bool (bn (dP p) (gF s) a).2.2])
 |189,[.bool b]=>some (co (fi b))
 |192,[.mc _ s, .mc _ t, .mc _ i, .mc _ e]=>some (dg (bJ (gF s) (dT t) (eQ i) (jZ e)))
 |190,[.mc _ t, .mc _ i, .mc _ e]=>some (dg (jz (dT t) (eQ i) (jZ e)))
 |113,[.mc _ s, .mc _ t, .mc _ i]=>some (dg (aT (gF s) (dT t) (eQ i)))
 |105,[.mc _ s, .mc _ t, .mc _ i]=>some (.bool (z20 (gF s) (dT t) (eQ i)))
 |58,[.mc _ p, .mc _ s]=>some (ab (cY (dP p) (gF s)))
 |62,[.mc _ p, .mc _ s, .int _ a]=>some (.ax [dg (bA (dP p) (gF s) a).1, .bool (bA (dP p) (gF s) a).2])
 |f,l=>acw f l
abbrev fJ:aw:= .cell 41 aM (ze s)
abbrev GH:aw:= .cell 55 bp (bP e)
def rl (n:Nat) (inv:Nat ->Option Inv):bj:={C:=dc n λ_ _=>false,CC:=aL Tryz.prog GG,bb:=λ_ _=>abl,inv:=inv}
structure cK (s:ah):Prop where
 af:s.af.length<=1000000
 ok:∀ j,eL (s.af.getD j au)
 mem:dN s.mem
 ag:s.ag.length<=1000000
 cE:∀ j,(s.ag.getD j aD).entries.length<=1000000
theorem cK.r8 {s:ah} (h:cK s):BF s.af:=λj=>(h.ok j).az
structure jv (m:Mem) (i:aP):Prop where
 op:8<=i.op/\i.op<=22
 b:i.op=9∨i.op=10∨i.op=11∨i.op=12∨i.op=14∨i.op=21∨i.op=22 ->0<=i.b/\i.b<8
 c:i.op=12 ->0<=i.c/\i.c<8
 q:i.op=18∨i.op=19∨i.op=20 ->0<=i.obj/\i.obj<m.aa.length
def aip (k:Nat):Option Inv:=match Nat.beq k 4 with
 |true=>iw s.af.length (λi=>⟨[(1,co b),(3, .ptr 3 []),(5, .ptr 5 []),(21,aK s.af),(22,co s.af.length),(23,co i)],[(3,jO p),(5,fJ s)]⟩) λi=>fc p s.mem=true/\s.ag.length=0/\∀ j,j<i ->lD p b s.af j
 |false=>none
end
end Go.Proofs.S25
