import Derived.Test.YtgcpdfihjmmggaaGreatDoorXza
import Derived.Test.YtgcpdfihjmmggaaGreatDoorXy
namespace Go.Proofs.S25
open Go Go.AV
open Go.IntKind renaming i64 -> j6
open Go.AV.Shape (leaf)
noncomputable section
variable {m:Mem} {c:Int} (l:List aB) (p:ai) (b:Int) (s:ag) (t:aB) (i:aK) (e:Ev) (id:Int) (k:Nat) (a:Int) (n:Nat)
theorem zlz:∀ (q sig:List Int),jC sig ->q.foldl c9 sig=bx (sig++q)
 | [],sig,h=>by rw[yb,zmy h];rfl
 |x::q,sig,h=>by
  show q.foldl c9 (c9 sig x)=_
  rw[zlz q (c9 sig x) (ri _)]
  refine xL (ri _) (ri _) λy=>?_
  rw[z59,z59];unfold c9
  simp[z59]
  constructor
  . rintro((h |h) |h)
    . exact .inl h
    . exact .inr (.inl h)
    . exact .inr (.inr h)
  . rintro(h |h |h)
    . exact .inl (.inl h)
    . exact .inl (.inr h)
    . exact .inr h
theorem zub (q:List Int) (k:Nat):(AV.seq .leaf (q.length - k) λi=>AV.int .i64 (q.getD (k+i) 0))=a8 (q.drop k):=by
 unfold a8;rw[wn];congr 1;funext i
 grind
theorem zy9 (m:Mem) (hm:dk m):KF 101 [vM m] (abx m) (zr6 m):=by
 refine nc (sF 34 (λd=>Nat.beq d 7 || (Nat.beq d 10 || Nat.beq d 13)) (zeh m)) Tryz.func101 ((KF (161:Nat) [a8 m.vars] (AV.own (0:Nat) m.vars.length) [ar.row (3:TypeId) leaf (ql m) λi=>qu m i])/\(KF (161:Nat) [a8 m.aa] (AV.own (0:Nat) m.aa.length) [ar.row (3:TypeId) leaf (qm m) λi=>qv m i])/\(KF (161:Nat) [a8 m.sig] (AV.own (0:Nat) m.sig.length) [ar.row (3:TypeId) leaf (qk m) λi=>qo m i])/\(∃ (i:Nat),i<=List.length (Mem.a6 m)/\(0:Int)=(↑i:Int)/\LT (aj m)/\((0:Nat)=(0:Nat)/\(0:Nat)=(0:Nat)/\(0:Nat)=(0:Nat)/\(0:Nat)=(0:Nat))/\(RR (List.length (Mem.vars m))/\RR (List.length (Mem.aa m))/\oi m i/\RR (List.length (Mem.sig m)))/\(ql m=List.length (Mem.vars m)/\∀ (i:Nat),i<ql m->qu m i=AV.int j6 (List.getD (Mem.vars m) i (0:Int)))/\(qm m=List.length (Mem.aa m)/\∀ (i:Nat),i<qm m->qv m i=AV.int j6 (List.getD (Mem.aa m) i (0:Int)))/\oi m i/\qk m=List.length (Mem.sig m)/\∀ (i:Nat),i<qk m->qo m i=AV.int j6 (List.getD (Mem.sig m) i (0:Int)))/\∀ i:Nat,i<=m.a6.length->↑m.a6.length<=(9223372036854775807:Int)/\(qj m i=true->af (↑i) m.a6.length/\KN 161 [a8 (m.a6.getD (↑i:Int).toNat [])] (mE m i)/\1*leaf.size<=16777216/\(RR (List.take i m.a6).length/\↑(lU m i)*↑(24:Nat)<=(140737488355328:Int)/\lU m i<=9223372036854775807)/\1<=1/\aM j6 (q9 i)/\(∃ j,j<=m.a6.length/\qi m j<qi m i/\q9 i=↑j/\LT (aj m)/\(LT (a8 [])/\LT (a8 [])/\LT (aE [])/\LT (a8 []))/\(RR m.vars.length/\RR m.aa.length/\oH m i j/\RR m.sig.length)/\lp m/\lg m/\(oH m i j/\∀ (i_1:Nat),i_1<lU m i->(if i_1<(List.take i m.a6).length then oA m i i_1 else((List.replicate 1 AV.ax).set 0 (aq (mE m i))).getD (i_1 - (List.take i m.a6).length) AV.any)=oA m j i_1)/\RR m.sig.length/\∀ (i:Nat),i<m.sig.length->RR (AV.int j6 (m.sig.getD i 0))))/\(qj m i=false->m.sig.length<=m.sig.length/\(RR m.vars.length/\RR m.aa.length/\uP m i/\LT (a8 m.sig))/\lp m/\lg m/\uP m i/\∀ (i_1:Nat),i_1<(List.take i m.a6).length->oA m i i_1=a8 (m.a6.getD i_1 []))) ?_
 try delta sQ ql qu tZ qm qv qB qk qo oi mE lU q9 qi oH lp lg oA qj uP
 simp only[SZ]
 simp only[oR]
 have s3:=hm.a6
 refine⟨nF _ hm.vars,nF _ hm.aa,nF _ hm.sig,⟨0,by omega,rfl,by simp⟩,λi hi=>⟨by omega,λhlt=>?_,λhge=>?_⟩⟩
 . have hn:(m.a6.take i).length=i:=by rw[xr];omega
   have e:m.a6.take (i+1)=m.a6.take i++[m.a6.getD i []]:=by
    simp_all
   refine⟨hlt,zlu _ (hm.q i),by decide,⟨by omega,by omega⟩,za (by omega) (by omega),i+1,by omega,by omega,by omega, ?_⟩
   rw[e];exact⟨by simp,by simp,λj hj=>nS a8 _ [] _ _ j hj⟩
 . rw[xu (by omega)];exact⟨rfl,rfl,λ_ _=>rfl⟩
section
variable (m:Mem) (c:Int) (n:Int)
def Ld:=n<=oK m c
def Oz:Nat:=(n - 0).toNat
def Dv:Nat->AV:=λi=>AV.int j6 ((nk m c).getD (Int.toNat 0+i) 0)
def L8:=a8 (bx ((zw (dR dI (a8 m.sig)).length λi=>AV.int j6 ((dR dI (a8 m.sig)).getD i 0))++zw (Oz n) (Dv m c)))
def Le:Nat:=(oK m c - n).toNat
def Ck:Nat->AV:=λi=>AV.int j6 ((nk m c).getD (n.toNat+i) 0)
def HP:=a8 (zw (Le m c n) (Ck m c n))
def HK:List (List Int):=m.a6.set c.toNat (List.drop n.toNat (m.a6.getD c.toNat []))
end
theorem zm0 (m:Mem) (c n:Int) (hm:dk m) (hf:ca m=true) (h0:0<=c/\c<m.a6.length) (hn:0<=n/\n<=(m.a6.getD c.toNat []).length):KN 160 [vM m, .int .i64 c, .int .i64 n] (vM (ud m c.toNat n.toNat)):=by
 refine Kn (tT 34 λ_=>none) Tryz.func160 ((KF (101:Nat) [AV.mc zm (aj m)] (AV.mc zm (AV.agg [AV.own (0:Nat) (dR dI (a8 m.vars)).length,AV.own (1:Nat) (dR dI (a8 m.aa)).length,AV.own (2:Nat) (dR (dR dI) (aE m.a6)).length,a8 (dR dI (a8 m.sig))])) [ar.row (3:TypeId) leaf (dR dI (a8 m.vars)).length λi=>AV.int j6 ((dR dI (a8 m.vars)).getD i (0:Int)),ar.row (3:TypeId) leaf (dR dI (a8 m.aa)).length λi=>AV.int j6 ((dR dI (a8 m.aa)).getD i (0:Int)),ar.row (29:TypeId) leaf (dR (dR dI) (aE m.a6)).length λi=>B6 m i])/\uT m c/\sM m c/\((0:Int)<=(0:Int)/\0<=n/\Ld m c n)/\KN 215 [a8 (dR dI (a8 m.sig)),AV.seq leaf (Oz n) (Dv m c)] (L8 m c n)/\uT m c/\sM m c/\(0<=n/\Ld m c n/\oK m c<=oK m c)/\KN 161 [AV.seq leaf (Le m c n) (Ck m c n)] (HP m c n)/\uT m c/\sM m c/\(dR dI (a8 m.vars)).length<=(dR dI (a8 m.vars)).length/\(dR dI (a8 m.aa)).length<=(dR dI (a8 m.aa)).length/\(dR (dR dI) (aE m.a6)).length<=(dR (dR dI) (aE m.a6)).length/\LS (a8 (dR dI (a8 m.vars))) (a8 m.vars)/\LS (a8 (dR dI (a8 m.aa))) (a8 m.aa)/\((dR (dR dI) (aE m.a6)).length=(HK m c n).length/\∀ i:Nat,i<(dR (dR dI) (aE m.a6)).length->(if i=c.toNat then aq (HP m c n)else B6 m i)=a8 ((HK m c n).getD i []))/\LS (L8 m c n) (a8 (List.foldl c9 m.sig (List.take n.toNat (m.a6.getD c.toNat []))))) ?_
 try delta B6 uT sM nk oK Ld Oz Dv L8 Le Ck HP HK
 simp only[SZ]
 have hR:=(uE.1 hf).mO
 have q1:=TJ m.a6 c.toNat
 have q2:(allI m).length=m.sig.length+m.a6.flatten.length:=by unfold allI;rw[xl]
 have q3:=hm.all
 have hk:(((m.a6.getD c.toNat []).length:Int) - n).toNat=(m.a6.getD c.toNat []).length - n.toNat:=by omega
 have e1:zw n.toNat (λi=>AV.int .i64 ((m.a6.getD c.toNat []).getD i 0))=(m.a6.getD c.toNat []).take n.toNat:=za9 (by omega)
 simp only[oR]
 rw[e1,YZ hk,hk,zub]
 refine⟨zy9 m hm,h0,by omega,⟨by omega,hn.1,hn.2⟩, ?_,h0,by omega,hn,zlu _ (by rw[wn];omega),h0,by omega,⟨by simp,λj hj=>?_⟩, ?_⟩
 . refine(ai2 m.sig ((m.a6.getD c.toNat []).take n.toNat) (by omega) (by rw[xr];omega)).weaken (args':=[a8 m.sig, .seq .leaf n.toNat λi=> .int .i64 ((m.a6.getD c.toNat []).getD i 0)]) rfl ⟨⟨rfl,rfl,λ_ _=>rfl⟩,⟨rfl,by rw[xr];omega,λj hj=>?_⟩,trivial⟩
   show AV.int .i64 _=AV.int .i64 _
   rw[zd1 hj]
 . by_cases e:j=c.toNat
   . subst e;rw[x9 rfl,x7 (l:=m.a6.set _ _),List.getElem?_set_self (by omega)];rfl
   . rw[x8 e,x7 (l:=m.a6.set _ _),List.getElem?_set_ne (by omega),<- x7]
 . rw[zlz _ _ hR];exact⟨rfl,λ_ _=>rfl⟩
section
variable (m:Mem) (id:Int)
def HA:=a8 (cU (zw (dR dI (a8 m.sig)).length λi=>AV.int j6 ((dR dI (a8 m.sig)).getD i 0)) id)
end
theorem aiv (m:Mem) (id:Int) (hm:dk m):KN 98 [vM m, .int .i64 id] (.av [vM (dD m id).1, .int .i64 (dD m id).2]):=by
 refine Kn (tT 25 λ_=>none) Tryz.func98 (KN 148 [AV.mc zm (aj m)] (AV.bool (ca (dM (aj m))))/\((!ca (dM (aj m)))=true->T1 m id/\1=(dD m id).snd)/\((!ca (dM (aj m)))=false->KN 70 [a8 m.sig,AV.int j6 id] (AV.bool (xS m id))/\(U2 m id=true->T1 m id/\30=(dD m id).snd)/\(U2 m id=false->(KF (101:Nat) [AV.mc zm (aj m)] (AV.mc zm (AV.agg [AV.own (0:Nat) (dR dI (a8 m.vars)).length,AV.own (1:Nat) (dR dI (a8 m.aa)).length,AV.own (2:Nat) (dR (dR dI) (aE m.a6)).length,a8 (dR dI (a8 m.sig))])) [ar.row (3:TypeId) leaf (dR dI (a8 m.vars)).length λi=>AV.int j6 ((dR dI (a8 m.vars)).getD i (0:Int)),ar.row (3:TypeId) leaf (dR dI (a8 m.aa)).length λi=>AV.int j6 ((dR dI (a8 m.aa)).getD i (0:Int)),ar.row (29:TypeId) leaf (dR (dR dI) (aE m.a6)).length λi=>a8 ((dR (dR dI) (aE m.a6)).getD i [])])/\KN 159 [a8 (dR dI (a8 m.sig)),AV.int j6 id] (HA m id)/\(dR dI (a8 m.vars)).length<=(dR dI (a8 m.vars)).length/\(dR dI (a8 m.aa)).length<=(dR dI (a8 m.aa)).length/\(dR (dR dI) (aE m.a6)).length<=(dR (dR dI) (aE m.a6)).length/\(LS (a8 (dR dI (a8 m.vars))) (a8 (dD m id).fst.vars)/\LS (a8 (dR dI (a8 m.aa))) (a8 (dD m id).fst.aa)/\LS (aE (dR (dR dI) (aE m.a6))) (aE (dD m id).fst.a6)/\LS (HA m id) (a8 (dD m id).fst.sig))/\0=(dD m id).snd))) ?_
 try delta T1 xS U2 HA
 simp only[SZ]
 simp only[oR]
 refine⟨lu m hm.wo,λh=>?_,λh=>⟨Ts _ _ (by have :=hm.sig;omega),λh2=>?_,λh2=>⟨zy9 m hm,ztd _ _ hm.sig, ?_⟩⟩⟩
 . have e:dD m id=(du,1):=by unfold dD;rw[x9 h]
   rw[e];exact⟨df,rfl⟩
 . have e:dD m id=(du,30):=by unfold dD;rw[x8 (by simp[h]),x9 h2]
   rw[e];exact⟨df,rfl⟩
 . have e:dD m id=({m with sig:=cU m.sig id},0):=by unfold dD;rw[x8 (by simp[h]),x8 (by simp[h2])]
   grind
theorem zr8 {k:Int} (h:ca m=false):zi m c k=(du,0,1):=by unfold zi;rw[zhp h,x9 (by decide)]
theorem zr9 {k:Int} (h:ca m=true) (h2:c<0∨(m.a6.length:Int)<=c):zi m c k=(du,0,11):=by grind[zi,po]
theorem zya {k:Int} (h:ca m=true) (h2:¬(c<0∨(m.a6.length:Int)<=c)):zi m c k=(ud m c.toNat (min k ((m.a6.getD c.toNat []).length:Int)).toNat,min k ((m.a6.getD c.toNat []).length:Int),0):=by unfold zi;rw[po h,x8 h2,x8 (by decide)]
section
variable (m:Mem) (c:Int)
def qj0:Mem:=(zi m c 1).fst
def QA:List Int:=(qj0 m c).vars
def Ik:List Int:=(qj0 m c).aa
def Ja:List (List Int):=(qj0 m c).a6
def yX:List Int:=(qj0 m c).sig
def LC:=(QA m c).length=0/\(Ik m c).length=0/\(Ja m c).length=0/\(yX m c).length=0
def Bz:Int:=(VB m c).fst
def Ko:=0=Bz m c
def qrg:Int:=(VB m c).snd
def qj1:=decide (c<0)
def yD:=(!qj1 c)=true
def lq:=yD c->yD c
def uo:=qj1 c||decide (↑m.a6.length<=c)
def qrh:Int:=if ↑(m.a6.getD c.toNat []).length<(1:Int)then nR m c else(1:Int)
def JT:Nat:=(qrh m c).toNat
def A9:=aE ((dR (dR dI) (aE m.a6)).set c.toNat (List.drop (JT m c) (nk m c)))
def Rw:=a8 (List.foldl c9 (dR dI (a8 m.sig)) (List.take (JT m c) (nk m c)))
end
theorem akp (m:Mem) (c:Int) (hm:dk m):KN 99 [vM m, .int .i64 c] (.av [vM (zi m c 1).1, .int .i64 (zi m c 1).2.1, .int .i64 (zi m c 1).2.2]):=by
 refine Kn (tT 34 λ_=>none) Tryz.func99 (KN 148 [AV.mc zm (aj m)] (AV.bool (ca (dM (aj m))))/\((!ca (dM (aj m)))=true->LC m c/\Ko m c/\1=qrg m c)/\((!ca (dM (aj m)))=false->lq c/\lq c/\(yD c->↑m.a6.length<=(9223372036854775807:Int))/\lq c/\lq c/\lq c/\(uo m c=true->LC m c/\Ko m c/\11=qrg m c)/\(uo m c=false->af c m.a6.length/\nR m c<=9223372036854775807/\KN 160 [AV.mc zm (aj m),AV.int j6 c,AV.int j6 (qrh m c)] (AV.mc zm (AV.agg [a8 (dR dI (a8 m.vars)),a8 (dR dI (a8 m.aa)),A9 m c,Rw m c]))/\(LS (a8 (dR dI (a8 m.vars))) (a8 (QA m c))/\LS (a8 (dR dI (a8 m.aa))) (a8 (Ik m c))/\LS (A9 m c) (aE (Ja m c))/\LS (Rw m c) (a8 (yX m c)))/\qrh m c=Bz m c/\0=qrg m c))) ?_
 try delta qj0 QA Ik Ja yX LC VB Bz Ko qrg qj1 yD lq uo nR qrh JT nk A9 Rw
 simp only[SZ]
 have s1:=hm.a6
 have s2:=hm.q c.toNat
 have em:(if((m.a6.getD c.toNat []).length:Int)<1 then((m.a6.getD c.toNat []).length:Int)else 1)=min 1 ((m.a6.getD c.toNat []).length:Int):=by split<;>omega
 rw[em]
 refine⟨lu m hm.wo,λh=>?_,λh=>⟨λ_=>by omega,λh2=>?_,λh2=>⟨⟨by omega,by omega⟩,by omega,zm0 m _ _ hm h (by omega) (by omega), ?_⟩⟩⟩
 . rw[zr8 h];exact⟨df,rfl,rfl⟩
 . rw[zr9 h h2];exact⟨df,rfl,rfl⟩
 . rw[zya h (by omega)]
   exact⟨⟨⟨rfl,λ_ _=>rfl⟩,⟨rfl,λ_ _=>rfl⟩,⟨rfl,λ_ _=>rfl⟩,rfl,λ_ _=>rfl⟩,rfl,rfl⟩
theorem zra:∀ (l:List (List Int)) (a:Int),a<=l.foldl (λa q=>max a (q.length:Int)) a/\∀ q∈l,(q.length:Int)<=l.foldl (λa q=>max a (q.length:Int)) a
 | [],a=>⟨yr _,λq h=>by cases h⟩
 |x::l,a=>by
  have ih:=zra l (max a x.length)
  rw[List.foldl_cons]
  refine⟨by omega,λq h=>?_⟩
  rcases xv.1 h with rfl |h
  . omega
  . exact ih.2 q h
theorem ady (l:List (List Int)) (i:Nat) (hi:i<l.length):((l.getD i []).length:Int)<=jn l:=(zra l 0).2 _ (ztn hi)
section
variable (m:Mem) (c:Int)
def Nz:=(zi m c (jn m.a6)).fst.vars.length=0/\(zi m c (jn m.a6)).fst.aa.length=0/\(zi m c (jn m.a6)).fst.a6.length=0/\(zi m c (jn m.a6)).fst.sig.length=0
def QZ:Int:=(zi m c (jn m.a6)).snd.fst
def Ek:=0=QZ m c
def qri:Int:=(zi m c (jn m.a6)).snd.snd
def LR:Nat:=(nR m c).toNat
def Ob:=aE ((dR (dR dI) (aE m.a6)).set c.toNat (List.drop (LR m c) (nk m c)))
def Iw:=a8 (List.foldl c9 (dR dI (a8 m.sig)) (List.take (LR m c) (nk m c)))
end
theorem al7 (m:Mem) (c:Int) (hm:dk m):KN 100 [vM m, .int .i64 c] (.av [vM (zi m c (jn m.a6)).1, .int .i64 (zi m c (jn m.a6)).2.1, .int .i64 (zi m c (jn m.a6)).2.2]):=by
 refine Kn (tT 33 λ_=>none) Tryz.func100 (KN 148 [AV.mc zm (aj m)] (AV.bool (ca (dM (aj m))))/\((!ca (dM (aj m)))=true->Nz m c/\Ek m c/\1=qri m c)/\((!ca (dM (aj m)))=false->lq c/\lq c/\(yD c->↑m.a6.length<=(9223372036854775807:Int))/\lq c/\lq c/\lq c/\(uo m c=true->Nz m c/\Ek m c/\11=qri m c)/\(uo m c=false->af c m.a6.length/\nR m c<=9223372036854775807/\KN 160 [AV.mc zm (aj m),AV.int j6 c,AV.int j6 (nR m c)] (AV.mc zm (AV.agg [a8 (dR dI (a8 m.vars)),a8 (dR dI (a8 m.aa)),Ob m c,Iw m c]))/\(LS (a8 (dR dI (a8 m.vars))) (a8 (zi m c (jn m.a6)).fst.vars)/\LS (a8 (dR dI (a8 m.aa))) (a8 (zi m c (jn m.a6)).fst.aa)/\LS (Ob m c) (aE (zi m c (jn m.a6)).fst.a6)/\LS (Iw m c) (a8 (zi m c (jn m.a6)).fst.sig))/\nR m c=QZ m c/\0=qri m c))) ?_
 try delta Nz QZ Ek qri qj1 yD lq uo nR LR nk Ob Iw
 simp only[SZ]
 have s1:=hm.a6
 have s2:=hm.q c.toNat
 refine⟨lu m hm.wo,λh=>?_,λh=>⟨λ_=>by omega,λh2=>?_,λh2=>⟨⟨by omega,by omega⟩,by omega,zm0 m _ _ hm h (by omega) (by omega), ?_⟩⟩⟩
 . rw[zr8 h];exact⟨df,rfl,rfl⟩
 . rw[zr9 h h2];exact⟨df,rfl,rfl⟩
 . have em:min (jn m.a6) ((m.a6.getD c.toNat []).length:Int)=((m.a6.getD c.toNat []).length:Int):=by
    have :=ady m.a6 c.toNat (by omega);omega
   rw[zya h (by omega),em]
   exact⟨⟨⟨rfl,λ_ _=>rfl⟩,⟨rfl,λ_ _=>rfl⟩,⟨rfl,λ_ _=>rfl⟩,rfl,λ_ _=>rfl⟩,rfl,rfl⟩
def zud:AV:= .bD c7 0 λi=>aA (([]:List bR).getD i az)
def tQ:AV:= .mc aI (.agg [aF s.ab,aj s.mem,zud])
def abk:AV:= .mc aI (.agg [.own 0 s.ab.length,aj s.mem,zud])
def adr:ar:= .cell 35 aI (.agg [aF s.ab,aj s.mem,zud])
def al0 (fn arg:Int) (k:Nat):Option Inv:=match Nat.beq k 8 with
 |true=>iw s.ab.length (λi=>⟨[(3, .int .i64 id),(8, .ptr 8 []),(12, .ptr 12 []),(16, .ptr 16 []),(18, .int .i64 i)],[(8,adr s),(12,fb aN),(16, .cell 51 zk (ak (ba p b id fn arg).1))]⟩) λi=>(aS s.ab id<0/\(ba p b id fn arg).2=0)/\∀ j,j<i ->(s.ab.getD j ao).id<id
 |false=>none
theorem aif:∀ (i:Nat),i<=l.length ->(∀ j,j<i ->(l.getD j ao).id<id) ->(i<l.length ->¬ (l.getD i ao).id<id) ->gK l id=i:=by
 unfold gK
 induction l with
 |nil=>intro i hi _ _;have :i=0:=by simpa using hi
       simp_all
 |cons t l ih=>
  intro i hi h1 h2
  cases i with
  |zero=>
   simp_all
  |succ i=>
   have h0:t.id<id:=h1 0 (by omega)
   rw[List.takeWhile_cons_of_pos (by simpa using h0),yp,ih i (by simpa using hi) (λj hj=>h1 (j+1) (by omega)) λh=>h2 (by simpa using h)]
theorem uj:gK l id<=l.length:=(List.takeWhile_sublist _).length_le
theorem z9q (hk:k<=l.length):(gB l t k).length=l.length+1:=by grind[gB]
theorem z9r (hk:k<=l.length) (j:Nat):(gB l t k).getD j ao=if j<k then l.getD j ao else if j=k then t else l.getD (j - 1) ao:=by
 unfold gB
 have hl:(l.take k).length=k:=by grind
 simp
 split
 . rw[ya (by omega),y5 (by omega)]
 . rw[y6 (by omega),hl]
   split
   . grind
   . obtain⟨d,rfl⟩:∃ d,j=k+(d+1):=⟨j - k - 1,by omega⟩
     grind
theorem zue (i j:Nat) (z:AV) (hi:i<=l.length):(if i+1<=j/\j<i+1+(l.length - i)then ak (l.getD (i+(j - (i+1))) ao)else if j=i then ak t else if j<i then ak (l.getD j ao)else z)=if j<l.length+1 then ak ((gB l t i).getD j ao)else z:=by
 rw[z9r _ _ _ hi]
 by_cases h1:j<i
 . rw[x8 (by omega),x8 (by omega),x9 h1,x9 (by omega),x9 h1]
 . by_cases h2:j=i
   . rw[x8 (by omega),x9 h2,x9 (by omega),x8 h1,x9 h2]
   . by_cases h3:j<l.length+1
     . rw[x9 (by omega),x9 h3,x8 h1,x8 h2,show i+(j - (i+1))=j - 1 from by omega]
     . rw[x8 (by omega),x8 h2,x8 h1,x8 h3]
section
variable (s:ag) (id:Int)
def qrj:=decide (0<=aS (dR dT (aF s.ab)) id)
end
section
variable (p:ai) (b:Int) (s:ag) (id:Int) (fn:Int) (arg:Int)
def L1:Nat:=(eH p b s id fn arg).fst.ab.length
def O8:=L1 p b s id fn arg=0
def Di:=((O8 p b s id fn arg/\((eH p b s id fn arg).fst.mem.vars.length=0/\(eH p b s id fn arg).fst.mem.aa.length=0/\(eH p b s id fn arg).fst.mem.a6.length=0/\(eH p b s id fn arg).fst.mem.sig.length=0)/\RR 0)/\30=(eH p b s id fn arg).snd)/\O8 p b s id fn arg
def HV:=(ba (dP (ah p)) b id fn arg).snd !=0
variable (x6:Nat)
def qrk:=x6<=s.ab.length/\(aS s.ab id<0/\(ba p b id fn arg).snd=0)/\∀ j:Nat,j<x6->(s.ab.getD j ao).id<id
def KM:=RR (AV.bD c7 0 λi=>aA ([].getD i az))
def RX:=LT (aF s.ab)/\LT (aj s.mem)/\KM
variable (x1:Nat)
def qrl:=qc s x1=true
def ta:=qrl s x1->qrl s x1
variable (x2:Nat)
def Av:=qc s x2&&decide ((s.ab.getD (↑x2:Int).toNat ao).id<id)
def vy:Int:=↑s.ab.length+1
def Lr:=(↑x1:Int)<=(↑s.ab.length:Int)
def tt:Nat:=(vy s).toNat
def V6:Int:=↑(tt s)
variable (x0:Nat)
def Jo:Nat:=(q9 x0).toNat
def DQ:Nat:=(V6 s - q9 x1).toNat
def MT:=tt s=L1 p b s id fn arg
end
theorem ah5 (fn arg:Int) (hp:bI p) (hs:cw s) (hid:id<=9223372036854775807):KF 198 [vP p, .int .i64 b,tQ s, .int .i64 id, .int .i64 fn, .int .i64 arg] (.av [abk (eH p b s id fn arg).1, .int .i64 (eH p b s id fn arg).2]) [eO (eH p b s id fn arg).1.ab]:=by
 refine nc (nE 85 (al0 p b s id fn arg)) Tryz.func198 (KN 120 [aF s.ab,AV.int j6 id] (AV.av [AV.int j6 (max (aS (dR dT (aF s.ab)) id) (0:Int)),AV.bool (qrj s id)])/\(qrj s id=true->Di p b s id fn arg)/\(qrj s id=false->KN 63 [AV.mc z7 (ah p),AV.int j6 b,AV.int j6 id,AV.int j6 fn,AV.int j6 arg] (AV.av [AV.mc zk (ak (ba (dP (ah p)) b id fn arg).fst),AV.int j6 (ba (dP (ah p)) b id fn arg).snd])/\(HV p b id fn arg=true->Di p b s id fn arg)/\(HV p b id fn arg=false->(∃ (i:Nat),qrk p b s id fn arg i/\(RR id/\(0:Int)=(↑i:Int))/\RX s/\((0:Nat)=(0:Nat)/\((0:Nat)=(0:Nat)/\(0:Nat)=(0:Nat)/\(0:Nat)=(0:Nat)/\(0:Nat)=(0:Nat))/\(0:Nat)=(0:Nat))/\LS (ak (Prod.fst (ba (dP (ah p)) b id fn arg))) (ak (Prod.fst (ba p b id fn arg))))/\∀ i:Nat,qrk p b s id fn arg i->mW s/\ta s i/\ta s i/\ta s i/\(qrl s i->af (↑i) s.ab.length)/\ta s i/\ta s i/\ta s i/\ta s i/\ta s i/\(Av s id i=true->qa i/\(∃ j,qrk p b s id fn arg j/\s.ab.length - j<s.ab.length - i/\(RR id/\q9 i=↑j)/\RX s/\(LT (aF [])/\(LT (a8 [])/\LT (a8 [])/\LT (aE [])/\LT (a8 []))/\LT (aY []))/\LT (ak (ba p b id fn arg).fst)))/\(Av s id i=false->mW s/\aM j6 (vy s)/\(0<=vy s/\vy s<=vy s/\↑(152:Nat)*vy s<=(140737488355328:Int)/\vy s<=9223372036854775807)/\((0:Int)<=(0:Int)/\(0:Int)<=↑i/\Lr s i)/\(tt s<=tt s/\V6 s<=9223372036854775807)/\af (↑i) (tt s)/\(↑i:Int).toNat<tt s/\qa i/\(0<=q9 i/\q9 i<=V6 s/\V6 s<=V6 s)/\((0:Int)<=↑i/\Lr s i/\(↑s.ab.length:Int)<=(↑s.ab.length:Int))/\(Jo i+DQ s i<=tt s/\↑(DQ s i)<=(9223372036854775807:Int))/\((MT p b s id fn arg/\LS (aj s.mem) (aj (eH p b s id fn arg).fst.mem)/\KM)/\0=(eH p b s id fn arg).snd)/\MT p b s id fn arg/\∀ (i_1:Nat),i_1<tt s->(if((↑i:Int)+1).toNat<=i_1/\i_1<((↑i:Int)+1).toNat+min ((↑s.ab.length:Int) - (↑i:Int)).toNat ((↑((↑s.ab.length:Int)+1).toNat:Int) - ((↑i:Int)+1)).toNat then ak (s.ab.getD ((↑i:Int).toNat+(i_1 - Jo i)) ao)else if i_1=(↑i:Int).toNat then ak (ba p b id fn arg).fst else if i_1<min ((↑i:Int) - 0).toNat ((↑s.ab.length:Int)+1).toNat then ak (s.ab.getD (Int.toNat 0+i_1) ao)else AV.agg [AV.int j6 0,AV.int j6 0,AV.int j6 0,AV.arr 8 λx=>AV.int j6 0,AV.int j6 0,AV.int j6 0,AV.int j6 0,AV.int j6 0,AV.int j6 0,AV.ax])=ak ((eH p b s id fn arg).fst.ab.getD i_1 ao))))) ?_
 try delta qrj L1 O8 Di HV qrk KM RX mW qc qrl ta q9 qa Av vy Lr tt V6 Jo DQ MT
 simp only[SZ]
 simp only[nA hs.r8]
 have h1:=hs.ab
 refine⟨Xi _ _ h1 hs.r8,λh=>?_,λh=>⟨abv p b id fn arg hp hid,λh2=>?_,λh2=>⟨⟨0,⟨by omega,⟨by omega,h2⟩,λj hj=>by omega⟩,rfl⟩,λi hi=>⟨by omega,λhc=>⟨za (by omega) (by omega),i+1,⟨by omega,⟨by omega,h2⟩,λj hj=>?_⟩,by omega,by omega⟩,λhc=>?_⟩⟩⟩⟩
 . have e:eH p b s id fn arg=(aN,30):=by unfold eH;rw[x9 h]
   rw[e];exact⟨⟨⟨rfl,df⟩,rfl⟩,rfl⟩
 . have e:eH p b s id fn arg=(aN,30):=by unfold eH;rw[x8 h,x9 h2]
   rw[e];exact⟨⟨⟨rfl,df⟩,rfl⟩,rfl⟩
 . by_cases e:j=i
   . subst e;exact hc.2
   . exact hi.2.2 j (by omega)
 . have e:eH p b s id fn arg=({s with ab:=gB s.ab (ba p b id fn arg).1 (gK s.ab id)},0):=by unfold eH;rw[x8 h,x8 (by simp[h2])]
   have hat:gK s.ab id=i:=aif _ _ _ hi.1 hi.2.2 λhlt=>by omega
   have hl:=z9q s.ab (ba p b id fn arg).1 i hi.1
   have n1:((s.ab.length:Int)+1).toNat=s.ab.length+1:=by omega
   have n2:((i:Int)+1).toNat=i+1:=by omega
   have n3:min ((s.ab.length:Int) - (i:Int)).toNat (((s.ab.length+1:Nat):Int) - ((i:Int)+1)).toNat=s.ab.length - i:=by omega
   have n4:min i (s.ab.length+1)=i:=by omega
   rw[e,hat]
   simp only[n1,n2,n3,n4]
   refine⟨by omega,za (by omega) (by omega),⟨by omega,by omega,by omega,by omega⟩,⟨by omega,hi.1⟩,by omega,by omega,by omega,za (by omega) (by omega),⟨by omega,by omega⟩,hi.1,⟨by omega,by omega⟩,⟨⟨hl.symm,⟨trivial,λ_ _=>trivial⟩,⟨trivial,λ_ _=>trivial⟩,⟨trivial,λ_ _=>trivial⟩,trivial,λ_ _=>trivial⟩,trivial⟩,hl.symm,λj hj=>by rw[zue _ _ _ _ _ hi.1,x9 hj]⟩
abbrev lz:Prop:=∀ (m:Mem) (c id:Int),dk m ->KN 239 [vM m, .int .i64 c, .int .i64 id] (.av [vM (aZ m c id).1, .int .i64 (aZ m c id).2])
theorem zhr:dk du/\(allI du).length<=n:=⟨⟨by decide,by decide,by decide,by decide,by decide⟩,xt _⟩
theorem Zg (hm:dk m) (i id fr to:Int):dk (bc m i id fr to).1/\(allI (bc m i id fr to).1).length<=(allI m).length:=by
 unfold bc
 split
 . exact zhr _
 . split
   . exact zhr _
   . split
     . exact zhr _
     . exact⟨⟨hm.vars,by simpa using hm.aa,hm.a6,hm.sig,hm.all⟩,xm _⟩
section
variable (m:Mem) (e:Ev)
def A6:=KN 127 [AV.mc zm (aj m),AV.int j6 e.obj,AV.int j6 e.wrote] (AV.av [AV.mc zm (aj (zr (dM (aj m)) e.obj e.wrote).fst),AV.int j6 (zr (dM (aj m)) e.obj e.wrote).snd])
end
section
variable (m:Mem) (t:aB) (i:aK) (e:Ev)
def qrm:=LS (aj (zr (dM (aj m)) e.obj e.wrote).fst) (aj (cY m t i e).fst)
def Z5:Int:=(cY m t i e).snd.fst
def Qx:=1=Z5 m t i e
def r9:Int:=(cY m t i e).snd.snd
def qrn:=(zr (dM (aj m)) e.obj e.wrote).snd=r9 m t i e
def DI:=e.read=Z5 m t i e
def rC:=0=Z5 m t i e
def qro:=LS (aj m) (aj (cY m t i e).fst)
def qrp:=0=r9 m t i e
def KL:=qro m t i e/\DI m t i e/\qrp m t i e
def Hf:=(e.kind==1)=true
def EV:=qro m t i e/\rC m t i e/\qrp m t i e
def BZ:List AV:=[AV.int j6 e.obj,AV.int j6 t.id]
def Of:List AV:=AV.mc zm (aj m)::BZ t e
def R7:Mem×Int:=bc (dM (aj m)) e.obj t.id (-1) t.id
def KK:=aj (R7 m t e).fst
def zX:Int:=(R7 m t e).snd
def Mk:=KN 237 (Of m t e) (AV.av [AV.mc zm (KK m t e),AV.int j6 (zX m t e)])
def Ab:=LS (KK m t e) (aj (cY m t i e).fst)
def Ph:=zX m t e=r9 m t i e
def Jz:Mem×Int:=bc (dM (aj m)) e.obj t.id t.id (-1)
def E0:=aj (Jz m t e).fst
def Fa:Int:=(Jz m t e).snd
def BW:Mem×Int:=bc (dM (aj m)) e.mutex t.id t.id (-1)
def qrq:=aj (BW m t e).fst
def PW:=AV.mc zm (qrq m t e)
def qrr:Int:=(BW m t e).snd
def zS:Mem×Int:=aZ (dM (qrq m t e)) e.obj t.id
def Nw:=aj (zS m t e).fst
def JL:Int:=(zS m t e).snd
def DX:=qrr m t e==0
def Wn:List AV:=[AV.mc zm (aj m),AV.int j6 e.obj]
def TE:=aj (zi (dM (aj m)) e.obj 1).fst
def ZA:Int×Int:=(zi (dM (aj m)) e.obj 1).snd
def U9:Int:=(ZA m e).snd
def qrs:Mem×Int×Int:=zi (dM (aj m)) e.obj (jn (dR (dR dI) (aE m.a6)))
def TI:=aj (qrs m e).fst
def qj4:Int×Int:=(qrs m e).snd
def UF:Int:=(qj4 m e).snd
def Qi:=((e.kind==11)=true->((e.read==0)=true->EV m t i e)/\((e.read==0)=false->Mk m t e/\Ab m t i e/\Qx m t i e/\Ph m t i e))/\((e.kind==11)=false->((e.kind==9)=true->Mk m t e/\Ab m t i e/\rC m t i e/\Ph m t i e)/\((e.kind==9)=false->((e.kind==10)=true->KN 238 (Of m t e) (AV.av [AV.mc zm (E0 m t e),AV.int j6 (Fa m t e)])/\LS (E0 m t e) (aj (cY m t i e).fst)/\rC m t i e/\Fa m t e=r9 m t i e)/\((e.kind==10)=false->((e.kind==12)=true->KN 238 [AV.mc zm (aj m),AV.int j6 e.mutex,AV.int j6 t.id] (AV.av [PW m t e,AV.int j6 (qrr m t e)])/\(DX m t e=true->KN 239 (PW m t e::BZ t e) (AV.av [AV.mc zm (Nw m t e),AV.int j6 (JL m t e)])/\LS (Nw m t e) (aj (cY m t i e).fst)/\rC m t i e/\JL m t e=r9 m t i e)/\(DX m t e=false->LS (qrq m t e) (aj (cY m t i e).fst)/\rC m t i e/\qrr m t e=r9 m t i e))/\((e.kind==12)=false->((e.kind==13)=true->KN 240 [AV.mc zm (aj m),AV.int j6 t.id] (AV.av [AV.mc zm (aj (dD (dM (aj m)) t.id).fst),AV.int j6 (dD (dM (aj m)) t.id).snd])/\LS (aj (dD (dM (aj m)) t.id).fst) (aj (cY m t i e).fst)/\rC m t i e/\(dD (dM (aj m)) t.id).snd=r9 m t i e)/\((e.kind==13)=false->((e.kind==14)=true->KN 241 (Wn m e) (AV.av [AV.mc zm (TE m e),AV.int j6 (ZA m e).fst,AV.int j6 (U9 m e)])/\LS (TE m e) (aj (cY m t i e).fst)/\rC m t i e/\U9 m e=r9 m t i e)/\((e.kind==14)=false->((e.kind==15)=true->KN 242 (Wn m e) (AV.av [AV.mc zm (TI m e),AV.int j6 (qj4 m e).fst,AV.int j6 (UF m e)])/\LS (TI m e) (aj (cY m t i e).fst)/\rC m t i e/\UF m e=r9 m t i e)/\((e.kind==15)=false->((e.kind==16)=true->qro m t i e/\e.obj=Z5 m t i e/\qrp m t i e)/\((e.kind==16)=false->EV m t i e))))))))
def LK:=(e.kind==1)=false
end
theorem ajs (m:Mem) (t:aB) (i:aK) (e:Ev) (hm:dk m) (hE:lz):KN 197 [vM m,vT t,vI i,dh e] (.av [vM (cY m t i e).1, .int .i64 (cY m t i e).2.1, .int .i64 (cY m t i e).2.2]):=by
 refine Kn (nE 132 λ_=>none) Tryz.func197 (((e.kind==5)=true->A6 m e/\((i.op==12)=true->qrm m t i e/\Qx m t i e/\qrn m t i e)/\((i.op==12)=false->qrm m t i e/\DI m t i e/\qrn m t i e))/\((e.kind==5)=false->((e.kind==2)=true->A6 m e/\qrm m t i e/\rC m t i e/\qrn m t i e)/\((e.kind==2)=false->(Hf e->(Hf e->KL m t i e)/\(LK e->Qi m t i e))/\(LK e->((e.kind==8)=true->KL m t i e)/\((e.kind==8)=false->Qi m t i e))))) ?_
 try delta A6 qrm Z5 Qx r9 qrn DI rC qro qrp KL Hf EV BZ Of R7 KK zX Mk Ab Ph Jz E0 Fa BW qrq PW qrr zS Nw JL DX Wn TE ZA U9 qrs TI qj4 UF Qi LK
 simp only[SB,af]
 have L:∀ {x:Mem} {u v:Int},cY m t i e=(x,u,v) ->LS (aj x) (aj (cY m t i e).1)/\u=(cY m t i e).2.1/\v=(cY m t i e).2.2:=λh=>by rw[h];exact⟨fp rfl,rfl,rfl⟩
 refine⟨λh5=>⟨zjb _ _ _ hm,λh=>L ?_,λh=>L ?_⟩,λh5=>⟨λh2=>⟨zjb _ _ _ hm,L ?_⟩,λh2=>⟨λh1=>⟨λ_=>L ?_, ?_⟩,λh1=>⟨λh8=>L ?_,λh8=>⟨λh11=>⟨λh=>L ?_,λh=>⟨YB _ _ _ hm,L ?_⟩⟩,λh11=>⟨λh9=>⟨YB _ _ _ hm,L ?_⟩,λh9=>⟨λh10=>⟨aad _ _ _ hm,L ?_⟩,λh10=>⟨λh12=>⟨aad _ _ _ hm,λh=>⟨hE _ _ _ (Zg hm _ _ _ _).1,L ?_⟩,λh=>L ?_⟩,λh12=>⟨λh13=>⟨aes _ _ hm,L ?_⟩,λh13=>⟨λh14=>⟨ags _ _ hm,L ?_⟩,λh14=>⟨λh15=>⟨afo _ _ hm,L ?_⟩,λh15=>⟨λh16=>L ?_,λh16=>L ?_⟩⟩⟩⟩⟩⟩⟩⟩⟩⟩⟩⟩
 rotate_left 4
 . omega
 all_goals clear L hE hm
 all_goals simp[cY, *,not_false_eq_true,not_true_eq_false]
theorem zm1 (l:List aB) (id:Int):∀ n,n<=l.length ->0<=aoo l id n ->(aoo l id n).toNat<l.length/\(l.getD (aoo l id n).toNat ao).id=id
 |0,_,h=>absurd (show(0:Int)<= -1 from h) (by decide)
 |n+1,hn,h=>by
  unfold aoo at h ⊢
  split at h
  . rename_i e;rw[x9 e,gp];exact⟨by omega,e⟩
  . rename_i e;rw[x8 e];exact zm1 l id n (by omega) h
theorem nL {l:List aB} {id:Int} (h:0<=aS l id):(aS l id).toNat<l.length/\(l.getD (aS l id).toNat ao).id=id:=zm1 l id _ (xm _) h
theorem zrb (l:List aB) (id:Int) (k:Nat) (hk:k<l.length) (e:(l.getD k ao).id=id):∀ n,n<=l.length ->l.length - n<=k ->0<=aoo l id n
 |0,_,h=>by omega
 |n+1,hn,h=>by
  unfold aoo
  split
  . omega
  . rename_i hne
    refine zrb l id k hk e n (by omega) ?_
    rcases Nat.lt_or_ge k (l.length - n)with h1 |h1
    . have :k=l.length - (n+1):=by omega
      grind
    . exact h1
theorem zm2 {l:List aB} {id:Int} {k:Nat} (hk:k<l.length) (e:(l.getD k ao).id=id):0<=aS l id:=zrb l id k hk e _ (xm _) (by omega)
theorem zrc {l:List aB} {id:Int} (t:aB) {n:Nat} (hn:n<=l.length) (h:0<=aS l id):0<=aS (gB l t n) id:=by
 obtain⟨h1,h2⟩:=nL h
 have hl:=z9q l t n hn
 by_cases hk:(aS l id).toNat<n
 . exact zm2 (k:=(aS l id).toNat) (by omega) (by rw[z9r _ _ _ hn,x9 hk];exact h2)
 . exact zm2 (k:=(aS l id).toNat+1) (by omega) (by rw[z9r _ _ _ hn,x8 (by omega),x8 (by omega),Nat.add_sub_cancel];exact h2)
theorem zm3 (l:List (List Int)):∀ (i:Nat) (v:List Int),i<l.length ->(l.set i v).flatten.length+(l.getD i []).length=l.flatten.length+v.length:=by
 induction l with
 |nil=>intro i v h;simp at h
 |cons x l ih=>
  intro i v h
  cases i with
  |zero=>simp;omega
  |succ i=>
   have :=ih i v (by simpa using h)
   simp only[List.set_cons_succ,List.flatten_cons,xl,List.getD_cons_succ];omega
theorem UH (m:Mem):(allI m).length=m.sig.length+m.a6.flatten.length:=by unfold allI;rw[xl]
def pQ (m m':Mem):Prop:=dk m'/\(allI m').length<=(allI m).length+1
theorem wF (m:Mem):pQ m du:=⟨(zhr 0).1,(zhr _).2⟩
theorem zhs (hm:dk m) (x v:Int):pQ m (zr m x v).1:=by
 unfold zr
 split
 . exact wF m
 . split
   . exact wF m
   . exact⟨⟨by simpa using hm.vars,hm.aa,hm.a6,hm.sig,hm.all⟩,Nat.le_succ _⟩
theorem ajk (hm:dk m) (i id fr to:Int):pQ m (bc m i id fr to).1:=⟨(Zg hm i id fr to).1,Nat.le_succ_of_le (Zg hm i id fr to).2⟩
theorem acn (hm:dk m) (h:(allI m).length<400000) (c id:Int):pQ m (aZ m c id).1:=by
 unfold aZ
 split
 . exact wF m
 . rename_i hi
   split
   . exact wF m
   . split
     . exact wF m
     . have hc:=kM (ye.1 hi)
       have h2:=zm3 m.a6 c.toNat (m.a6.getD c.toNat []++[id]) (by omega)
       have h3:=UH m
       have h4:=UH {m with a6:=m.a6.set c.toNat (m.a6.getD c.toNat []++[id])}
       simp only[xl,yp,List.length_nil]at h2 h4
       suffices h:pQ m {m with a6:=m.a6.set c.toNat (m.a6.getD c.toNat []++[id])}from h
       exact⟨⟨hm.vars,hm.aa,by simpa using hm.a6,hm.sig,by omega⟩,by omega⟩
theorem zuf (hm:dk m) (id:Int):pQ m (dD m id).1:=by
 unfold dD
 split
 . exact wF m
 . split
   . exact wF m
   . have h1:(cU m.sig id).length<=m.sig.length:=zj5 _ _
     have h3:=hm.all
     have h4:=UH m
     have h5:=UH {m with sig:=cU m.sig id}
     simp only at h5
     suffices h:pQ m {m with sig:=cU m.sig id}from h
     exact⟨⟨hm.vars,hm.aa,hm.a6,by show(cU m.sig id).length<=_;omega,by omega⟩,by omega⟩
theorem zrd (hm:dk m) (c n:Int):pQ m (zi m c n).1:=by
 unfold zi
 split
 . exact wF m
 . rename_i hi
   have hc:=kM (ye.1 hi)
   generalize (min n ((m.a6.getD c.toNat []).length:Int)).toNat=k
   have h1:=zle ((m.a6.getD c.toNat []).take k) m.sig
   have h2:=zm3 m.a6 c.toNat ((m.a6.getD c.toNat []).drop k) (by omega)
   have h3:=UH m
   have h4:=UH (ud m c.toNat k)
   have h5:=hm.all
   unfold ud at h4 ⊢
   simp only[xr,wn]at h1 h2 h4
   suffices h:pQ m {m with sig:=((m.a6.getD c.toNat []).take k).foldl c9 m.sig,a6:=m.a6.set c.toNat ((m.a6.getD c.toNat []).drop k)}from h
   refine⟨⟨hm.vars,hm.aa,by simpa using hm.a6, ?_,by omega⟩,by omega⟩
   show(((m.a6.getD c.toNat []).take k).foldl c9 m.sig).length<=_
   omega
theorem zre (hm:dk m) (h:(allI m).length<400000) (t:aB) (i:aK) (e:Ev):pQ m (cY m t i e).1:=by
 have refl:pQ m m:=⟨hm,Nat.le_succ _⟩
 unfold cY
 repeat' split
 all_goals first
  |exact refl
  |exact zhs hm _ _
  |exact ajk hm _ _ _ _
  |exact zuf hm _
  |exact zrd hm _ _
  |skip
 have h2:=Zg hm e.mutex t.id t.id (-1)
 have :=acn h2.1 (by omega) e.obj t.id
 exact⟨this.1,yd this.2 (by omega)⟩
theorem zug:(bz s t i e).kind≠16:=by
 unfold bz
 simp only
 repeat' split
 all_goals simp
theorem zrf:(im t i e).kind≠16:=by
 unfold im
 repeat' split
 all_goals simp
theorem z9s {s:ag} {t:aB} {i:aK} (h:(aR s t i).kind=16):i.op=21/\(aR s t i).obj=eU t:=by
 by_cases h21:i.op=21
 . exact⟨h21,by simp[aR,h21]⟩
 . exfalso
   grind[aR,zrf,zug]
theorem Zb:eU t<=1000000:=by
 unfold eU
 split
 . rename_i h
   unfold cA at h
   simp at h
   have :=tO (id:=t.id) (by omega)
   omega
 . decide
theorem zji {p:ai} {b id fn arg:Int} (hp:bI p) (hid:id<=9223372036854775807):dU (ba p b id fn arg).1:=by
 unfold ba
 split
 . exact ou
 . rename_i h
   split
   . exact ou
   . split
     . exact ou
     . rename_i h3
       split
       . exact ou
       . exact(zjc ⟨hp,(l6 (ye.1 h)).1⟩ (zfj hid (by omega))).ok
theorem zm4 {p:ai} {b:Int} {t:aB} {r:Int} (hp:bI p) (ht:dU t):dU (cd p b t r).1:=by
 unfold cd
 split
 . exact ou
 . rename_i h
   split
   . exact ou
   . rename_i hv
     split
     . exact ou
     . rename_i hs
       split
       . exact ou
       . have P:jM p:=⟨hp,(l6 (ye.1 h)).1⟩
         exact(zjc P (zj7 P ht (by simpa using hv) (ye.1 hs) r)).ok
theorem zjj {l:List aB} {t:aB} {k:Nat} (hk:k<=l.length) (h:∀ j,dU (l.getD j ao)) (ht:dU t) (j:Nat):dU ((gB l t k).getD j ao):=by
 rw[z9r _ _ _ hk]
 split
 . exact h j
 . split
   . exact ht
   . exact h _
theorem zfy {l:List aB} {t:aB} {k:Nat} (h:∀ j,dU (l.getD j ao)) (ht:dU t) (j:Nat):dU ((l.set k t).getD j ao):=by
 rw[x7,gq]
 split
 . split
   . exact ht
   . exact ou
 . simp_all
def ZS:AV:= .mc aI (.agg [.own 0 s.ab.length,aj s.mem,zud])
def cl:aB:=(bg p s a).1
def c5:aK:=(bg p s a).2.1
def bP:Ev:=aR s (cl p s a) (c5 p s a)
def cW:Mem×Int×Int:=cY s.mem (cl p s a) (c5 p s a) (bP p s a)
def iu:ag×Int:=eH p b ⟨s.ab,(cW p s a).1,[]⟩ (bP p s a).obj (c5 p s a).obj (bp (cl p s a) (c5 p s a).b)
def gY:aB×Int:=cd p b (cl p s a) (cW p s a).2.1
def oSm:FuncId ->List AV ->Option AV
 |61,_=>some (.int .i64 (aV p b))
 |176,_=>some (.bool (bT p b s))
 |195,_=>some (.av [vT (cl p s a),vI (c5 p s a), .bool (bg p s a).2.2])
 |178,_=>some (.bool (z20 s (cl p s a) (c5 p s a)))
 |196,_=>some (dh (bP p s a))
 |124,_=>some (ZS s)
 |197,_=>some (.av [vM (cW p s a).1, .int .i64 (cW p s a).2.1, .int .i64 (cW p s a).2.2])
 |185,_=>some (vM (cW p s a).1)
 |129,_=>some (.av [vT (gY p b s a).1, .int .i64 (gY p b s a).2])
 |120,[.seq _ n f, .int _ i]=>some (.av [.int .i64 (max (aS (dR dT (.seq zk n f)) i) 0), .bool (decide (0<=aS (dR dT (.seq zk n f)) i))])
 |_,_=>none
noncomputable def Z0 (p:ai) (b:Int) (s:ag) (a:Int) (n:Nat):bu:={jE n with
 fresh:=λf _=>match Nat.beq f 124 with |true=>some [eO s.ab] |false=>none,
 Vs:=λ_ _=>some (.av [abk (iu p b s a).1, .int .i64 (iu p b s a).2],eO (iu p b s a).1.ab),mU:=λf _=>Nat.beq f 198}
theorem zuh:gn (Z0 p b s a n):=ll (by kernel_rfl)
noncomputable def vSm (p:ai) (b:Int) (s:ag) (a:Int) (n:Nat):bm:={C:=Z0 p b s a n,CC:=eS Tryz.prog GG,b9:=λ_ _=>oSm p b s a,inv:=λ_=>none,fz:=λk=>match Nat.beq k 16 with |true=>[258048] |false=>[]}
noncomputable def zyc (n:Nat):bu:={di n λ_ _=>false with mq:=λd=>Nat.beq d 42}
theorem zrg:gn (zyc n):=ll (by kernel_rfl)
noncomputable def aca (n:Nat) (inv:Nat ->Option Inv):bm:={C:=zyc n,CC:=eS Tryz.prog GG,b9:=λ_ _=>abo,inv:=inv}
def zyd:Option Inv:=match Nat.beq k 5 with
 |true=>iv s.ab.length λi=>⟨[(1, .ptr 1 []),(2, .ptr 2 []),(3, .ptr 3 []),(22, .int .i64 s.ab.length),(23, .int .i64 i)],[(1,fb s),(2,fb aN),(3, .cell 35 aI (.agg [.own 13 s.ab.length,aj s.mem, .ax])),(13,eO s.ab)]⟩
 |false=>match Nat.beq k 12 with
  |true=>iv s.ae.length λi=>⟨[(1, .ptr 1 []),(2, .ptr 2 []),(3, .ptr 3 []),(51, .int .i64 s.ae.length),(52, .int .i64 i)],[(1,fb s),(2,fb aN),(3, .cell 35 aI (.agg [.own 13 s.ab.length,aj s.mem, .bJ 42 0 s.ae.length true])),(13,eO s.ab),(42,aox s.ae)]⟩
  |false=>none
end
end Go.Proofs.S25
