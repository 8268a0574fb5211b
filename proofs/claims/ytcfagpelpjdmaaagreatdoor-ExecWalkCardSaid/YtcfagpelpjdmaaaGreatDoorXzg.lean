import Derived.Test.YtcfagpelpjdmaaaGreatDoorXzf
namespace Go.Proofs.S25
open Go Go.AV
open Go.IntKind renaming i64 -> j6
open Go.AV.Shape (leaf)
noncomputable section
variable (l:List aF) (p:aj) (b:Int) (m:Mem) (c:Int) (id:Int) (n:Nat) (s:ah) (t:aF) (i:aP) (k:Nat) (e:Ev)
theorem zlz:∀ (q sig:List Int),Ris sig ->q.foldl cu sig=bH (sig++q)
 | [],sig,h=>by rw[yg,zmy h];rfl
 |x::q,sig,h=>by
  show q.foldl cu (cu sig x)=_;rw[zlz q (cu sig x) (uU _)];refine BD (uU _) (uU _) λy=>?_;rw[z59,z59];unfold cu;simp[z59];constructor
  . rintro((h |h) |h)
    . exact .inl h
    . exact .inr (.inl h)
    . exact .inr (.inr h)
  . rintro(h |h |h)
    . exact .inl (.inl h)
    . exact .inl (.inr h)
    . exact .inr h
theorem zub (q:List Int) (k:Nat):(AV.seq .leaf (q.length - k) λi=>co (q.getD (k+i) 0))=ab (q.drop k):=by
 unfold ab;rw[ws];congr 1;funext i;grind
theorem zy9 (f:dN m):KF 148 [vM m] (aba m) (zr6 m):=by
 refine pK (zA 34 (λd=>Nat.beq d 7 || (Nat.beq d 10 || Nat.beq d 13)) (zeh m)) Tryz.func148 ((KF (225:Nat) [ab m.vars] (AV.own (0:Nat) m.vars.length) [aw.row (3:TypeId) leaf (ql m) λi=>qu m i])/\(KF (225:Nat) [ab m.ae] (AV.own (0:Nat) m.ae.length) [aw.row (3:TypeId) leaf (qm m) λi=>qv m i])/\(KF (225:Nat) [ab m.sig] (AV.own (0:Nat) m.sig.length) [aw.row (3:TypeId) leaf (qk m) λi=>qo m i])/\(∃ (i:Nat),i<=List.length (Mem.aa m)/\(0:Int)=(↑i:Int)/\LT (ao m)/\((0:Nat)=(0:Nat)/\(0:Nat)=(0:Nat)/\(0:Nat)=(0:Nat)/\(0:Nat)=(0:Nat))/\(RR (List.length (Mem.vars m))/\RR (List.length (Mem.ae m))/\rW m i/\RR (List.length (Mem.sig m)))/\(ql m=List.length (Mem.vars m)/\∀ (i:Nat),i<ql m->qu m i=AV.int j6 (List.getD (Mem.vars m) i (0:Int)))/\(qm m=List.length (Mem.ae m)/\∀ (i:Nat),i<qm m->qv m i=AV.int j6 (List.getD (Mem.ae m) i (0:Int)))/\rW m i/\qk m=List.length (Mem.sig m)/\∀ (i:Nat),i<qk m->qo m i=AV.int j6 (List.getD (Mem.sig m) i (0:Int)))/\∀ i:Nat,i<=m.aa.length->↑m.aa.length<=(9223372036854775807:Int)/\(qj m i=true->ai (↑i) m.aa.length/\KN 225 [ab (m.aa.getD (↑i:Int).toNat [])] (oi m i)/\1*leaf.size<=16777216/\(RR (List.take i m.aa).length/\↑(nk m i)*↑(24:Nat)<=(140737488355328:Int)/\nk m i<=9223372036854775807)/\1<=1/\aU j6 (q9 i)/\(∃ j,j<=m.aa.length/\qi m j<qi m i/\q9 i=↑j/\LT (ao m)/\(LT (ab [])/\LT (ab [])/\LT (aJ [])/\LT (ab []))/\(RR m.vars.length/\RR m.ae.length/\sy m i j/\RR m.sig.length)/\mI m/\mG m/\(sy m i j/\∀ (ar:Nat),ar<nk m i->(if ar<(List.take i m.aa).length then rN m i ar else((List.replicate 1 AV.aA).set 0 (av (oi m i))).getD (ar - (List.take i m.aa).length) AV.any)=rN m j ar)/\RR m.sig.length/\∀ (i:Nat),i<m.sig.length->RR (AV.int j6 (m.sig.getD i 0))))/\(qj m i=false->m.sig.length<=m.sig.length/\(RR m.vars.length/\RR m.ae.length/\xB m i/\LT (ab m.sig))/\mI m/\mG m/\xB m i/\∀ (ar:Nat),ar<(List.take i m.aa).length->rN m i ar=ab (m.aa.getD ar []))) ?_;try delta yH ql qu A4 qm qv sE qk qo rW oi nk q9 qi sy mI mG rN qj xB
 simp only[SZ];simp only[oR];have s3:=f.aa;refine⟨qL _ f.vars,qL _ f.ae,qL _ f.sig,⟨0,ac,rfl,be⟩,λi hi=>⟨ac,λhlt=>?_,λhge=>?_⟩⟩
 . have h:(m.aa.take i).length=i:=by rw[xu];omega
   have e:m.aa.take (i+1)=m.aa.take i++[m.aa.getD i []]:=by
    simp_all
   refine⟨hlt,zlu _ (f.q i),ap,ey,dl,i+1,ac,ac,ac, ?_⟩;rw[e];exact⟨be,be,λj hj=>rj ab _ [] _ _ j hj⟩
 . rw[xv ac];exact eq
section
variable (m:Mem) (c:Int) (n:Int)
def SI:=n<=rO m c
def NK:Nat:=(n - 0).toNat
def EF:Nat->AV:=λi=>co ((pf m c).getD (Int.toNat 0+i) 0)
def PW:=ab (bH ((zw (dR dI (ab m.sig)).length λi=>co ((dR dI (ab m.sig)).getD i 0))++zw (NK n) (EF m c)))
def VH:Nat:=(rO m c - n).toNat
def Qq:Nat->AV:=λi=>co ((pf m c).getD (n.toNat+i) 0)
def TW:=ab (zw (VH m c n) (Qq m c n))
def K4:List (List Int):=m.aa.set c.toNat (List.drop n.toNat (m.aa.getD c.toNat []))
end
theorem zm0 (n:Int) (k:dN m) (s:cx m=true) (h:0<=c/\c<m.aa.length) (f:0<=n/\n<=(m.aa.getD c.toNat []).length):KN 230 [vM m,co c,co n] (vM (A7 m c.toNat n.toNat)):=by
 refine Kn (wM 34 λ_=>none) Tryz.func230 ((KF (148:Nat) [AV.mc zm (ao m)] (AV.mc zm (AV.agg [AV.own (0:Nat) (dR dI (ab m.vars)).length,AV.own (1:Nat) (dR dI (ab m.ae)).length,AV.own (2:Nat) (dR (dR dI) (aJ m.aa)).length,ab (dR dI (ab m.sig))])) [aw.row (3:TypeId) leaf (dR dI (ab m.vars)).length λi=>co ((dR dI (ab m.vars)).getD i (0:Int)),aw.row (3:TypeId) leaf (dR dI (ab m.ae)).length λi=>co ((dR dI (ab m.ae)).getD i (0:Int)),aw.row (31:TypeId) leaf (dR (dR dI) (aJ m.aa)).length λi=>SE m i])/\yC m c/\xL m c/\((0:Int)<=(0:Int)/\0<=n/\SI m c n)/\KN 261 [ab (dR dI (ab m.sig)),AV.seq leaf (NK n) (EF m c)] (PW m c n)/\yC m c/\xL m c/\(0<=n/\SI m c n/\rO m c<=rO m c)/\KN 225 [AV.seq leaf (VH m c n) (Qq m c n)] (TW m c n)/\yC m c/\xL m c/\(dR dI (ab m.vars)).length<=(dR dI (ab m.vars)).length/\(dR dI (ab m.ae)).length<=(dR dI (ab m.ae)).length/\(dR (dR dI) (aJ m.aa)).length<=(dR (dR dI) (aJ m.aa)).length/\LS (ab (dR dI (ab m.vars))) (ab m.vars)/\LS (ab (dR dI (ab m.ae))) (ab m.ae)/\((dR (dR dI) (aJ m.aa)).length=(K4 m c n).length/\∀ i:Nat,i<(dR (dR dI) (aJ m.aa)).length->(if i=c.toNat then av (TW m c n)else SE m i)=ab ((K4 m c n).getD i []))/\LS (PW m c n) (ab (List.foldl cu m.sig (List.take n.toNat (m.aa.getD c.toNat []))))) ?_;try delta SE yC xL pf rO SI NK EF PW VH Qq TW K4
 simp only[SZ];have u:=(yT.1 s).ou;have E:=ZB m.aa c.toNat;have z:(allI m).length=m.sig.length+m.aa.flatten.length:=by unfold allI;rw[xl]
 have y:=k.all;have o:(((m.aa.getD c.toNat []).length:Int) - n).toNat=(m.aa.getD c.toNat []).length - n.toNat:=ac;have x:zw n.toNat (λi=>co ((m.aa.getD c.toNat []).getD i 0))=(m.aa.getD c.toNat []).take n.toNat:=za9 ac;simp only[oR];rw[x,zd2 o,o,zub];refine⟨zy9 m k,h,ac,⟨ac,f.1,f.2⟩, ?_,h,ac,f,zlu _ (by rw[ws];omega),h,ac,⟨be,λj r=>?_⟩, ?_⟩
 . refine(an8 m.sig ((m.aa.getD c.toNat []).take n.toNat) ac (by rw[xu];omega)).weaken (args':=[ab m.sig, .seq .leaf n.toNat λi=> co ((m.aa.getD c.toNat []).getD i 0)]) rfl ⟨eq,⟨rfl,by rw[xu];omega,λj r=>?_⟩,trivial⟩;show co _=co _;rw[zd1 r]
 . by_cases e:j=c.toNat
   . subst e;rw[x9 rfl,x7 (l:=m.aa.set _ _),List.getElem?_set_self ac];rfl
   . rw[x8 e,x7 (l:=m.aa.set _ _),List.getElem?_set_ne ac,<- x7]
 . rw[zlz _ _ u];exact eq
section
variable (m:Mem) (id:Int)
def Fm:=ab (dt (zw (dR dI (ab m.sig)).length λi=>co ((dR dI (ab m.sig)).getD i 0)) id)
end
theorem aii (hm:dN m):KN 157 [vM m,co id] (.ax [vM (eh m id).1,co (eh m id).2]):=by
 refine Kn (wM 25 λ_=>none) Tryz.func157 (KN 149 [AV.mc zm (ao m)] (AV.bool (cx (dM (ao m))))/\((!cx (dM (ao m)))=true->Xm m id/\1=(eh m id).snd)/\((!cx (dM (ao m)))=false->KN 84 [ab m.sig,co id] (AV.bool (C3 m id))/\(X5 m id=true->Xm m id/\30=(eh m id).snd)/\(X5 m id=false->(KF (148:Nat) [AV.mc zm (ao m)] (AV.mc zm (AV.agg [AV.own (0:Nat) (dR dI (ab m.vars)).length,AV.own (1:Nat) (dR dI (ab m.ae)).length,AV.own (2:Nat) (dR (dR dI) (aJ m.aa)).length,ab (dR dI (ab m.sig))])) [aw.row (3:TypeId) leaf (dR dI (ab m.vars)).length λi=>co ((dR dI (ab m.vars)).getD i (0:Int)),aw.row (3:TypeId) leaf (dR dI (ab m.ae)).length λi=>co ((dR dI (ab m.ae)).getD i (0:Int)),aw.row (31:TypeId) leaf (dR (dR dI) (aJ m.aa)).length λi=>ab ((dR (dR dI) (aJ m.aa)).getD i [])])/\KN 229 [ab (dR dI (ab m.sig)),co id] (Fm m id)/\(dR dI (ab m.vars)).length<=(dR dI (ab m.vars)).length/\(dR dI (ab m.ae)).length<=(dR dI (ab m.ae)).length/\(dR (dR dI) (aJ m.aa)).length<=(dR (dR dI) (aJ m.aa)).length/\(LS (ab (dR dI (ab m.vars))) (ab (eh m id).fst.vars)/\LS (ab (dR dI (ab m.ae))) (ab (eh m id).fst.ae)/\LS (aJ (dR (dR dI) (aJ m.aa))) (aJ (eh m id).fst.aa)/\LS (Fm m id) (ab (eh m id).fst.sig))/\0=(eh m id).snd))) ?_;try delta Xm C3 X5 Fm
 simp only[SZ];simp only[oR];refine⟨mV m hm,λh=>?_,λh=>⟨Xg _ _ hm.sig,λh2=>?_,λh2=>⟨zy9 m hm,ztd _ _ hm.sig, ?_⟩⟩⟩
 . have e:eh m id=(eg,1):=by unfold eh;rw[x9 h]
   rw[e];exact⟨dD,rfl⟩
 . have e:eh m id=(eg,30):=by unfold eh;rw[x8 (by simp[h]),x9 h2]
   rw[e];exact⟨dD,rfl⟩
 . have e:eh m id=({m with sig:=dt m.sig id},0):=by unfold eh;rw[x8 (by simp[h]),x8 (by simp[h2])]
   grind
theorem zr8 {m:Mem} {c k:Int} (h:cx m=false):zi m c k=(eg,0,1):=by unfold zi;rw[zhp h,x9 ap]
theorem zr9 {m:Mem} {c k:Int} (h:cx m=true) (h2:c<0∨(m.aa.length:Int)<=c):zi m c k=(eg,0,11):=by grind[zi,sb]
theorem zya {m:Mem} {c k:Int} (h:cx m=true) (h2:¬(c<0∨(m.aa.length:Int)<=c)):zi m c k=(A7 m c.toNat (min k ((m.aa.getD c.toNat []).length:Int)).toNat,min k ((m.aa.getD c.toNat []).length:Int),0):=by unfold zi;rw[sb h,x8 h2,x8 ap]
section
variable (m:Mem) (c:Int)
def qj0:Mem:=(zi m c 1).fst
def H7:List Int:=(qj0 m c).vars
def Si:List Int:=(qj0 m c).ae
def GR:List (List Int):=(qj0 m c).aa
def Hx:List Int:=(qj0 m c).sig
def Lr:=(H7 m c).length=0/\(Si m c).length=0/\(GR m c).length=0/\(Hx m c).length=0
def FG:Int:=(Z6 m c).fst
def VK:=0=FG m c
def qrg:Int:=(Z6 m c).snd
def qj1:=decide (c<0)
def Br:=(!qj1 c)=true
def mM:=Br c->Br c
def Al:=qj1 c||decide (↑m.aa.length<=c)
def qrh:Int:=if ↑(m.aa.getD c.toNat []).length<(1:Int)then pJ m c else(1:Int)
def Qa:Nat:=(qrh m c).toNat
def V8:=aJ ((dR (dR dI) (aJ m.aa)).set c.toNat (List.drop (Qa m c) (pf m c)))
def TH:=ab (List.foldl cu (dR dI (ab m.sig)) (List.take (Qa m c) (pf m c)))
end
theorem ajz (e:dN m):KN 158 [vM m,co c] (.ax [vM (zi m c 1).1,co (zi m c 1).2.1,co (zi m c 1).2.2]):=by
 refine Kn (wM 34 λ_=>none) Tryz.func158 (KN 149 [AV.mc zm (ao m)] (AV.bool (cx (dM (ao m))))/\((!cx (dM (ao m)))=true->Lr m c/\VK m c/\1=qrg m c)/\((!cx (dM (ao m)))=false->mM c/\mM c/\(Br c->↑m.aa.length<=(9223372036854775807:Int))/\mM c/\mM c/\mM c/\(Al m c=true->Lr m c/\VK m c/\11=qrg m c)/\(Al m c=false->ai c m.aa.length/\pJ m c<=9223372036854775807/\KN 230 [AV.mc zm (ao m),co c,co (qrh m c)] (AV.mc zm (AV.agg [ab (dR dI (ab m.vars)),ab (dR dI (ab m.ae)),V8 m c,TH m c]))/\(LS (ab (dR dI (ab m.vars))) (ab (H7 m c))/\LS (ab (dR dI (ab m.ae))) (ab (Si m c))/\LS (V8 m c) (aJ (GR m c))/\LS (TH m c) (ab (Hx m c)))/\qrh m c=FG m c/\0=qrg m c))) ?_;try delta qj0 H7 Si GR Hx Lr Z6 FG VK qrg qj1 Br mM Al pJ qrh Qa pf V8 TH
 simp only[SZ];have i:=e.aa;have s2:=e.q c.toNat;have f:(if((m.aa.getD c.toNat []).length:Int)<1 then((m.aa.getD c.toNat []).length:Int)else 1)=min 1 ((m.aa.getD c.toNat []).length:Int):=by split<;>omega
 rw[f];refine⟨mV m e,λh=>?_,λh=>⟨λ_=>ac,λh2=>?_,λh2=>⟨ey,ac,zm0 m _ _ e h ac ac, ?_⟩⟩⟩
 . rw[zr8 h];exact⟨dD,rfl,rfl⟩
 . rw[zr9 h h2];exact⟨dD,rfl,rfl⟩
 . rw[zya h ac];exact eq
theorem zra:∀ (l:List (List Int)) (a:Int),a<=l.foldl (λa q=>max a (q.length:Int)) a/\∀ q∈l,(q.length:Int)<=l.foldl (λa q=>max a (q.length:Int)) a
 | [],a=>⟨yt _,λq h=>by cases h⟩
 |x::l,a=>by
  have e:=zra l (max a x.length);rw[List.foldl_cons];refine⟨ac,λq h=>?_⟩;rcases xq.1 h with rfl |h
  . omega
  . exact e.2 q h
theorem ajp (l:List (List Int)) (i:Nat) (e:i<l.length):((l.getD i []).length:Int)<=eZ l:=(zra l 0).2 _ (ztn e)
section
variable (m:Mem) (c:Int)
def Ue:=(zi m c (eZ m.aa)).fst.vars.length=0/\(zi m c (eZ m.aa)).fst.ae.length=0/\(zi m c (eZ m.aa)).fst.aa.length=0/\(zi m c (eZ m.aa)).fst.sig.length=0
def CY:Int:=(zi m c (eZ m.aa)).snd.fst
def Ie:=0=CY m c
def qri:Int:=(zi m c (eZ m.aa)).snd.snd
def RU:Nat:=(pJ m c).toNat
def OZ:=aJ ((dR (dR dI) (aJ m.aa)).set c.toNat (List.drop (RU m c) (pf m c)))
def Km:=ab (List.foldl cu (dR dI (ab m.sig)) (List.take (RU m c) (pf m c)))
end
theorem ak5 (e:dN m):KN 159 [vM m,co c] (.ax [vM (zi m c (eZ m.aa)).1,co (zi m c (eZ m.aa)).2.1,co (zi m c (eZ m.aa)).2.2]):=by
 refine Kn (wM 33 λ_=>none) Tryz.func159 (KN 149 [AV.mc zm (ao m)] (AV.bool (cx (dM (ao m))))/\((!cx (dM (ao m)))=true->Ue m c/\Ie m c/\1=qri m c)/\((!cx (dM (ao m)))=false->mM c/\mM c/\(Br c->↑m.aa.length<=(9223372036854775807:Int))/\mM c/\mM c/\mM c/\(Al m c=true->Ue m c/\Ie m c/\11=qri m c)/\(Al m c=false->ai c m.aa.length/\pJ m c<=9223372036854775807/\KN 230 [AV.mc zm (ao m),co c,co (pJ m c)] (AV.mc zm (AV.agg [ab (dR dI (ab m.vars)),ab (dR dI (ab m.ae)),OZ m c,Km m c]))/\(LS (ab (dR dI (ab m.vars))) (ab (zi m c (eZ m.aa)).fst.vars)/\LS (ab (dR dI (ab m.ae))) (ab (zi m c (eZ m.aa)).fst.ae)/\LS (OZ m c) (aJ (zi m c (eZ m.aa)).fst.aa)/\LS (Km m c) (ab (zi m c (eZ m.aa)).fst.sig))/\pJ m c=CY m c/\0=qri m c))) ?_;try delta Ue CY Ie qri qj1 Br mM Al pJ RU pf OZ Km
 simp only[SZ];have i:=e.aa;have s2:=e.q c.toNat;refine⟨mV m e,λh=>?_,λh=>⟨λ_=>ac,λh2=>?_,λh2=>⟨ey,ac,zm0 m _ _ e h ac ac, ?_⟩⟩⟩
 . rw[zr8 h];exact⟨dD,rfl,rfl⟩
 . rw[zr9 h h2];exact⟨dD,rfl,rfl⟩
 . have f:min (eZ m.aa) ((m.aa.getD c.toNat []).length:Int)=((m.aa.getD c.toNat []).length:Int):=by
    have :=ajp m.aa c.toNat ac;omega
   rw[zya h ac,f];exact eq
def aoh:FuncId ->List AV ->Option AV
 |128,[.seq _ n f]=>some (.own 0 n)
 |f,l=>tD f l
def aju:FuncId ->List AV ->Option (List aw)
 |128,[.seq _ n f]=>some [ky (dR dB (.seq cz n f))]
 |f,l=>frM f l
def abg (n:Nat):bt:={dc n λ_ _=>false with fresh:=aju}
theorem zui:cf (abg n):=mC (am)
def vPu (n:Nat) (inv:Nat ->Option Inv):bj:={C:=abg n,CC:=aL Tryz.prog GG,bb:=λ_ _=>aoh,inv:=inv}
theorem aeh (l:List cg) (hl:l.length<=1000000) (h:∀ j,(l.getD j aD).entries.length<=1000000):KF 128 [bc l] (.own 0 l.length) [ky l]:=by
 refine pK (T2 20 (ztu l)) Tryz.func128 ((∃ i,i<=l.length/\(LT (bc l)/\qd7 l i/\(0:Int)=↑i)/\qd7 l i)/\∀ i:Nat,i<=l.length->↑l.length<=(9223372036854775807:Int)/\(oB l i=true->ai (↑i) l.length/\KN 150 [AV.mc cz (aB (l.getD (↑i:Int).toNat aD))] (AV.mc cz (AV.agg [co (l.getD (↑i:Int).toNat aD).aC,co (l.getD (↑i:Int).toNat aD).first,ck (dR dE (ck (l.getD (↑i:Int).toNat aD).entries))]))/\1*cz.size<=16777216/\(RR (List.take i l).length/\↑(pY l i)*↑(40:Nat)<=(140737488355328:Int)/\pY l i<=9223372036854775807)/\1<=1/\aU j6 (q9 i)/\(∃ j,j<=l.length/\l.length - j<l.length - i/\(LT (bc l)/\zY l i j/\q9 i=(↑j:Int))/\zY l i j/\∀ (ar:Nat),ar<pY l i->(if ar<(List.take i l).length then aB ((List.take i l).getD ar aD)else((List.replicate 1 (AV.agg [co 0,co 0,AV.aA])).set 0 (aB (dB (aB (l.getD (↑i:Int).toNat aD))))).getD (ar - (List.take i l).length) AV.any)=aB ((List.take j l).getD ar aD)))/\(oB l i=false->(List.take i l).length=l.length/\(List.take i l).length=l.length/\∀ (ar:Nat),ar<(List.take i l).length->aB ((List.take i l).getD ar aD)=aB (l.getD ar aD))) ?_;try delta qd7 pY q9 zY oB
 simp only[SZ];refine⟨⟨0,ac,eq,rfl⟩,λi m=>⟨ac,λhlt=>?_,λhge=>?_⟩⟩
 . have k:(l.take i).length=i:=by rw[xu];omega
   have e:l.take (i+1)=l.take i++[l.getD i aD]:=by
    simp_all
   refine⟨hlt,Lz _ (h i),ap,ac,dl,i+1,ac,ac, ?_, ?_⟩
   . rw[e];exact⟨be,ac⟩
   . rw[e];exact⟨be,λj f=>rj aB _ aD _ _ j f⟩
 . rw[xv ac];exact eq
section
variable (l:List cg) (b:cg)
def qs2:Int:=max (dz (dR dB (bc l)) b.aC) 0
def qs3:=decide (0<=dz (dR dB (bc l)) b.aC)
def M9:=l.length<=(dR dB (bc l)).length
end
theorem ain (l:List cg) (b:cg) (hl:l.length<=1000000) (h:∀ j,(l.getD j aD).entries.length<=1000000) (k:b.entries.length<=1000000):KN 88 [bc l,vB b] (bc (gL l b)):=by
 refine Kn (vPu 24 λ_=>none) Tryz.func88 ((KF (128:Nat) [bc l] (AV.own (0:Nat) l.length) [aw.row (90:TypeId) cz (dR dB (bc l)).length λi=>aB ((dR dB (bc l)).getD i aD)])/\KN 127 [bc l,co b.aC] (AV.ax [co (qs2 l b),AV.bool (qs3 l b)])/\(qs3 l b=true->KN 150 [AV.mc cz (aB b)] (AV.mc cz (AV.agg [co b.aC,co b.first,ck (dR dE (ck b.entries))]))/\ai (qs2 l b) l.length/\(qs2 l b).toNat<(dR dB (bc l)).length/\M9 l/\l.length=(gL l b).length/\∀ i:Nat,i<l.length->(if i=(max (dz (dR dB (bc l)) b.aC) 0).toNat then aB (dB (aB b))else aB ((dR dB (bc l)).getD i aD))=aB ((gL l b).getD i aD))/\(qs3 l b=false->M9 l/\l.length=(gL l b).length/\∀ i:Nat,i<l.length->aB ((dR dB (bc l)).getD i aD)=aB ((gL l b).getD i aD))) ?_;try delta qs2 qs3 M9
 simp only[SZ];have hf:=zlm l b.aC;refine⟨aeh l hl h,ade l _ hl,λh0=>?_,λh0=>?_⟩
 . have e:gL l b=l.set (dz l b.aC).toNat b:=by unfold gL;rw[x9 h0]
   have em:max (dz l b.aC) 0=dz l b.aC:=ac;rw[e,em];refine⟨Lz b k,⟨h0,hf.1⟩,ac,be,λi m=>?_⟩;by_cases f:i=(dz l b.aC).toNat
   . grind
   . rw[x8 f,x7,x7,List.getElem?_set_ne ac]
 . have e:gL l b=l:=by unfold gL;rw[x8 h0]
   grind
def cL:Ev:=
 if i.op=18 then(if t.phase=0 then {e with kind:=12,mutex:=i.n}else if t.phase=1 then {e with kind:=13}else {e with kind:=9,obj:=i.n})
 else if i.op=19 then {e with kind:=14,read:=min (qX s.mem i.obj) 1}else if i.op=20 then {e with kind:=15,read:=qX s.mem i.obj}
 else if i.op=21 then {e with kind:=16,obj:=fZ t}else if i.op=22 then {e with kind:=17,obj:=bz t i.b}else e
structure oH (m:Mem) (i:aP):Prop where
 ok:jv m i
 form:cx m=true
 b:0<=i.b/\i.b<8
 c:0<=i.c/\i.c<8
 ord:¬ (i.op=8∨i.op=9∨i.op=10∨i.op=11∨i.op=12∨i.op=14) ->i.ord=0
 v:(i.op=8∨i.op=9∨i.op=10∨i.op=11∨i.op=12∨i.op=14) ->0<=i.obj/\i.obj<m.vars.length
theorem zjm {m:Mem} (h:cx m=true) {x:Int} (f:0<=x/\x<m.vars.length):(gT m x).1=m.vars.getD x.toNat 0:=by
 have e:bM m x m.vars.length=0:=by grind[bM]
 unfold gT;rw[e,x8 (λh=>h rfl)]
def oR3:FuncId ->List AV ->Option AV
 |91,[.seq _ n f, .int _ v]=>some (.bool (aW (zw n f) v))
 |142,[_, .int _ v]=>some (.bool (AM s.af v))
 |146,[.bool b]=>some (co (fi b))
 |140,[.int _ f, .int _ a, .int _ b]=>some (co (app f a b).1)
 |147,[_,_,_, .mc _ e]=>some (dg (cL s t i (jZ e)))
 |83,[_,_,_]=>some (dg (aT s t i))
 |77,[_,_,_]=>some (.bool (z20 s t i))
 |139,[_, .int _ b,_]=>some (.bool (uq p b s.af))
 |76,[_, .int _ b,_]=>some (.bool (c9 p b s))
 |136,[.int _ f, .int _ a, .int _ b]=>some (.ax [co (app f a b).1,co (app f a b).2])
 |82,[_, .int _ v]=>some (.ax [co (max (aV s.af v) 0), .bool (decide (0<=aV s.af v))])
 |224,[_]=>some (.ax [co (fZ t), .bool (cV t)])
 |134,[_, .int _ b, .mc _ t]=>some (.bool (gV p b (dT t)))
 |141,[_, .int _ v]=>some (.bool (jU s.mem v))
 |133,[_,_]=>some (.bool (fc p s.mem))
 |138,[_]=>some (.bool ((zc p).1==0))
 |_,_=>none
def Ak (p:aj) (s:ah) (t:aF) (i:aP) (n:Nat) (I:Nat ->Option Inv):bj:={C:=dc n λ_ _=>false,CC:=aL Tryz.prog GG,bb:=λ_ _=>oR3 p s t i,inv:=I}
def zrh (l:List Int) (v:Int) (k:Nat):Option Inv:=match Nat.beq k 2 with
 |true=>iw l.length (λj=>⟨[(0,ab l),(1,co v),(5,co j)],[]⟩) λj=>∀ n,n<j ->l.getD n 0≠v
 |false=>none
def Xi (i:aP):Prop:=i.op<=14/\i.op≠13
instance (i:aP):Decidable (Xi i):=by unfold Xi;infer_instance
def ke:Int:=if Xi i then m.vars.getD i.obj.toNat 0 else 0
def zym:Option Inv:=match Nat.beq k 6 with
 |true=>some {ι:=Unit,S:=λ_=>⟨[(3, .ptr 3 []),(4, .ptr 4 []),(5, .ptr 5 []),(6, .ptr 6 []),(7, .ptr 7 []),(8,co (bz t i.b)),(9,co (bz t i.c)),(10,co (ke s.mem i))],[(3,fJ s),(4, .cell 86 zk (aq t)),(5, .cell 105 zy (encI i)),(6,GH aH),(7,GH {jW t i with ord:=i.ord})]⟩,μ:=λ_=>0,ok:=λ_=>True}
 |false=>none
def zrk:Option Inv:=match Nat.beq k 2 with
 |true=>iw s.af.length (λj=>⟨[(1,co b),(2,aK s.af),(3, .ptr 3 []),(7,co j)],[(3,jO p)]⟩) λj=>∀ n,n<j ->lD p b s.af n
 |false=>none
section
variable (l:List Int) (v:Int) (x2:Nat)
def qs4:=x2<=l.length/\∀ n:Nat,n<x2->l.getD n 0≠v
def qew:=RR l.length/\∀ (i:Nat),i<l.length->RR (co (l.getD i 0))
end
theorem zyq (l:List Int) (v:Int) (hl:l.length<=1000000):KN 91 [ab l,co v] (.bool (aW l v)):=by
 refine Kn (Ak lX aE au dp 18 (zrh l v)) Tryz.func91 ((∃ i,qs4 l v i/\qew l/\RR v/\(0:Int)=↑i)/\∀ i:Nat,qs4 l v i->↑l.length<=(9223372036854775807:Int)/\(qe l i=true->ai (↑i) l.length/\(zJ l v i=true->true=aW l v)/\(zJ l v i=false->aU j6 (q9 i)/\(∃ j,qs4 l v j/\l.length - j<l.length - i/\qew l/\RR v/\q9 i=↑j)))/\(qe l i=false->false=aW l v)) ?_;try delta qs4 qew zJ q9 qe
 simp only[SZ];refine⟨⟨0,⟨ac,λn k=>ac⟩,rfl⟩,λi f=>⟨ac,λhlt=>⟨hlt,λh=>?_,λh=>⟨dl,i+1,⟨ac,λn k=>?_⟩,ac,ac⟩⟩,λhge=>?_⟩⟩
 . exact((zV l v).2 ⟨i,hlt,h.symm⟩).symm
 . by_cases e:n=i
   . grind
   . exact f.2 n ac
 . apply fC;intro h;have⟨n,m,h2⟩:=(zV l v).1 h;exact f.2 n ac h2.symm
section
variable (s:ah) (v:Int)
def qjc:=decide (0<=aV s.af v)
def qjd:=qjc s v=true
def zK:=qjd s v->qjd s v
def KC:=ai (max (aV s.af v) 0) s.af.length
def Da:Int:=(s.af.getD (max (aV s.af v) 0).toNat au).status
def Uf:=Da s v==2
def JC:=!Uf s v
def qje:=(qjc s v&&JC s v)=true
def qex:=qje s v->qje s v
end
theorem akl (v:Int) (hs:cK s):KN 142 [aK s.af,co v] (.bool (AM s.af v)):=by
 refine Kn (Ak lX s au dp 30 λ_=>none) Tryz.func142 (KN 82 [aK s.af,co v] (AV.ax [co (max (aV s.af v) (0:Int)),AV.bool (qjc s v)])/\zK s v/\zK s v/\(qjd s v->KC s v)/\zK s v/\zK s v/\zK s v/\zK s v/\qex s v/\qex s v/\(qje s v->KC s v)/\qex s v/\qex s v/\qex s v/\zK s v/\(qjd s v->JC s v=true->qje s v)/\zK s v/\(qjc s v&&(Uf s v||Da s v==3))=AM s.af v) ?_;try delta qjc qjd zK KC Da Uf JC qje qex
 simp only[SZ];have f:=zhh s.af v;refine⟨PX _ _ hs.af,λh=>ac,λh=>ac, ?_⟩;unfold AM;by_cases e:0<=aV s.af v
 . rw[yh e]
 . rw[decide_eq_false e,j5,j5]
theorem zyr (b:Bool):KN 146 [.bool b] (co (fi b)):=by
 refine Kn (Ak lX aE au dp 4 λ_=>none) Tryz.func146 ((b=true->1=fi b)/\(b=false->0=fi b)) ?_;try simp only[SZ]
 unfold fi;grind
theorem zys (f a b:Int):KN 140 [co f,co a,co b] (co (app f a b).1):=by
 refine Kn (Ak lX aE au dp 17 λ_=>none) Tryz.func140 (KN 136 [co f,co a,co b] (AV.ax [co (app f a b).fst,co (app f a b).snd])/\RR (app f a b).fst) ?_;simp only[SZ];exact Uj f a b
section
variable (s:ah) (t:aF) (i:aP) (e:Ev)
def UX:=e.entry=(cL s t i e).entry/\e.ord=(cL s t i e).ord/\e.read=(cL s t i e).read/\e.wrote=(cL s t i e).wrote
def qjf:=e.mutex=(cL s t i e).mutex/\UX s t i e
end
theorem akz (hs:cK s) (h:eL t) (f:oH s.mem i):KN 147 [cj s,vT t,vI i,dg e] (dg (cL s t i e)):=by
 refine Kn (Ak lX s t i 72 λ_=>none) Tryz.func147 (((i.op==18)=true->((t.phase==0)=true->e.aG=(cL s t i e).aG/\e.idx=(cL s t i e).idx/\12=(cL s t i e).kind/\e.obj=(cL s t i e).obj/\i.n=(cL s t i e).mutex/\UX s t i e)/\((t.phase==0)=false->((t.phase==1)=true->e.aG=(cL s t i e).aG/\e.idx=(cL s t i e).idx/\13=(cL s t i e).kind/\e.obj=(cL s t i e).obj/\qjf s t i e)/\((t.phase==1)=false->e.aG=(cL s t i e).aG/\e.idx=(cL s t i e).idx/\9=(cL s t i e).kind/\i.n=(cL s t i e).obj/\qjf s t i e)))/\((i.op==18)=false->((i.op==19)=true->ai i.obj s.mem.aa.length/\ZD s i/\e.aG=(cL s t i e).aG/\e.idx=(cL s t i e).idx/\14=(cL s t i e).kind/\e.obj=(cL s t i e).obj/\e.mutex=(cL s t i e).mutex/\e.entry=(cL s t i e).entry/\e.ord=(cL s t i e).ord/\(if(1:Int)<↑(s.mem.aa.getD i.obj.toNat []).length then(1:Int)else IP s i)=(cL s t i e).read/\e.wrote=(cL s t i e).wrote)/\((i.op==19)=false->((i.op==20)=true->ai i.obj s.mem.aa.length/\ZD s i/\e.aG=(cL s t i e).aG/\e.idx=(cL s t i e).idx/\15=(cL s t i e).kind/\e.obj=(cL s t i e).obj/\e.mutex=(cL s t i e).mutex/\e.entry=(cL s t i e).entry/\e.ord=(cL s t i e).ord/\IP s i=(cL s t i e).read/\e.wrote=(cL s t i e).wrote)/\((i.op==20)=false->((i.op==21)=true->KN 224 [AV.mc zk (aq t)] (AV.ax [co (fZ t),AV.bool (cV t)])/\e.aG=(cL s t i e).aG/\e.idx=(cL s t i e).idx/\16=(cL s t i e).kind/\fZ t=(cL s t i e).obj/\qjf s t i e)/\((i.op==21)=false->((i.op==22)=true->ai i.b 8/\e.aG=(cL s t i e).aG/\e.idx=(cL s t i e).idx/\17=(cL s t i e).kind/\t.az.getD i.b.toNat 0=(cL s t i e).obj/\qjf s t i e)/\((i.op==22)=false->LS (bP e) (bP (cL s t i e)))))))) ?_;try delta UX qjf IP ZD
 simp only[SZ];have j:=hs.mem.q i.obj.toNat;refine⟨λh18=>⟨λh=>?_,λh=>⟨λh'=>?_,λh'=>?_⟩⟩,λh18=>⟨λh19=>⟨f.ok.q ac,ac, ?_⟩,λh19=>⟨λh20=>⟨f.ok.q ac,ac, ?_⟩,λh20=>⟨λh21=>⟨zpf t h.az h.id, ?_⟩,λh21=>⟨λh22=>⟨f.b, ?_⟩,λh22=>?_⟩⟩⟩⟩⟩;all_goals unfold cL
 all_goals simp[*,qX,bz]
 omega
theorem ahj (x:AV) (e:x=bP (jZ x)) (hs:cK s) (f:eL t) (h:oH s.mem i):KN 147 [cj s,vT t,vI i, .mc bp x] (dg (cL s t i (jZ x))):=by
 have :=akz s t i (jZ x) hs f h;unfold dg at this;rw[<- e]at this;exact this
theorem kM (e:oH s.mem i) (x:AV) (h:cL s t i (jZ x)=aT s t i):LS (bP (cL s t i (jZ x))) (bP (aT s t i)):=eE (by rw[h])
section
variable (i:aP)
def Dw:=decide (i.op<=14)
def Kg:=Dw i=true
def qs5:=Kg i->Kg i
end
section
variable (t:aF) (i:aP)
def Iw:=t.az.getD i.b.toNat 0=bz t i.b
def Ew:=t.az.getD i.c.toNat 0=bz t i.c
end
section
variable (s:ah) (t:aF) (i:aP)
def VZ:=LS (ze s) (ze s)/\LS (aq t) (aq t)/\LS (encI i) (encI i)/\(RR (0:Int)/\RR (0:Int)/\RR (0:Int)/\RR (0:Int)/\RR (0:Int)/\RR (0:Int)/\RR (0:Int)/\Yw)/\RR t.id/\RR t.steps/\RR (0:Int)/\RR i.obj/\RR (-1)/\RR (-1)/\RR i.ord/\Yw
def UK:=Dw i&&i.op !=13
def qs6:List AV:=[co i.obj,co (-1),co (-1),co i.ord,co (ke s.mem i),co 0]
def Hv:=AV.agg (co t.id::co t.steps::co 1::qs6 s i)
def Gq:=bP (cL s t i (jZ (Hv s t i)))
def KG:=AV.agg (co t.id::co t.steps::co 8::qs6 s i)
def Kh:=bP (cL s t i (jZ (KG s t i)))
def Ib:=AV.agg [co t.id,co t.steps,co 2,co i.obj,co (-1),co (-1),co i.ord,co 0,co (bz t i.b)]
def U6:=bP (cL s t i (jZ (Ib t i)))
def Nh:List AV:=[co (ke s.mem i),co (bz t i.b)]
def D1:=AV.agg (co t.id::co t.steps::co 5::co i.obj::co (-1)::co (-1)::co i.ord::Nh s t i)
def Cx:=bP (cL s t i (jZ (D1 s t i)))
def Fy:=co (wr (wr (ke s.mem i)+wr (bz t i.b)))
def RX:=AV.agg [co t.id,co t.steps,co 5,co i.obj,co (-1),co (-1),co i.ord,co (ke s.mem i),Fy s t i]
def Sf:=bP (cL s t i (jZ (RX s t i)))
def P2:=AV.agg [co t.id,co t.steps,co 5,co i.obj,co (-1),co (-1),co i.ord,co (ke s.mem i),co (bz t i.c)]
def CX:=bP (cL s t i (jZ (P2 s t i)))
def Eu:=ke s.mem i==bz t i.b
def OC:=AV.agg (co t.id::co t.steps::co 6::qs6 s i)
def Ha:=bP (cL s t i (jZ (OC s t i)))
def qjg:List AV:=[co i.obj,co (-1),co (-1),co i.ord,co 0,co 0]
def E6:=AV.agg (co t.id::co t.steps::co 7::qjg i)
def G4:=bP (cL s t i (jZ (E6 t i)))
def UM:=AV.agg (co t.id::co t.steps::co 9::qjg i)
def Qn:=bP (cL s t i (jZ (UM t i)))
def IU:=AV.agg (co t.id::co t.steps::co 10::qjg i)
def M1:=bP (cL s t i (jZ (IU t i)))
def LL:=AV.agg [co t.id,co t.steps,co 11,co i.obj,co (-1),co (-1),co i.ord,co (fi (jU s.mem i.obj)),co 0]
def ID:=bP (cL s t i (jZ (LL s t i)))
def S6:=AV.agg (co t.id::co t.steps::co 0::qjg i)
def CG:=bP (cL s t i (jZ (S6 t i)))
end
theorem zyt (hs:cK s) (r:eL t) (k:oH s.mem i):KN 83 [cj s,vT t,vI i] (dg (aT s t i)):=by
 refine Kn ({Ak lX s t i 113 (λ_=>none)with cut:=zym s t i}) Tryz.func83 (ai i.b 8/\ai i.c 8/\(qs5 i/\qs5 i/\qs5 i/\(UK i=true->ai i.obj s.mem.vars.length/\(∃ (j:Unit),True/\(Iw t i/\Ew t i/\s.mem.vars.getD i.obj.toNat 0=ke s.mem i)/\VZ s t i))/\(UK i=false->∃ (j:Unit),True/\(Iw t i/\Ew t i/\0=ke s.mem i)/\VZ s t i))/\∀ (ar:Unit),True->((i.op==(8:Int))=true->KN 147 [AV.mc aM (ze s),AV.mc zk (aq t),AV.mc zy (encI i),AV.mc bp (Hv s t i)] (AV.mc bp (Gq s t i))/\LS (Gq s t i) (bP (aT s t i)))/\((i.op==(8:Int))=false->((i.op==(14:Int))=true->KN 147 [AV.mc aM (ze s),AV.mc zk (aq t),AV.mc zy (encI i),AV.mc bp (KG s t i)] (AV.mc bp (Kh s t i))/\LS (Kh s t i) (bP (aT s t i)))/\((i.op==(14:Int))=false->((i.op==(9:Int))=true->KN 147 [AV.mc aM (ze s),AV.mc zk (aq t),AV.mc zy (encI i),AV.mc bp (Ib t i)] (AV.mc bp (U6 s t i))/\LS (U6 s t i) (bP (aT s t i)))/\((i.op==(9:Int))=false->((i.op==(10:Int))=true->KN 147 [AV.mc aM (ze s),AV.mc zk (aq t),AV.mc zy (encI i),AV.mc bp (D1 s t i)] (AV.mc bp (Cx s t i))/\LS (Cx s t i) (bP (aT s t i)))/\((i.op==(10:Int))=false->((i.op==(11:Int))=true->KN 140 (AV.int j6 (1:Int)::Nh s t i) (Fy s t i)/\KN 147 [AV.mc aM (ze s),AV.mc zk (aq t),AV.mc zy (encI i),AV.mc bp (RX s t i)] (AV.mc bp (Sf s t i))/\LS (Sf s t i) (bP (aT s t i)))/\((i.op==(11:Int))=false->((i.op==(12:Int))=true->(Eu s t i=true->KN 147 [AV.mc aM (ze s),AV.mc zk (aq t),AV.mc zy (encI i),AV.mc bp (P2 s t i)] (AV.mc bp (CX s t i))/\LS (CX s t i) (bP (aT s t i)))/\(Eu s t i=false->KN 147 [AV.mc aM (ze s),AV.mc zk (aq t),AV.mc zy (encI i),AV.mc bp (OC s t i)] (AV.mc bp (Ha s t i))/\LS (Ha s t i) (bP (aT s t i))))/\((i.op==(12:Int))=false->((i.op==(13:Int))=true->KN 147 [AV.mc aM (ze s),AV.mc zk (aq t),AV.mc zy (encI i),AV.mc bp (E6 t i)] (AV.mc bp (G4 s t i))/\LS (G4 s t i) (bP (aT s t i)))/\((i.op==(13:Int))=false->((i.op==(15:Int))=true->KN 147 [AV.mc aM (ze s),AV.mc zk (aq t),AV.mc zy (encI i),AV.mc bp (UM t i)] (AV.mc bp (Qn s t i))/\LS (Qn s t i) (bP (aT s t i)))/\((i.op==(15:Int))=false->((i.op==(16:Int))=true->KN 147 [AV.mc aM (ze s),AV.mc zk (aq t),AV.mc zy (encI i),AV.mc bp (IU t i)] (AV.mc bp (M1 s t i))/\LS (M1 s t i) (bP (aT s t i)))/\((i.op==(16:Int))=false->((i.op==(17:Int))=true->KN 141 [AV.mc zm (ao s.mem),AV.int j6 i.obj] (AV.bool (jU s.mem i.obj))/\KN 146 [AV.bool (jU s.mem i.obj)] (AV.int j6 (fi (jU s.mem i.obj)))/\KN 147 [AV.mc aM (ze s),AV.mc zk (aq t),AV.mc zy (encI i),AV.mc bp (LL s t i)] (AV.mc bp (ID s t i))/\LS (ID s t i) (bP (aT s t i)))/\((i.op==(17:Int))=false->KN 147 [AV.mc aM (ze s),AV.mc zk (aq t),AV.mc zy (encI i),AV.mc bp (S6 t i)] (AV.mc bp (CG s t i))/\LS (CG s t i) (bP (aT s t i))))))))))))) ?_;try delta Dw Kg qs5 Iw Ew Yw VZ UK qs6 Hv Gq KG Kh Ib U6 Nh D1 Cx Fy RX Sf P2 CX Eu OC Ha qjg E6 G4 UM Qn IU M1 LL ID S6 CG
 simp only[SB,ai];have m:=k.ok.op;have K:=λx u=>ahj s t i x u hs r k;have V:i.op<=14/\i.op≠13 ->ke s.mem i=(gT s.mem i.obj).1:=λh=>by
  unfold ke;rw[x9 (show Xi i from h),zjm k.form (k.v ac)]
 refine⟨k.b,k.c,⟨λh=>⟨k.v ac,(),⟨rfl,rfl,by unfold ke;rw[x9 (show Xi i from h)]⟩,eE rfl,eE rfl,eE rfl⟩,λh=>⟨(),⟨rfl,rfl,by unfold ke;rw[x8 (by unfold Xi;omega)]⟩,eE rfl,eE rfl,eE rfl⟩⟩,λ_ _=>⟨λh8=>⟨K _ rfl,kM _ _ _ k _ ?_⟩,λh8=>⟨λh14=>⟨K _ rfl,kM _ _ _ k _ ?_⟩,λh14=>⟨λh9=>⟨K _ rfl,kM _ _ _ k _ ?_⟩,λh9=>⟨λh10=>⟨K _ rfl,kM _ _ _ k _ ?_⟩,λh10=>⟨λh11=>⟨zys 1 _ _,K _ rfl,kM _ _ _ k _ ?_⟩,λh11=>⟨λh12=>⟨λh=>⟨K _ rfl,kM _ _ _ k _ ?_⟩,λh=>⟨K _ rfl,kM _ _ _ k _ ?_⟩⟩,λh12=>⟨λh13=>⟨K _ rfl,kM _ _ _ k _ ?_⟩,λh13=>⟨λh15=>⟨K _ rfl,kM _ _ _ k _ ?_⟩,λh15=>⟨λh16=>⟨K _ rfl,kM _ _ _ k _ ?_⟩,λh16=>⟨λh17=>⟨zjh _ _ hs.mem,zyr _,K _ rfl,kM _ _ _ k _ ?_⟩,λh17=>⟨K _ rfl,kM _ _ _ k _ ?_⟩⟩⟩⟩⟩⟩⟩⟩⟩⟩⟩⟩;all_goals rw[ae4]
 all_goals have f:=k.ord
 all_goals clear K hs r k
 iterate 2
  . have v:=V ac;clear V f m;simp only[cL,aT,bJ,jW,v, *,reduceIte,Int.reduceEq]
 . clear V f m;simp only[cL,aT,bJ,jW, *,reduceIte,Int.reduceEq]
 iterate 2
  . have v:=V ac;clear V f m;simp only[cL,aT,bJ,jW,v, *,reduceIte,Int.reduceEq];try rfl
 . have v:=V ac;rw[v]at h ⊢;clear V f m v;simp only[cL,aT,bJ,jW, *,reduceIte,Int.reduceEq]
 . have v:=V ac;rw[v]at h ⊢;clear V f m v;simp only[cL,aT,bJ,jW, *,reduceIte,Int.reduceEq]
 iterate 4
  . have o:=f ac;clear V f m;simp only[cL,aT,jW,o, *,reduceIte,Int.reduceEq]
 . have o:=f ac;have y:i.op=18∨i.op=19∨i.op=20∨i.op=21∨i.op=22:=ac;clear V f m;rcases y with e |e |e |e |e
   . simp only[cL,aT,jz,jW,o,e,reduceIte,Int.reduceEq]
   . simp only[cL,aT,jW,o,e,reduceIte,Int.reduceEq];rw[Int.min_comm]
   all_goals simp only[cL,aT,jW,o,e,reduceIte,Int.reduceEq]
section
variable (s:ah) (i:aP)
def DV:Int:=s.mem.vars.getD i.obj.toNat 0
end
section
variable (s:ah) (t:aF) (i:aP)
def Rt:Int:=(app i.fn (DV s i) (t.az.getD i.b.toNat 0)).fst
def qs7:=(!t.phase==0)=true
def qey:=qs7 t->qs7 t
def D4:=AM s.af (t.az.getD i.b.toNat 0)
end
theorem aoa (hs:cK s) (ht:eL t) (hi:oH s.mem i) (hph:t.phase=0∨t.phase=1∨t.phase=2):KN 77 [cj s,vT t,vI i] (.bool (z20 s t i)):=by
 refine Kn (Ak lX s t i 65 λ_=>none) Tryz.func77 (((i.op==14)=true->ai i.obj s.mem.vars.length/\ai i.b 8/\KN 140 (co i.fn::co (DV s i)::Y6 t i) (co (Rt s t i))/\(Rt s t i !=0)=z20 s t i)/\((i.op==14)=false->((i.op==15)=true->KN 141 [AV.mc zm (ao s.mem),co i.obj] (AV.bool (jU s.mem i.obj))/\jU s.mem i.obj=z20 s t i)/\((i.op==15)=false->((i.op==18)=true->((t.phase==1)=true->KN 91 [ab s.mem.sig,co t.id] (AV.bool (qco s t))/\qco s t=z20 s t i)/\((t.phase==1)=false->qey t/\qey t/\qey t/\qey t/\(qs7 t->KN 141 [AV.mc zm (ao s.mem),co i.n] (AV.bool (jU s.mem i.n)))/\qey t/\(t.phase==0||jU s.mem i.n)=z20 s t i))/\((i.op==18)=false->((i.op==22)=true->ai i.b 8/\KN 142 (aK s.af::Y6 t i) (AV.bool (D4 s t i))/\D4 s t i=z20 s t i)/\((i.op==22)=false->true=z20 s t i))))) ?_;try delta DV Y6 Rt qco qs7 qey D4
 simp only[SZ];simp only[oR];refine⟨λh=>⟨hi.v ac,hi.b,zys _ _ _, ?_⟩,λh14=>⟨λh=>⟨zjh _ _ hs.mem, ?_⟩,λh15=>⟨λh=>⟨λh2=>⟨zyq _ _ hs.mem.sig, ?_⟩,λh2=>⟨λ_=>zjh _ _ hs.mem, ?_⟩⟩,λh18=>⟨λh=>⟨hi.b,akl s _ hs, ?_⟩,λh22=>?_⟩⟩⟩⟩
 . unfold z20;rw[x9 h,zjm hi.form (hi.v ac)];rfl
 . unfold z20;rw[x8 h14,x9 h]
 . unfold z20;rw[x8 h14,x8 h15,x9 h,x9 h2]
 . unfold z20;rw[x8 h14,x8 h15,x9 h,x8 h2];rcases hph with e |e |e
   . grind
   . omega
   . grind
 . unfold z20;rw[x8 h14,x8 h15,x8 h18,x9 h];rfl
 . unfold z20;rw[x8 h14,x8 h15,x8 h18,x8 h22]
section
variable (p:aj) (b:Int) (s:ah) (x3:Nat)
def qs8:=x3<=s.af.length/\∀ n:Nat,n<x3->lD p b s.af n
end
theorem ao0 (m:bG p) (hs:cK s):KN 139 [vP p,co b,aK s.af] (.bool (uq p b s.af)):=by
 refine Kn (Ak p s au dp 40 (zrk p b s)) Tryz.func139 ((∃ i,qs8 p b s i/\(RR b/\pG s/\(0:Int)=↑i)/\LS (ak p) (ak p))/\∀ i:Nat,qs8 p b s i->↑s.af.length<=(9223372036854775807:Int)/\(qc s i=true->ai (↑i) s.af.length/\KN 134 [AV.mc z7 (ak p),co b,AV.mc zk (aq (s.af.getD (↑i:Int).toNat au))] (AV.bool (Es p b s i))/\oq p b s i/\oq p b s i/\qh p b s i/\(nC p b s i->aU j6 (qg i))/\qh p b s i/\qh p b s i/\(nC p b s i->ai (qg i) s.af.length)/\qh p b s i/\qh p b s i/\qh p b s i/\qh p b s i/\(nC p b s i->ai (↑i) s.af.length)/\qh p b s i/\qh p b s i/\qh p b s i/\qh p b s i/\oq p b s i/\(B4 p b s i->nI i=true->nC p b s i)/\oq p b s i/\(wJ p b s i=true->false=uq p b s.af)/\(wJ p b s i=false->aU j6 (q9 i)/\(∃ j,qs8 p b s j/\s.af.length - j<s.af.length - i/\(RR b/\pG s/\q9 i=↑j)/\LS (ak p) (ak p))))/\(qc s i=false->true=uq p b s.af)) ?_;try delta qs8 pG Es qin qio B4 oq nI nC qh qg wJ q9 qc
 simp only[SB,ai];have o:=hs.af;have eT:∀ i,dT (aq (s.af.getD i au))=s.af.getD i au:=λi=>jJ _ (hs.ok i).az;simp only[eT,ep];refine⟨⟨0,⟨ac,λj hj=>ac⟩,rfl,trivial⟩,λi f=>⟨ac,λhlt=>⟨hlt,zbb p b _ m (hs.ok i),λ_=>dl,λh=>ey,λ_=>hlt,λh=>?_,λh=>⟨dl,i+1,⟨ac,λj hj=>?_⟩,ac,ac,trivial⟩⟩,λhge=>?_⟩⟩
 . apply fC;intro k;have :=z9k.1 k i hlt;rcases h with h | ⟨h,h'⟩
   . rw[this.1]at h;cases h
   . have :=this.2 ac;rw[show((i:Int) - 1).toNat=i - 1 from ac]at h';omega
 . by_cases e:j=i
   . subst e;refine⟨h.1,λh0=>?_⟩;simp_all
   . exact f.2 j ac
 . symm;rw[z9k];exact λj hj=>f.2 j (ac)
section
variable (p:aj)
def qs9:=Hr p=true
def jl:=qs9 p->qs9 p
variable (b:Int) (s:ah)
def Mm:=Hr p&&uq p b s.af
def qsa:=Mm p b s=true
def qjh:=qsa p b s->qsa p b s
def HP:=Mm p b s&&fc p s.mem
def qsb:=HP p b s=true
def qji:=qsb p b s->qsb p b s
end
theorem zrl (e:bG p) (hs:cK s):KN 76 [vP p,co b,cj s] (.bool (c9 p b s)):=by
 refine Kn (Ak p s au dp 28 λ_=>none) Tryz.func76 (KN 138 [AV.mc z7 (ak p)] (AV.bool (Hr p))/\jl p/\jl p/\jl p/\jl p/\(qs9 p->KN 139 [AV.mc z7 (ak p),co b,aK s.af] (AV.bool (uq p b s.af)))/\jl p/\qjh p b s/\qjh p b s/\qjh p b s/\(qsa p b s->KN 133 [AV.mc z7 (ak p),AV.mc zm (ao s.mem)] (AV.bool (fc p s.mem)))/\qjh p b s/\qji p b s/\qji p b s/\(qsb p b s->↑s.ag.length<=(9223372036854775807:Int))/\qji p b s/\qji p b s/\(HP p b s&&↑s.ag.length==(0:Int))=c9 p b s) ?_;try delta Hr qs9 jl Mm qsa qjh HP qsb qji
 simp only[SZ];have f:=hs.ag;refine⟨zoj p e,λ_=>ao0 p b s e hs,λ_=>zy3 p s.mem e hs.mem,λ_=>ac, ?_⟩;grind[c9,fc]
def ca:Mem×Int:=
 if e.kind=2∨e.kind=5 then zr m e.obj e.wrote
 else if e.kind=9 then bm m e.obj e.aG (-1) e.aG
 else if e.kind=11 then(if e.read=1 then bm m e.obj e.aG (-1) e.aG else(m,0))
 else if e.kind=10 then bm m e.obj e.aG e.aG (-1)
 else if e.kind=12 then(if(bm m e.mutex e.aG e.aG (-1)).2≠0 then(m,(bm m e.mutex e.aG e.aG (-1)).2)else b9 (bm m e.mutex e.aG e.aG (-1)).1 e.obj e.aG)
 else if e.kind=13 then eh m e.aG
 else if e.kind=14 then((zi m e.obj 1).1,(zi m e.obj 1).2.2)
 else if e.kind=15 then((zi m e.obj (eZ m.aa)).1,(zi m e.obj (eZ m.aa)).2.2)
 else(m,0)
def fG:Int:=
 if i.op=8∨i.op=14∨i.op=10∨i.op=11∨i.op=17 then e.read else if i.op=12 then fi (e.kind==5)else if i.op=21 then e.obj else 0
def jy:List aF:=(l.take n).filter λt=>decide (t.id<id)
def qJ:List aF:=(l.take n).filter λt=>decide (id<t.id)
def nW:List aF:=jy l t.id l.length++(t::qJ l t.id l.length)
abbrev Bp:Prop:=∀ (m:Mem) (c id:Int),dN m ->KN 156 [vM m,co c,co id] (.ax [vM (b9 m c id).1,co (b9 m c id).2])
def oR4:FuncId ->List AV ->Option AV
 |87,[.mc _ m, .int _ x, .int _ v]=>some (.ax [vM (zr (dM m) x v).1,co (zr (dM m) x v).2])
 |154,[.mc _ m, .int _ i, .int _ id]=>some (.ax [vM (bm (dM m) i id (-1) id).1,co (bm (dM m) i id (-1) id).2])
 |155,[.mc _ m, .int _ i, .int _ id]=>some (.ax [vM (bm (dM m) i id id (-1)).1,co (bm (dM m) i id id (-1)).2])
 |156,[.mc _ m, .int _ c, .int _ id]=>some (.ax [vM (b9 (dM m) c id).1,co (b9 (dM m) c id).2])
 |157,[.mc _ m, .int _ id]=>some (.ax [vM (eh (dM m) id).1,co (eh (dM m) id).2])
 |158,[.mc _ m, .int _ c]=>some (.ax [vM (zi (dM m) c 1).1,co (zi (dM m) c 1).2.1,co (zi (dM m) c 1).2.2])
 |159,[.mc _ m, .int _ c]=>some (.ax [vM (zi (dM m) c (eZ (dM m).aa)).1,co (zi (dM m) c (eZ (dM m).aa)).2.1,co (zi (dM m) c (eZ (dM m).aa)).2.2])
 |148,[.mc _ m]=>some (vM (dM m))
 |146,[.bool b]=>some (co (fi b))
 |_,_=>none
def vR4 (n:Nat) (I:Nat ->Option Inv):bj:={C:=dc n λ_ _=>false,CC:=aL Tryz.prog GG,bb:=λ_ _=>oR4,inv:=I}
def KnE:Prop:=((m.vars.length=(ca m e).1.vars.length/\∀ i:Nat,i<m.vars.length ->co (m.vars.getD i 0)= co ((ca m e).1.vars.getD i 0))/\(m.ae.length=(ca m e).1.ae.length/\∀ i:Nat,i<m.ae.length ->co (m.ae.getD i 0)= co ((ca m e).1.ae.getD i 0))/\(m.aa.length=(ca m e).1.aa.length/\∀ i:Nat,i<m.aa.length ->ab (m.aa.getD i [])=ab ((ca m e).1.aa.getD i []))/\m.sig.length=(ca m e).1.sig.length/\∀ i:Nat,i<m.sig.length ->co (m.sig.getD i 0)= co ((ca m e).1.sig.getD i 0))/\0=(ca m e).2
def HM:AV:= .mc aM (.agg [.own 0 s.af.length,ao s.mem, .own 1 s.ag.length])
def zyx:Option Inv:=match Nat.beq k 3 with
 |true=>iv l.length λi=>⟨[(0,aK l),(3, .ptr 3 []),(5, .own 28 (jy l t.id i).length),(6,co i)],[(3, .cell 86 zk (aq t)),(28,fy (jy l t.id i))]⟩
 |false=>match Nat.beq k 9 with
  |true=>iv l.length λi=>⟨[(0,aK l),(3, .ptr 3 []),(5, .own 28 (jy l t.id l.length++(t::qJ l t.id i)).length),(7,co i)],[(3, .cell 86 zk (aq t)),(28,fy (jy l t.id l.length++(t::qJ l t.id i)))]⟩
  |false=>none
def zyz:Option Inv:=match Nat.beq k 3 with
 |true=>iv s.af.length λi=>⟨[(1, .ptr 1 []),(2, .ptr 2 []),(3, .ptr 3 []),(4,co i)],[(1,fJ s),(2,fJ aE),(3, .cell 41 aM (.agg [.own 33 (s.af.take i).length,ao s.mem, .aA])),(33,fy (s.af.take i))]⟩
 |false=>match Nat.beq k 9 with
  |true=>iv s.ag.length λi=>⟨[(1, .ptr 1 []),(2, .ptr 2 []),(3, .ptr 3 []),(6,co i)],[(1,fJ s),(2,fJ aE),(3, .cell 41 aM (.agg [.own 33 s.af.length,ao s.mem, .own 56 (s.ag.take i).length])),(33,fy s.af),(56,ky (s.ag.take i))]⟩
  |false=>none
end
end Go.Proofs.S25
