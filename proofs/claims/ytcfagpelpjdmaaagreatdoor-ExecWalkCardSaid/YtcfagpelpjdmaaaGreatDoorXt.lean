import Derived.Test.YtcfagpelpjdmaaaGreatDoorXs
namespace Go.Proofs.S25
open Go Go.AV
open Go.IntKind renaming i64 -> j6
open Go.AV.Shape (leaf)
noncomputable section
variable (l:List Int) (m:Mem) (c:Int) (i:Int) (n:Int) (k:Nat)
structure kW (m:Mem):Prop where
 vars:m.vars.length<=8
 ae:m.ae.length<=4
 aa:m.aa.length<=4
 ou:Ris m.sig
 vU:∀ x∈m.vars,-2147483648<=x/\x<=2147483647
 own:∀ x∈m.ae,-1<=x
 pos:∀ x∈allI m,0<=x
 nd:(allI m).Nodup
theorem rC {l:List Int} {i:Nat} (h:i<l.length):l.getD i 0∈l:=by grind
theorem zfl {l:List Int} {i:Nat} {v:Int} (h:i<=l.length):aW (l.take i) v=true↔∃ j,j<i/\v=l.getD j 0:=by
 rw[zV];have hl:(l.take i).length=i:=by grind
 constructor
 . rintro⟨j,e,f⟩;rw[hl]at e;refine⟨j,e, ?_⟩;rw[f,x7,x7,y8 e]
 . rintro⟨j,e,f⟩;refine⟨j,ac, ?_⟩;rw[f,x7,x7,y8 e]
theorem nodup_iff:l.Nodup↔∀ i j,i<j ->j<l.length ->l.getD j 0≠l.getD i 0:=by
 unfold List.Nodup;rw[wn];constructor
 . intro h i j f k;have :=h i j (by omega) k f;simpa [x7,k,(show i<l.length by omega)]using λe=>this e.symm
 . intro h i j m k f;grind
theorem zcz:Ny l=true↔(∀ x∈l,0<=x)/\l.Nodup:=by
 unfold Ny;rw[yy,nodup_iff];simp only[yu,xa,xj,xh];constructor
 . intro h;refine⟨λx m=>?_,λi j f o e=>?_⟩
   . obtain⟨i,k,rfl⟩:=w6 m;grind
   . have :=(h j o).2;rw[<- gk,zfl ac]at this;exact this ⟨i,f,e⟩
 . rintro⟨r,s⟩ i k;refine⟨by have :=r _ (rC k);omega, ?_⟩;rw[<- gk,zfl ac];grind
theorem yT {m:Mem}:cx m=true↔kW m:=by
 unfold cx;simp[CZ,zcz];constructor
 . rintro⟨⟨s,r,o⟩,k,j,i,h,f⟩;exact⟨ac,ac,ac,k,λx e=>qI.1 (j x e),i,h,f⟩
 . rintro⟨s,r,o,k,j,i,h,f⟩;exact⟨⟨ac,ac,ac⟩,k,λx e=>qI.2 (j x e),i,h,f⟩
theorem xW {m:Mem} (h:kW m ->False):false=cx m:=by
 cases e:cx m with
 |false=>rfl
 |true=>exact(h (yT.1 e)).elim
theorem ztn {l:List (List Int)} {i:Nat} (h:i<l.length):l.getD i []∈l:=by grind
theorem zd0 (l:List (List Int)) (i:Nat) (f:i<l.length):(l.take (i+1)).flatten=(l.take i).flatten++l.getD i []:=by
 have e:l.take (i+1)=l.take i++[l.getD i []]:=by
  simp_all
 rw[e,List.flatten_append];simp
theorem zja (l:List (List Int)) (i:Nat):(l.take i).flatten.length<=l.flatten.length:=by
 have :l.flatten=(l.take i).flatten++(l.drop i).flatten:=by rw[<- List.flatten_append,List.take_append_drop]
 grind
theorem ZB (l:List (List Int)) (i:Nat):(l.getD i []).length<=l.flatten.length:=by
 by_cases e:i<l.length
 . have h:=zd0 l i e;have f:=zja l (i+1);rw[h,xl]at f;omega
 . grind
theorem dN.q {m:Mem} (f:dN m) (i:Nat):(m.aa.getD i []).length<=1000000:=by
 have e:=f.all;have h:=ZB m.aa i;unfold allI at e;rw[xl]at e;omega
theorem zwu (L q:List Int) (j:Nat):(if j<L.length then co (L.getD j 0)else co (q.getD (j - L.length) 0))=co ((L++q).getD j 0):=by
 split
 . rename_i h;rw[x7,x7,ye h]
 . rename_i h;rw[x7,x7,y9 ac]
theorem za9 {l:List Int} {i:Nat} (h:i<=l.length):zw i (λj=>co (l.getD j 0))=l.take i:=by
 show(List.range i).map _=_;apply ji ci;intro j e k;have f:j<i:=by simpa using e
 simp[dI,(show j<l.length by omega)]
theorem zto {g:FuncId} {l:List Int} {i:Nat} {v:Int} {r:AV} (f:i<=l.length) (h:KN g [ab (l.take i),co v] r):KN g [.seq .leaf i λj=>co (l.getD j 0),co v] r:=by
 refine h.weaken (args':=[_,_]) rfl ⟨⟨rfl,by rw[xu];omega,λj e=>?_⟩,eq,trivial⟩;show co (l.getD j 0)=co ((l.take i).getD j 0);rw[x7,x7,y8 e]
theorem uW (hl:l.length<=1000000):KF 201 [ab l] (.own 0 l.length) [bI l]:=by
 refine pK (mj 11 λ_=>none) Tryz.func201 (q8 l/\((0:Int)<=↑l.length/\(↑l.length:Int)<=(↑l.length:Int)/\↑(8:Nat)*↑l.length<=(140737488355328:Int)/\q8 l)/\((↑l.length:Int).toNat<=(↑l.length:Int).toNat/\(↑(↑l.length:Int).toNat:Int)<=9223372036854775807)/\(↑l.length:Int).toNat=l.length/\(↑l.length:Int).toNat=l.length/\∀ i:Nat,i<(↑l.length:Int).toNat->(if i<min l.length (↑l.length:Int).toNat then co (l.getD i 0)else co 0)=co (l.getD i 0)) ?_;try delta q8
 simp only[SZ];grind
section
variable (l:List Int)
def KO:=(↑l.length:Int).toNat<=(↑l.length:Int).toNat
end
theorem zfm (hl:l.length<=1000000):KN 201 [ab l] (ab l):=by
 refine Kn (mj 11 λ_=>none) Tryz.func201 (q8 l/\((0:Int)<=↑l.length/\(↑l.length:Int)<=(↑l.length:Int)/\↑(8:Nat)*↑l.length<=(140737488355328:Int)/\q8 l)/\(KO l/\(↑(↑l.length:Int).toNat:Int)<=9223372036854775807)/\KO l/\(↑l.length:Int).toNat=l.length/\∀ i:Nat,i<(↑l.length:Int).toNat->(if i<min l.length (↑l.length:Int).toNat then co (l.getD i 0)else co 0)=co (l.getD i 0)) ?_;try delta q8 KO
 simp only[SZ];grind
section
variable (m:Mem)
def XP:=↑m.vars.length<=(9223372036854775807:Int)
def qou:=decide ((8:Int)<↑m.vars.length)
def Yp:=(!qou m)=true
def q3f:=Yp m->Yp m
def Xe:=↑m.ae.length<=(9223372036854775807:Int)
def qov:=qou m||decide ((4:Int)<↑m.ae.length)
def qbo:=(!qov m)=true
def vw:=qbo m->qbo m
def mD:=↑m.aa.length<=(9223372036854775807:Int)
def YR:=qov m||decide ((4:Int)<↑m.aa.length)
def qow:=(!YR m)=true
def qhq:=qow m->qow m
def sE:List Int:=zw m.sig.length λi=>co (m.sig.getD i 0)
def VO:=mh (sE m)
def MK:=YR m||!VO m
variable (x1:Nat)
def BZ:=x1<=m.vars.length/\∀ j:Nat,j<x1->cl (m.vars.getD j 0)=true
def qox:=decide (m.vars.getD (↑x1:Int).toNat 0< -2147483648)
def qhr:=(!qox m x1)=true
def uM:=qhr m x1->qhr m x1
def XV:=qox m x1||decide (2147483647<m.vars.getD (↑x1:Int).toNat 0)
def qbr:=decide ((↑x1:Int)<(↑m.vars.length:Int))
def Bs:=x1<=m.ae.length/\∀ j:Nat,j<x1->-1<=m.ae.getD j 0
def Xy:=decide (m.ae.getD (↑x1:Int).toNat 0< -1)
def qbt:=decide ((↑x1:Int)<(↑m.ae.length:Int))
def qk:Nat:=(sE m).length
def qo:=co ((sE m).getD x1 0)
def qbu:List Int:=m.sig++(List.take x1 m.aa).flatten
def nK:Nat:=(qbu m x1).length
variable (x2:Nat)
def Bq:=co ((qbu m x1).getD x2 0)
def yW:Nat:=nK m x1+(m.aa.getD (↑x1:Int).toNat []).length
def qi:Nat:=m.aa.length - x1
def Zb:=yW m x1=nK m x2
def qj:=decide ((↑x1:Int)<(↑m.aa.length:Int))
def Jt:Int:=↑(nK m x1)
def qoy:=x1<=(allI m).length/\∀ j:Nat,j<x1->0<=(allI m).getD j 0/\aW (List.take j (allI m)) ((allI m).getD j 0)=false
def Kz:=nK m x1<=nK m x1
def D2:=LS (ab (qbu m x1)) (ab (allI m))
def YP:=decide ((allI m).getD (↑x1:Int).toNat 0<0)
def qhs:=(!YP m x1)=true
def XS:=qhs m x1->qhs m x1
variable (x0:Nat)
def Vc:Nat:=(↑x0 - (0:Int)).toNat
def P0:Nat->AV:=λi=>co ((allI m).getD (Int.toNat 0+i) 0)
def P3:Int:=(allI m).getD (↑x1:Int).toNat 0
def Io:=aW (zw (Vc x1) (P0 m)) (P3 m x1)
def EA:=YP m x1||Io m x1
def ZC:=decide ((↑x1:Int)<(↑(allI m).length:Int))
end
theorem zfn (hm:dN m):KN 236 [vM m] (.bool (cx m)):=by
 refine Kn {mj 89 (afv m)with fzL:=λk=>match Nat.beq k 22 with |true=>[249856] |false=>[]} Tryz.func236 (XP m/\q3f m/\q3f m/\(Yp m->Xe m)/\q3f m/\q3f m/\vw m/\vw m/\(qbo m->mD m)/\vw m/\vw m/\qhq m/\qhq m/\(qow m->KN 267 [ab m.sig] (AV.bool (VO m)))/\qhq m/\qhq m/\(MK m=true->false=cx m)/\(MK m=false->XP m/\(∃ i,BZ m i/\(LT (ab m.vars)/\RR (↑m.vars.length:Int)/\0=(↑i:Int))/\LT (ao m))/\∀ i:Nat,BZ m i->(qbr m i=true->ai (↑i) m.vars.length/\uM m i/\uM m i/\(XV m i=true->false=cx m)/\(XV m i=false->qa i/\(∃ j,BZ m j/\m.vars.length - j<m.vars.length - i/\(LT (ab m.vars)/\RR (↑m.vars.length:Int)/\qb i j)/\LT (ao m))))/\(qbr m i=false->Xe m/\(∃ i,Bs m i/\(LT (ab m.ae)/\RR (↑m.ae.length:Int)/\0=(↑i:Int))/\LT (ao m))/\∀ (i:Nat),Bs m i->(qbt m i=true->ai (↑i:Int) m.ae.length/\(Xy m i=true->false=cx m)/\(Xy m i=false->qa i/\∃ j,Bs m j/\m.ae.length - j<m.ae.length - i/\(LT (ab m.ae)/\RR (↑m.ae.length:Int)/\qb i j)/\LT (ao m)))/\(qbt m i=false->KF (201:Nat) [ab m.sig] (AV.own (0:Nat) m.sig.length) [aw.row (3:TypeId) leaf (qk m) λi=>qo m i]/\mD m/\(∃ i,i<=m.aa.length/\(m.sig.length=nK m i/\LT (aJ m.aa)/\RR (↑m.aa.length:Int)/\(0:Int)=(↑i:Int))/\qk m=nK m i/\∀ (ar:Nat),ar<qk m->qo m ar=Bq m i ar)/\∀ (i:Nat),i<=m.aa.length->(qj m i=true->ai (↑i:Int) m.aa.length/\(RR (nK m i)/\(↑(yW m i):Int)*(↑(8:Nat):Int)<=(140737488355328:Int)/\yW m i<=(9223372036854775807:Nat))/\qa i/\∃ j,j<=m.aa.length/\qi m j<qi m i/\(Zb m i j/\LT (aJ m.aa)/\RR (↑m.aa.length:Int)/\qb i j)/\Zb m i j/\∀ (ar:Nat),ar<yW m i->(if ar<(m.sig++(List.take i m.aa).flatten).length then Bq m i ar else AV.int j6 ((m.aa.getD (↑i:Int).toNat []).getD (ar - nK m i) (0:Int)))=Bq m j ar)/\(qj m i=false->Jt m i<=(9223372036854775807:Int)/\(∃ ar,qoy m ar/\Kz m i/\Kz m i/\D2 m i/\D2 m i/\Jt m i=(↑(allI m).length:Int)/\(0:Int)=(↑ar:Int))/\∀ (i:Nat),qoy m i->(ZC m i=true->ai (↑i:Int) (allI m).length/\XS m i/\XS m i/\(qhs m i->(0:Int)<=(0:Int)/\(0:Int)<=(↑i:Int)/\(↑i:Int)<=(↑(allI m).length:Int))/\XS m i/\XS m i/\(qhs m i->KN 106 [AV.seq leaf (Vc i) (P0 m),AV.int j6 (P3 m i)] (AV.bool (Io m i)))/\XS m i/\(EA m i=true->false=cx m)/\(EA m i=false->qa i/\∃ j,qoy m j/\(allI m).length - j<(allI m).length - i/\LT (ab (allI m))/\LT (ab (allI m))/\RR (↑(allI m).length:Int)/\qb i j))/\(ZC m i=false->true=cx m)))))) ?_;try delta XP qou Yp q3f Xe qov qbo vw mD YR qow qhq sE VO MK BZ qox qhr uM XV q9 qa qb qbr Bs Xy qbt qk qo qbu nK Bq yW qi Zb qj Jt qoy Kz D2 YP qhs XS Vc P0 P3 Io EA ZC
 simp only[SZ];simp only[oR];obtain⟨s1,s2,s3,s4,s5⟩:=hm;have hA:allI m=m.sig++m.aa.flatten:=rfl;have hAl:(allI m).length=m.sig.length+m.aa.flatten.length:=by rw[hA,xl]
 refine⟨ac,λ_=>ac,λ_=>ac,λ_=>aal _ s4,λh=>xW λM=>?_,λh0=>⟨ac,⟨0,⟨ac,λj hj=>ac⟩,rfl⟩,λi hi=>⟨λhlt=>⟨hlt,λh=>xW λM=>?_,λh=>⟨dl,i+1,⟨ac,λj hj=>?_⟩,ac,ac⟩⟩,λhge=>?_⟩⟩⟩
 . have h1:=M.vars;have h2:=M.ae;have h3:=M.aa;rcases h with h |h
   . omega
   . rw[CZ.2 M.ou]at h;cases h
 . have :=M.vU _ (rC hlt);omega
 . by_cases e2:j=i
   . subst e2;exact qI.2 ac
   . exact hi.2 j ac
 have hv:∀ x∈m.vars,cl x=true:=λx hx=>by
  obtain⟨j,hj,rfl⟩:=w6 hx;have :=hi.2 j ac;simpa [x7,hj]using this
 clear hi hge;refine⟨ac,⟨0,⟨ac,λj hj=>ac⟩,rfl⟩,λi hi=>⟨λhlt=>⟨hlt,λh=>xW λM=>?_,λh=>⟨dl,i+1,⟨ac,λj hj=>?_⟩,ac,ac⟩⟩,λhge=>?_⟩⟩
 . have :=M.own _ (rC hlt);omega
 . by_cases e2:j=i
   . subst e2;omega
   . exact hi.2 j ac
 have ho:∀ x∈m.ae,-1<=x:=λx hx=>by
  obtain⟨j,hj,rfl⟩:=w6 hx;have :=hi.2 j ac;simpa [x7,hj]using this
 clear hi hge;refine⟨uW _ s4,ac,⟨0,ac,⟨be,rfl⟩,be,λj hj=>be⟩,λi hi=>⟨λhlt=>?_,λhge=>?_⟩⟩
 . have h1:=zd0 m.aa i hlt;have h2:=zja m.aa i;have h3:=ZB m.aa i;have h4:(m.sig++(m.aa.take i).flatten).length<=1000000:=by rw[xl];omega
   refine⟨hlt,ey,dl,i+1,hlt,ac, ?_⟩;rw[h1,<- ww];exact⟨⟨by rw[xl (bs:=m.aa.getD i [])],ac⟩,by rw[xl (bs:=m.aa.getD i [])],λj hj=>zwu _ _ j⟩
 have e:m.sig++(m.aa.take i).flatten=allI m:=by rw[xv (by omega:m.aa.length<=i),hA]
 rw[e];clear hi hge;refine⟨ac,⟨0,⟨ac,λj hj=>ac⟩,eq,eq,rfl,rfl⟩,λi hi=>⟨λhlt=>?_,λhge=>?_⟩⟩
 . rw[za9 ac];refine⟨hlt,λ_=>ac,λ_=>zto ac (Q2 _ _ (by rw[xu];omega)),λh=>xW λM=>?_,λh=>⟨dl,i+1,⟨ac,λj hj=>?_⟩,ac,ac⟩⟩
   . rcases h with h |h
     . have :=M.pos _ (rC hlt);omega
     . obtain⟨j,hj,e⟩:=(zfl ac).1 h;exact(nodup_iff _).1 M.nd j i hj hlt e
   . by_cases e2:j=i
     . subst e2;exact⟨ac,h.2⟩
     . exact hi.2 j ac
 . symm;refine yT.2 ⟨ac,ac,ac,CZ.1 h0.2,λx hx=>qI.1 (hv x hx),ho, ?_, ?_⟩
   . exact((zcz _).1 (yy.2 λj hj=>by
      have :=hi.2 j (by have :=yu.1 hj;omega);rw[this.2];simp;exact this.1)).1
   . exact((zcz _).1 (yy.2 λj hj=>by
      have :=hi.2 j (by have :=yu.1 hj;omega);rw[this.2];simp;exact this.1)).2
section
variable (m:Mem)
def yH:List Int:=zw m.vars.length λi=>co (m.vars.getD i 0)
def ql:Nat:=(yH m).length
variable (x1:Nat)
def qu:=co ((yH m).getD x1 0)
def A4:List Int:=zw m.ae.length λi=>co (m.ae.getD i 0)
def qm:Nat:=(A4 m).length
def qv:=co ((A4 m).getD x1 0)
def AH:=(↑m.aa.length:Int).toNat=m.aa.length
variable (x2:Nat)
def vJ:=if x2<x1 then ab (m.aa.getD x2 [])else AV.aA
def oi:=ab (zw (m.aa.getD (↑x1:Int).toNat []).length λi=>co ((m.aa.getD (↑x1:Int).toNat []).getD i 0))
def Zw:=RR m.vars.length/\RR m.ae.length/\RR m.aa.length/\RR m.sig.length
def mI:=RR m.vars.length/\∀ (i:Nat),i<m.vars.length->RR (co (m.vars.getD i 0))
def mG:=RR m.ae.length/\∀ (i:Nat),i<m.ae.length->RR (co (m.ae.getD i 0))
def nT:=RR m.sig.length/\∀ (i:Nat),i<m.sig.length->RR (co (m.sig.getD i 0))
end
theorem zfo (hm:dN m):KF 116 [vM m] (wY m) (zeb m):=by
 refine pK (vM3 36 (λd=>Nat.beq d 8 || (Nat.beq d 11 || Nat.beq d 18)) (ztm m)) Tryz.func116 ((KF (201:Nat) [ab m.vars] (AV.own (0:Nat) m.vars.length) [aw.row (3:TypeId) leaf (ql m) λi=>qu m i])/\(KF (201:Nat) [ab m.ae] (AV.own (0:Nat) m.ae.length) [aw.row (3:TypeId) leaf (qm m) λi=>qv m i])/\mD m/\((0:Int)<=↑m.aa.length/\(↑m.aa.length:Int)<=(↑m.aa.length:Int)/\↑(24:Nat)*↑m.aa.length<=(140737488355328:Int)/\mD m)/\(KF (201:Nat) [ab m.sig] (AV.own (0:Nat) m.sig.length) [aw.row (3:TypeId) leaf (qk m) λi=>qo m i])/\mD m/\(∃ (i:Nat),i<=List.length (Mem.aa m)/\(LT (aJ (Mem.aa m))/\RR (↑(List.length (Mem.aa m)):Int)/\(0:Int)=(↑i:Int))/\LT (ao m)/\((0:Nat)=(0:Nat)/\(0:Nat)=(0:Nat)/\(0:Nat)=(0:Nat)/\(0:Nat)=(0:Nat))/\(RR (List.length (Mem.vars m))/\RR (List.length (Mem.ae m))/\AH m/\RR (List.length (Mem.sig m)))/\(ql m=List.length (Mem.vars m)/\∀ (i:Nat),i<ql m->qu m i=AV.int j6 (List.getD (Mem.vars m) i (0:Int)))/\(qm m=List.length (Mem.ae m)/\∀ (i:Nat),i<qm m->qv m i=AV.int j6 (List.getD (Mem.ae m) i (0:Int)))/\(AH m/\∀ (ar:Nat),ar<Int.toNat (↑(List.length (Mem.aa m)):Int)->AV.aA=vJ m i ar)/\qk m=List.length (Mem.sig m)/\∀ (i:Nat),i<qk m->qo m i=AV.int j6 (List.getD (Mem.sig m) i (0:Int)))/\∀ i:Nat,i<=m.aa.length->(qj m i=true->ai (↑i) m.aa.length/\KN 201 [ab (m.aa.getD (↑i:Int).toNat [])] (oi m i)/\ai (↑i) m.aa.length/\(↑i:Int).toNat<m.aa.length/\aU j6 (q9 i)/\(∃ j,j<=m.aa.length/\qi m j<qi m i/\(LT (aJ m.aa)/\RR (↑m.aa.length:Int)/\q9 i=(↑j:Int))/\LT (ao m)/\(LT (ab [])/\LT (ab [])/\LT (aJ [])/\LT (ab []))/\Zw m/\mI m/\mG m/\(RR m.aa.length/\∀ (ar:Nat),ar<m.aa.length->(if ar=(↑i:Int).toNat then av (oi m i)else vJ m i ar)=vJ m j ar)/\nT m))/\(qj m i=false->Zw m/\mI m/\mG m/\(RR m.aa.length/\∀ (ar:Nat),ar<m.aa.length->vJ m i ar=ab (m.aa.getD ar []))/\nT m)) ?_;try delta yH ql qu A4 qm qv mD sE qk qo AH vJ oi q9 qi Zw mI mG nT qj
 simp only[SZ];simp only[oR,wj,ym,yx];have s3:=hm.aa;refine⟨uW _ hm.vars,uW _ hm.ae,ac,ey,uW _ hm.sig,ac,⟨0,ac,rfl,λj hj=>by rw[x8 ac]⟩,λi hi=>⟨λhlt=>⟨hlt,zfm _ (hm.q i),hlt,hlt,dl,i+1,hlt,ac,ac,λj hj=>?_⟩,λhge j hj=>by rw[x9 ac]⟩⟩;by_cases e:j=i
 . subst e;rw[x9 rfl,x9 ac];rfl
 . rw[x8 e];by_cases h:j<i
   . rw[x9 h,x9 ac]
   . rw[x8 h,x8 ac]
section
variable (i:Int)
def qht:=decide (i<0)
def qhu:=(!qht i)=true
def uY:=qhu i->qhu i
variable (n:Int)
def Et:=qht i||decide (n<=i)
end
theorem X2 (e:dN m):KN 240 [vM m,co i,co n] (co (bM m i n)):=by
 refine Kn (mj 17 λ_=>none) Tryz.func240 (KN 236 [AV.mc zm (ao m)] (AV.bool (cx (dM (ao m))))/\((!cx (dM (ao m)))=true->1=bM m i n)/\((!cx (dM (ao m)))=false->uY i/\uY i/\uY i/\(Et i n=true->11=bM m i n)/\(Et i n=false->0=bM m i n))) ?_;try delta qht qhu uY Et
 simp only[SZ];refine⟨zfn m e,λh=>?_,λh=>⟨λh2=>?_,λh2=>?_⟩⟩
 . grind[bM]
 . grind[bM]
 . unfold bM;rw[x8 (by simp[h]),x8 ac]
theorem dD:(eg.vars.length=0/\eg.ae.length=0/\eg.aa.length=0/\eg.sig.length=0):=eq
theorem ma {m:Mem} {i n:Int} (h:bM m i n=0):cx m=true/\0<=i/\i<n:=by grind[bM]
theorem setRow (a v:Int) (j:Nat) (f:j<l.length):(if j=a.toNat then co v else co (l.getD j 0))=co ((l.set a.toNat v).getD j 0):=by
 rw[x7 (l:=l.set _ _),j8];by_cases e:a.toNat=j
 . grind
 . rw[x8 (λh=>e h.symm),x8 e,x7]
section
variable (m:Mem) (x:Int)
def Yd:=bM (dM (ao m)) x ↑m.vars.length !=0
end
theorem zpx (x:Int) (e:dN m):KN 175 [vM m,co x] (.ax [co (gT m x).1,co (gT m x).2]):=by
 refine Kn (mj 21 λ_=>none) Tryz.func175 (↑m.vars.length<=(9223372036854775807:Int)/\KN 240 [AV.mc zm (ao m),co x,co ↑m.vars.length] (co (bM (dM (ao m)) x ↑m.vars.length))/\(Yd m x=true->0=(gT m x).fst/\bM (dM (ao m)) x ↑m.vars.length=(gT m x).snd)/\(Yd m x=false->ai x m.vars.length/\m.vars.getD x.toNat 0=(gT m x).fst/\0=(gT m x).snd)) ?_;try delta Yd
 simp only[SZ];have f:=e.vars;refine⟨ac,X2 m _ _ e,λh=>?_,λh=>⟨(ma h).2, ?_⟩⟩
 . grind[gT]
 . unfold gT;rw[x8 (by simp[h])];exact eq
section
variable (m:Mem) (x:Int) (v:Int)
def Cq:=(zr m x v).fst.vars.length=0/\(zr m x v).fst.ae.length=0/\(zr m x v).fst.aa.length=0/\(zr m x v).fst.sig.length=0
def qc1:=decide (v< -2147483648)
def YX:=(!qc1 v)=true
def sv:=YX v->YX v
def sD:=qc1 v||decide (2147483647<v)
variable (x1:Nat)
def zD:=co ((dR dI (ab m.vars)).getD x1 0)
end
theorem zjb (x v:Int) (f:dN m):KN 185 [vM m,co x,co v] (.ax [vM (zr m x v).1,co (zr m x v).2]):=by
 refine Kn (mj 35 λ_=>none) Tryz.func185 (↑m.vars.length<=(9223372036854775807:Int)/\KN 240 [AV.mc zm (ao m),co x,co ↑m.vars.length] (co (bM (dM (ao m)) x ↑m.vars.length))/\(Yd m x=true->Cq m x v/\bM (dM (ao m)) x ↑m.vars.length=(zr m x v).snd)/\(Yd m x=false->sv v/\sv v/\(sD v=true->Cq m x v/\2=(zr m x v).snd)/\(sD v=false->(KF (116:Nat) [AV.mc zm (ao m)] (AV.mc zm (AV.agg [AV.own (0:Nat) (dR dI (ab m.vars)).length,AV.own (1:Nat) (dR dI (ab m.ae)).length,AV.own (2:Nat) (dR (dR dI) (aJ m.aa)).length,AV.own (3:Nat) (dR dI (ab m.sig)).length])) [aw.row (3:TypeId) leaf (dR dI (ab m.vars)).length λi=>zD m i,aw.row (3:TypeId) leaf (dR dI (ab m.ae)).length λi=>co ((dR dI (ab m.ae)).getD i (0:Int)),aw.row (31:TypeId) leaf (dR (dR dI) (aJ m.aa)).length λi=>ab ((dR (dR dI) (aJ m.aa)).getD i []),aw.row (3:TypeId) leaf (dR dI (ab m.sig)).length λi=>co ((dR dI (ab m.sig)).getD i (0:Int))])/\ai x (dR dI (ab m.vars)).length/\x.toNat<(dR dI (ab m.vars)).length/\(dR dI (ab m.vars)).length<=(dR dI (ab m.vars)).length/\(dR dI (ab m.ae)).length<=(dR dI (ab m.ae)).length/\(dR (dR dI) (aJ m.aa)).length<=(dR (dR dI) (aJ m.aa)).length/\(dR dI (ab m.sig)).length<=(dR dI (ab m.sig)).length/\(((dR dI (ab m.vars)).length=(zr m x v).fst.vars.length/\∀ i:Nat,i<(dR dI (ab m.vars)).length->(if i=x.toNat then av (av (co v))else zD m i)=co ((zr m x v).fst.vars.getD i 0))/\LS (ab (dR dI (ab m.ae))) (ab (zr m x v).fst.ae)/\LS (aJ (dR (dR dI) (aJ m.aa))) (aJ (zr m x v).fst.aa)/\LS (ab (dR dI (ab m.sig))) (ab (zr m x v).fst.sig))/\0=(zr m x v).snd))) ?_;try delta Cq Yd qc1 YX sv sD zD
 simp only[SZ];have s1:=f.vars;refine⟨ac,X2 m _ _ f,λh=>?_,λh=>⟨λhv=>?_,λhv=>⟨zfo m f,(ma h).2,by have :=(ma h).2;omega, ?_⟩⟩⟩
 . have e:zr m x v=(eg,bM m x m.vars.length):=by unfold zr;rw[x9 h]
   rw[e];exact⟨dD,rfl⟩
 . have e:zr m x v=(eg,2):=by unfold zr;rw[x8 (by simp[h]),x9 hv]
   rw[e];exact⟨dD,rfl⟩
 . have e:zr m x v=({m with vars:=m.vars.set x.toNat v},0):=by unfold zr;rw[x8 (by simp[h]),x8 ac]
   rw[e];exact⟨⟨⟨be,λj k=>setRow _ _ _ j k⟩,eq,eq,rfl,λ_ _=>rfl⟩,rfl⟩
section
variable (m:Mem) (i:Int)
def I7:=bM (dM (ao m)) i ↑m.ae.length==0
def qoz:=I7 m i=true
def OL:=qoz m i->qoz m i
end
theorem zpy (e:dN m):KN 177 [vM m,co i] (.bool (jU m i)):=by
 refine Kn (mj 20 λ_=>none) Tryz.func177 (↑m.ae.length<=(9223372036854775807:Int)/\KN 240 [AV.mc zm (ao m),co i,co ↑m.ae.length] (co (bM (dM (ao m)) i ↑m.ae.length))/\OL m i/\OL m i/\OL m i/\(qoz m i->ai i m.ae.length)/\OL m i/\OL m i/\OL m i/\(I7 m i&&m.ae.getD i.toNat 0== -1)=jU m i) ?_;try delta I7 qoz OL
 simp only[SZ];have f:=e.ae;exact⟨ac,X2 m _ _ e,λh=>(ma h).2,rfl⟩
section
variable (m:Mem) (i:Int) (id:Int) (a:Int) (b:Int)
def qp0:=(bm m i id a b).fst.vars.length=0/\(bm m i id a b).fst.ae.length=0/\(bm m i id a b).fst.aa.length=0/\(bm m i id a b).fst.sig.length=0
def Eh:=bM (dM (ao m)) i ↑m.ae.length !=0
def rY:=decide (id<0)
def Sd:=m.ae.getD i.toNat 0 !=a
variable (x1:Nat)
def rG:=co ((dR dI (ab m.ae)).getD x1 0)
end
theorem aag (id a b:Int) (f:dN m):KN 243 [vM m,co i,co id,co a,co b] (.ax [vM (bm m i id a b).1,co (bm m i id a b).2]):=by
 refine Kn (mj 43 λ_=>none) Tryz.func243 (↑m.ae.length<=(9223372036854775807:Int)/\KN 240 [AV.mc zm (ao m),co i,co ↑m.ae.length] (co (bM (dM (ao m)) i ↑m.ae.length))/\(Eh m i=true->qp0 m i id a b/\bM (dM (ao m)) i ↑m.ae.length=(bm m i id a b).snd)/\(Eh m i=false->(rY id=true->qp0 m i id a b/\2=(bm m i id a b).snd)/\(rY id=false->ai i m.ae.length/\(Sd m i a=true->qp0 m i id a b/\30=(bm m i id a b).snd)/\(Sd m i a=false->(KF (116:Nat) [AV.mc zm (ao m)] (AV.mc zm (AV.agg [AV.own (0:Nat) (dR dI (ab m.vars)).length,AV.own (1:Nat) (dR dI (ab m.ae)).length,AV.own (2:Nat) (dR (dR dI) (aJ m.aa)).length,AV.own (3:Nat) (dR dI (ab m.sig)).length])) [aw.row (3:TypeId) leaf (dR dI (ab m.vars)).length λi=>co ((dR dI (ab m.vars)).getD i (0:Int)),aw.row (3:TypeId) leaf (dR dI (ab m.ae)).length λi=>rG m i,aw.row (31:TypeId) leaf (dR (dR dI) (aJ m.aa)).length λi=>ab ((dR (dR dI) (aJ m.aa)).getD i []),aw.row (3:TypeId) leaf (dR dI (ab m.sig)).length λi=>co ((dR dI (ab m.sig)).getD i (0:Int))])/\ai i (dR dI (ab m.ae)).length/\i.toNat<(dR dI (ab m.ae)).length/\(dR dI (ab m.vars)).length<=(dR dI (ab m.vars)).length/\(dR dI (ab m.ae)).length<=(dR dI (ab m.ae)).length/\(dR (dR dI) (aJ m.aa)).length<=(dR (dR dI) (aJ m.aa)).length/\(dR dI (ab m.sig)).length<=(dR dI (ab m.sig)).length/\(LS (ab (dR dI (ab m.vars))) (ab (bm m i id a b).fst.vars)/\((dR dI (ab m.ae)).length=(bm m i id a b).fst.ae.length/\∀ (ar:Nat),ar<(dR dI (ab m.ae)).length->(if ar=i.toNat then av (av (co b))else rG m ar)=co ((bm m i id a b).fst.ae.getD ar 0))/\LS (aJ (dR (dR dI) (aJ m.aa))) (aJ (bm m i id a b).fst.aa)/\LS (ab (dR dI (ab m.sig))) (ab (bm m i id a b).fst.sig))/\0=(bm m i id a b).snd)))) ?_;try delta qp0 Eh rY Sd rG
 simp only[SZ];have k:=f.ae;refine⟨ac,X2 m _ _ f,λh=>?_,λh=>⟨λhv=>?_,λhv=>⟨(ma h).2,λhr=>?_,λhr=>⟨zfo m f,(ma h).2,by have :=(ma h).2;omega, ?_⟩⟩⟩⟩
 . have e:bm m i id a b=(eg,bM m i m.ae.length):=by unfold bm;rw[x9 h]
   rw[e];exact⟨dD,rfl⟩
 . have e:bm m i id a b=(eg,2):=by unfold bm;rw[x8 (by simp[h]),x9 hv]
   rw[e];exact⟨dD,rfl⟩
 . have e:bm m i id a b=(eg,30):=by unfold bm;rw[x8 (by simp[h]),x8 hv,x9 hr]
   rw[e];exact⟨dD,rfl⟩
 . have e:bm m i id a b=({m with ae:=m.ae.set i.toNat b},0):=by unfold bm;rw[x8 (by simp[h]),x8 hv,x8 (by simp only[ne_eq,yk];exact hr)]
   rw[e];exact⟨⟨eq,⟨be,λj hj=>setRow _ _ _ j hj⟩,eq,rfl,λ_ _=>rfl⟩,rfl⟩
def zpz (n:Nat):AV:= .mc zm (.agg [ab m.vars,ab m.ae, .seq .leaf n (λ_=> .aA), .aA])
def afj (id:Int) (k:Nat):Option Inv:=match Nat.beq k 2 with
 |true=>iw m.aa.length (λi=>⟨[(1,co id),(2, .ptr 2 []),(8,aJ m.aa),(9,co m.aa.length),(10,co i)],[(2,kt m)]⟩) λi=>∀ j,j<i ->aW (m.aa.getD j []) id=false
 |false=>none
def iN:Nat:=(min n ((m.aa.getD c.toNat []).length:Int)).toNat
def ak1:Option Inv:=match Nat.beq k 7 with
 |true=>some {ι:=Nat,S:=λi=>⟨[(1,co c),(2,co (iN m c n)),(6, .ptr 6 []),(10, .ptr 10 []),(39,ab ((m.aa.getD c.toNat []).take (iN m c n))),(40,co (iN m c n)),(41,co i)],[(6,kt eg),(10, .cell 38 zm (.agg [.own 102400 m.vars.length, .own 102401 m.ae.length, .own 102402 m.aa.length,ab (((m.aa.getD c.toNat []).take i).foldl cu m.sig)])),(102400,bI m.vars),(102401,bI m.ae),(102402,Av m.aa)]⟩,μ:=λi=>iN m c n - i,ok:=λi=>1<=i/\i<=iN m c n/\bM m c m.aa.length=0}
 |false=>none
def agt:Option Inv:=match Nat.beq k 3 with
 |true=>iv m.aa.length λi=>⟨[(1,co c),(2, .ptr 2 []),(4, .ptr 4 []),(7,co (eZ (m.aa.take i))),(11,aJ m.aa),(12,co m.aa.length),(13,co i)],[(2,kt m),(4,kt eg)]⟩
 |false=>none
def iM (p:aj) (i:Nat):List Int:=(p.vars.take i).map (·.init)
def aij (p:aj) (k:Nat):Option Inv:=match Nat.beq k 6 with
 |true=>iw p.vars.length (λi=>⟨[(1, .ptr 1 []),(2, .ptr 2 []),(7, .ptr 7 []),(26,fK p.vars),(27,co p.vars.length),(28,co i)],[(1,jO p),(2,kt eg),(7, .cell 38 zm (.agg [.own 37 (iM p i).length, .aA, .own 23 p.conds.length, .aA])),(37,bI (iM p i)),(23, .row 31 .leaf p.conds.length λ_=> .aA)]⟩) λi=>(zc p).1=0
 |false=>match Nat.beq k 11 with
  |true=>iw p.aS.length (λi=>⟨[(2, .ptr 2 []),(7, .ptr 7 []),(42,co p.aS.length),(43,co i)],[(2,kt eg),(7, .cell 38 zm (.agg [.own 37 p.vars.length, .own 48 i, .own 23 p.conds.length, .aA])),(37,bI (p.vars.map (·.init))),(48,bI (List.replicate i (-1))),(23, .row 31 .leaf p.conds.length λ_=> .aA)]⟩) λi=>(zc p).1=0
  |false=>none
end
end Go.Proofs.S25
