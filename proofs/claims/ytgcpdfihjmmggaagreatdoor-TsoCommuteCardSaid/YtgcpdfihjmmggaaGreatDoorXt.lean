import Derived.Test.YtgcpdfihjmmggaaGreatDoorXs
namespace Go.Proofs.S25
open Go Go.AV Tryz
open Go.IntKind renaming i64 -> j6
open Go.AV.ex (ey)
noncomputable section
variable (l:List Int) (m:i8) (c:Int) (i:Int) (n:Int) (k:Nat)
structure jZ (m:i8):Prop where
 eA:m.eA.length<=8
 aa:m.aa.length<=4
 a6:m.a6.length<=4
 mO:jC m.lT
 uZ:∀ x∈m.eA,-2147483648<=x/\x<=2147483647
 own:∀ x∈m.aa,-1<=x
 pos:∀ x∈kw m,0<=x
 nd:(kw m).Nodup
theorem oI {l:List Int} {i:Nat} (h:i<l.length):l.getD i 0∈l:=dl
theorem zfl {l:List Int} {i:Nat} {v:Int} (h:i<=l.length):aQ (l.take i) v=true↔∃ j,j<i/\v=l.getD j 0:=by
 rw[tY];have hl:(l.take i).length=i:=dl;constructor;rintro⟨j,e,f⟩;rw[hl]at e;refine⟨j,e, ?_⟩;rw[f,x7,x7,y5 e];rintro⟨j,e,f⟩;refine⟨j,O, ?_⟩;rw[f,x7,x7,y5 e]
theorem nodup_iff:l.Nodup↔∀ i j,i<j ->j<l.length ->l.getD j 0≠l.getD i 0:=by
 unfold List.Nodup;rw[wh];constructor;intro h i j f k;have :=h i j (by omega) k f;simpa [x7,k,(show i<l.length by omega)]using λe=>this e.symm;intro h i j m k f;grind
theorem zcz:Fs l=true↔(∀ x∈l,0<=x)/\l.Nodup:=by
 unfold Fs;rw[yu,nodup_iff];simp only[yl,xa,xi,xh];constructor;intro h;refine⟨λx m=>?_,λi j f r e=>?_⟩;obtain⟨i,k,rfl⟩:=yq m;grind;have :=(h j r).2;rw[<- jy,zfl O]at this;exact this ⟨i,f,e⟩;rintro⟨s,u⟩ i k;refine⟨by have :=s _ (oI k);omega, ?_⟩;rw[<- jy,zfl O];grind
theorem z47 {m:i8}:ca m=true↔jZ m:=by
 unfold ca;simp[Qa,zcz];constructor;rintro⟨⟨u,s,r⟩,k,j,i,h,f⟩;exact⟨O,O,O,k,λx e=>oh.1 (j x e),i,h,f⟩;rintro⟨u,s,r,k,j,i,h,f⟩;exact⟨⟨O,O,O⟩,k,λx e=>oh.2 (j x e),i,h,f⟩
theorem ua {m:i8} (h:jZ m ->False):false=ca m:=by
 cases e:ca m with
 |false=>rfl
 |true=>exact(h (z47.1 e)).elim
theorem ztn {l:List (List Int)} {i:Nat} (h:i<l.length):l.getD i []∈l:=dl
theorem zd0 (l:List (List Int)) (i:Nat) (f:i<l.length):(l.take (i+1)).flatten=(l.take i).flatten++l.getD i []:=by
 have e:l.take (i+1)=l.take i++[l.getD i []]:=by
  simp_all
 rw[e,List.flatten_append];simp
theorem zja (l:List (List Int)) (i:Nat):(l.take i).flatten.length<=l.flatten.length:=by
 have :l.flatten=(l.take i).flatten++(l.drop i).flatten:=by rw[<- List.flatten_append,List.take_append_drop]
 grind
theorem TJ (l:List (List Int)) (i:Nat):(l.getD i []).length<=l.flatten.length:=by
 by_cases e:i<l.length;have h:=zd0 l i e;have f:=zja l (i+1);rw[h,xl]at f;omega;grind
theorem dk.q {m:i8} (f:dk m) (i:Nat):(m.a6.getD i []).length<=1000000:=by
 have e:=f.all;have h:=TJ m.a6 i;unfold kw at e;rw[xl]at e;omega
theorem zwu (L q:List Int) (j:Nat):(if j<L.length then d9 (L.getD j 0)else d9 (q.getD (j - L.length) 0))=d9 ((L++q).getD j 0):=by
 split;rename_i h;rw[x7,x7,ya h];rename_i h;rw[x7,x7,y6 O]
theorem za9 {l:List Int} {i:Nat} (h:i<=l.length):zw i (λj=>d9 (l.getD j 0))=l.take i:=by
 show(List.range i).map _=_;apply j5 co;intro j e k;have f:j<i:=by simpa using e
 simp[dI,(show j<l.length by omega)]
theorem zto {g:FuncId} {l:List Int} {i:Nat} {v:Int} {r:AV} (f:i<=l.length) (h:KN g [a8 (l.take i),d9 v] r):KN g [.seq .ey i λj=>d9 (l.getD j 0),d9 v] r:=by
 refine h.weaken (args':=[_,_]) rfl ⟨⟨rfl,by rw[xr];omega,λj e=>?_⟩,⟨rfl,rfl⟩,trivial⟩;show d9 (l.getD j 0)=d9 ((l.take i).getD j 0);rw[x7,x7,y5 e]
theorem rD (hl:l.length<=1000000):KF 225 [a8 l] (.own 0 l.length) [bw l]:=by
 refine nc (kL 11 λ_=>none) func225 (q8 l/\((0:Int)<=↑l.length/\(↑l.length:Int)<=(↑l.length:Int)/\↑(8:Nat)*↑l.length<=(140737488355328:Int)/\q8 l)/\((↑l.length:Int).toNat<=(↑l.length:Int).toNat/\(↑(↑l.length:Int).toNat:Int)<=9223372036854775807)/\(↑l.length:Int).toNat=l.length/\(↑l.length:Int).toNat=l.length/\∀ i:Nat,i<(↑l.length:Int).toNat->(if i<min l.length (↑l.length:Int).toNat then d9 (l.getD i 0)else d9 0)=d9 (l.getD i 0)) ?_;try delta q8
 simp only[SZ];grind
section
variable (l:List Int)
def CZ:=(↑l.length:Int).toNat<=(↑l.length:Int).toNat
end
theorem zfm (hl:l.length<=1000000):KN 225 [a8 l] (a8 l):=by
 refine Kn (kL 11 λ_=>none) func225 (q8 l/\((0:Int)<=↑l.length/\(↑l.length:Int)<=(↑l.length:Int)/\↑(8:Nat)*↑l.length<=(140737488355328:Int)/\q8 l)/\(CZ l/\(↑(↑l.length:Int).toNat:Int)<=9223372036854775807)/\CZ l/\(↑l.length:Int).toNat=l.length/\∀ i:Nat,i<(↑l.length:Int).toNat->(if i<min l.length (↑l.length:Int).toNat then d9 (l.getD i 0)else d9 0)=d9 (l.getD i 0)) ?_;try delta q8 CZ
 simp only[SZ];grind
section
variable (m:i8)
def Ux:=↑m.eA.length<=(9223372036854775807:Int)
def qou:=decide ((8:Int)<↑m.eA.length)
def Tz:=(!qou m)=true
def rl:=Tz m->Tz m
def UW:=↑m.aa.length<=(9223372036854775807:Int)
def qov:=qou m||decide ((4:Int)<↑m.aa.length)
def TX:=(!qov m)=true
def qY:=TX m->TX m
def lk:=↑m.a6.length<=(9223372036854775807:Int)
def qbp:=qov m||decide ((4:Int)<↑m.a6.length)
def qow:=(!qbp m)=true
def YM:=qow m->qow m
def qB:List Int:=zw m.lT.length λi=>d9 (m.lT.getD i 0)
def N1:=kU (qB m)
def QT:=qbp m||!N1 m
variable (x1:Nat)
def yG:=x1<=m.eA.length/\∀ j:Nat,j<x1->bZ (m.eA.getD j 0)=true
def qox:=decide (m.eA.getD (↑x1:Int).toNat 0< -2147483648)
def qhr:=(!qox m x1)=true
def rj:=qhr m x1->qhr m x1
def WR:=qox m x1||decide (2147483647<m.eA.getD (↑x1:Int).toNat 0)
def US:=decide ((↑x1:Int)<(↑m.eA.length:Int))
def vp:=x1<=m.aa.length/\∀ j:Nat,j<x1->-1<=m.aa.getD j 0
def TU:=decide (m.aa.getD (↑x1:Int).toNat 0< -1)
def UI:=decide ((↑x1:Int)<(↑m.aa.length:Int))
def qk:Nat:=(qB m).length
def qo:=d9 ((qB m).getD x1 0)
def TW:List Int:=m.lT++(List.take x1 m.a6).flatten
def m9:Nat:=(TW m x1).length
variable (x2:Nat)
def vq:=d9 ((TW m x1).getD x2 0)
def sB:Nat:=m9 m x1+(m.a6.getD (↑x1:Int).toNat []).length
def qi:Nat:=m.a6.length - x1
def WQ:=sB m x1=m9 m x2
def qj:=decide ((↑x1:Int)<(↑m.a6.length:Int))
def CI:Int:=↑(m9 m x1)
def qoy:=x1<=(kw m).length/\∀ j:Nat,j<x1->0<=(kw m).getD j 0/\aQ (List.take j (kw m)) ((kw m).getD j 0)=false
def Kl:=m9 m x1<=m9 m x1
def GF:=LS (a8 (TW m x1)) (a8 (kw m))
def Wz:=decide ((kw m).getD (↑x1:Int).toNat 0<0)
def Zs:=(!Wz m x1)=true
def UG:=Zs m x1->Zs m x1
variable (x0:Nat)
def Fp:Nat:=(↑x0 - (0:Int)).toNat
def Gq:Nat->AV:=λi=>d9 ((kw m).getD (Int.toNat 0+i) 0)
def B7:Int:=(kw m).getD (↑x1:Int).toNat 0
def HY:=aQ (zw (Fp x1) (Gq m)) (B7 m x1)
def Ni:=Wz m x1||HY m x1
def XE:=decide ((↑x1:Int)<(↑(kw m).length:Int))
end
theorem zfn (hm:MWk m):KN 173 [vM m] (.bool (ca m)):=by
 refine Kn {kL 89 (aeb m)with ZC:=λk=>match Nat.beq k 22 with |true=>[249856] |false=>[]} func173 (Ux m/\rl m/\rl m/\(Tz m->UW m)/\rl m/\rl m/\qY m/\qY m/\(TX m->lk m)/\qY m/\qY m/\YM m/\YM m/\(qow m->KN 224 [a8 m.lT] (AV.bool (N1 m)))/\YM m/\YM m/\Z (QT m) (false=ca m) (Ux m/\(∃ i,yG m i/\(LT (a8 m.eA)/\RR (↑m.eA.length:Int)/\0=(↑i:Int))/\LT (aj m))/\∀ i:Nat,yG m i->Z (US m i) (af (↑i) m.eA.length/\rj m i/\rj m i/\Z (WR m i) (false=ca m) (qa i/\(∃ j,yG m j/\m.eA.length - j<m.eA.length - i/\(LT (a8 m.eA)/\RR (↑m.eA.length:Int)/\qb i j)/\LT (aj m)))) (UW m/\(∃ i,vp m i/\(LT (a8 m.aa)/\RR (↑m.aa.length:Int)/\0=(↑i:Int))/\LT (aj m))/\∀ (i:Nat),vp m i->Z (UI m i) (af (↑i:Int) m.aa.length/\Z (TU m i) (false=ca m) (qa i/\∃ j,vp m j/\m.aa.length - j<m.aa.length - i/\(LT (a8 m.aa)/\RR (↑m.aa.length:Int)/\qb i j)/\LT (aj m))) (KF (225:Nat) [a8 m.lT] (AV.own (0:Nat) m.lT.length) [ar.row (3:TypeId) ey (qk m) λi=>qo m i]/\lk m/\(∃ i,i<=m.a6.length/\(m.lT.length=m9 m i/\LT (aE m.a6)/\RR (↑m.a6.length:Int)/\(0:Int)=(↑i:Int))/\qk m=m9 m i/\∀ (i_1:Nat),i_1<qk m->qo m i_1=vq m i i_1)/\∀ (i:Nat),i<=m.a6.length->Z (qj m i) (af (↑i:Int) m.a6.length/\(RR (m9 m i)/\(↑(sB m i):Int)*(↑(8:Nat):Int)<=(140737488355328:Int)/\sB m i<=(9223372036854775807:Nat))/\qa i/\∃ j,j<=m.a6.length/\qi m j<qi m i/\(WQ m i j/\LT (aE m.a6)/\RR (↑m.a6.length:Int)/\qb i j)/\WQ m i j/\∀ (i_1:Nat),i_1<sB m i->(if i_1<(m.lT++(List.take i m.a6).flatten).length then vq m i i_1 else AV.int j6 ((m.a6.getD (↑i:Int).toNat []).getD (i_1 - m9 m i) (0:Int)))=vq m j i_1) (aH (CI m i)/\(∃ i_1,qoy m i_1/\Kl m i/\Kl m i/\GF m i/\GF m i/\CI m i=(↑(kw m).length:Int)/\(0:Int)=(↑i_1:Int))/\∀ (i:Nat),qoy m i->Z (XE m i) (af (↑i:Int) (kw m).length/\UG m i/\UG m i/\(Zs m i->(0:Int)<=(0:Int)/\(0:Int)<=(↑i:Int)/\(↑i:Int)<=(↑(kw m).length:Int))/\UG m i/\UG m i/\(Zs m i->KN 53 [AV.seq ey (Fp i) (Gq m),AV.int j6 (B7 m i)] (AV.bool (HY m i)))/\UG m i/\Z (Ni m i) (false=ca m) (qa i/\∃ j,qoy m j/\(kw m).length - j<(kw m).length - i/\LT (a8 (kw m))/\LT (a8 (kw m))/\RR (↑(kw m).length:Int)/\qb i j)) (true=ca m)))))) ?_;try delta Z aH Ux qou Tz rl UW qov TX qY lk qbp qow YM qB N1 QT yG qox qhr rj WR q9 qa qb US vp TU UI qk qo TW m9 vq sB qi WQ qj CI qoy Kl GF Wz Zs UG Fp Gq B7 HY Ni XE
 simp only[SZ];simp only[oR];have⟨s1,s2,s3,s4,s5⟩:=hm;have hA:kw m=m.lT++m.a6.flatten:=rfl;have hAl:(kw m).length=m.lT.length+m.a6.flatten.length:=by rw[hA,xl]
 refine⟨O,λ_=>O,λ_=>O,λ_=>YH _ O,λh=>ua λM=>?_,λh0=>⟨O,⟨0,⟨O,λj hj=>O⟩,rfl⟩,λi hi=>⟨λhlt=>⟨hlt,λh=>ua λM=>?_,λh=>⟨f9,i+1,⟨O,λj hj=>?_⟩,O,O⟩⟩,λhge=>?_⟩⟩⟩;have h1:=M.eA;have h2:=M.aa;have h3:=M.a6;rcases h with h |h;omega;rw[Qa.2 M.mO]at h;cases h;have :=M.uZ _ (oI hlt);omega;by_cases e2:j=i;subst e2;exact oh.2 O;exact hi.2 j O;have hv:∀ x∈m.eA,bZ x=true:=λx hx=>by
  obtain⟨j,hj,rfl⟩:=yq hx;have :=hi.2 j O;simpa [x7,hj]using this
 clear hi hge;refine⟨O,⟨0,⟨O,λj hj=>O⟩,rfl⟩,λi hi=>⟨λhlt=>⟨hlt,λh=>ua λM=>?_,λh=>⟨f9,i+1,⟨O,λj hj=>?_⟩,O,O⟩⟩,λhge=>?_⟩⟩;have :=M.own _ (oI hlt);omega;by_cases e2:j=i;subst e2;omega;exact hi.2 j O;have ho:∀ x∈m.aa,-1<=x:=λx hx=>by
  obtain⟨j,hj,rfl⟩:=yq hx;have :=hi.2 j O;simpa [x7,hj]using this
 clear hi hge;have s5:=s5 O;refine⟨rD _ s4,O,⟨0,O,⟨ap,rfl⟩,ap,λj hj=>ap⟩,λi hi=>⟨λhlt=>?_,λhge=>?_⟩⟩;have h1:=zd0 m.a6 i hlt;have h2:=zja m.a6 i;have h3:=TJ m.a6 i;have h4:(m.lT++(m.a6.take i).flatten).length<=1000000:=by rw[xl];omega
 refine⟨hlt,⟨O,O⟩,f9,i+1,hlt,O, ?_⟩;rw[h1,<- wq];exact⟨⟨by rw[xl (bs:=m.a6.getD i [])],O⟩,by rw[xl (bs:=m.a6.getD i [])],λj hj=>zwu _ _ j⟩;have e:m.lT++(m.a6.take i).flatten=kw m:=by rw[xu (by omega:m.a6.length<=i),hA]
 rw[e];clear hi hge;refine⟨O,⟨0,⟨O,λj hj=>O⟩,⟨rfl,λ_ _=>rfl⟩,⟨rfl,λ_ _=>rfl⟩,rfl,rfl⟩,λi hi=>⟨λhlt=>?_,λhge=>?_⟩⟩;rw[za9 O];refine⟨hlt,λ_=>O,λ_=>zto O (Ny _ _ (by rw[xr];omega)),λh=>ua λM=>?_,λh=>⟨f9,i+1,⟨O,λj hj=>?_⟩,O,O⟩⟩;rcases h with h |h;have :=M.pos _ (oI hlt);omega;have⟨j,hj,e⟩:=(zfl O).1 h;exact(nodup_iff _).1 M.nd j i hj hlt e;by_cases e2:j=i;subst e2;exact⟨O,h.2⟩;exact hi.2 j O;symm;refine z47.2 ⟨O,O,O,Qa.1 h0.2,λx hx=>oh.1 (hv x hx),ho, ?_, ?_⟩;exact((zcz _).1 (yu.2 λj hj=>by
  have :=hi.2 j (by have :=yl.1 hj;omega);rw[this.2];simp;exact this.1)).1
 exact((zcz _).1 (yu.2 λj hj=>by
  have :=hi.2 j (by have :=yl.1 hj;omega);rw[this.2];simp;exact this.1)).2
section
variable (m:i8)
def sQ:List Int:=zw m.eA.length λi=>d9 (m.eA.getD i 0)
def ql:Nat:=(sQ m).length
variable (x1:Nat)
def qu:=d9 ((sQ m).getD x1 0)
def tZ:List Int:=zw m.aa.length λi=>d9 (m.aa.getD i 0)
def qm:Nat:=(tZ m).length
def qv:=d9 ((tZ m).getD x1 0)
def uv:=(↑m.a6.length:Int).toNat=m.a6.length
variable (x2:Nat)
def rR:=if x2<x1 then a8 (m.a6.getD x2 [])else AV.ax
def mE:=a8 (zw (m.a6.getD (↑x1:Int).toNat []).length λi=>d9 ((m.a6.getD (↑x1:Int).toNat []).getD i 0))
def Xz:=RR m.eA.length/\RR m.aa.length/\RR m.a6.length/\RR m.lT.length
def lp:=RR m.eA.length/\∀ (i:Nat),i<m.eA.length->RR (d9 (m.eA.getD i 0))
def lg:=RR m.aa.length/\∀ (i:Nat),i<m.aa.length->RR (d9 (m.aa.getD i 0))
def mw:=RR m.lT.length/\∀ (i:Nat),i<m.lT.length->RR (d9 (m.lT.getD i 0))
end
theorem zfo (hm:dk m):KF 185 [vM m] (va m) (zeb m):=by
 refine nc (vM3 36 (λd=>Nat.beq d 8 || (Nat.beq d 11 || Nat.beq d 18)) (ztm m)) func185 ((KF (225:Nat) [a8 m.eA] (AV.own (0:Nat) m.eA.length) [ar.row (3:TypeId) ey (ql m) λi=>qu m i])/\(KF (225:Nat) [a8 m.aa] (AV.own (0:Nat) m.aa.length) [ar.row (3:TypeId) ey (qm m) λi=>qv m i])/\lk m/\((0:Int)<=↑m.a6.length/\(↑m.a6.length:Int)<=(↑m.a6.length:Int)/\↑(24:Nat)*↑m.a6.length<=(140737488355328:Int)/\lk m)/\(KF (225:Nat) [a8 m.lT] (AV.own (0:Nat) m.lT.length) [ar.row (3:TypeId) ey (qk m) λi=>qo m i])/\lk m/\(∃ (i:Nat),i<=List.length (i8.a6 m)/\(LT (aE (i8.a6 m))/\RR (↑(List.length (i8.a6 m)):Int)/\(0:Int)=(↑i:Int))/\LT (aj m)/\(bt/\bt/\bt/\bt)/\(RR (List.length (i8.eA m))/\RR (List.length (i8.aa m))/\uv m/\RR (List.length (i8.lT m)))/\(ql m=List.length (i8.eA m)/\∀ (i:Nat),i<ql m->qu m i=AV.int j6 (List.getD (i8.eA m) i (0:Int)))/\(qm m=List.length (i8.aa m)/\∀ (i:Nat),i<qm m->qv m i=AV.int j6 (List.getD (i8.aa m) i (0:Int)))/\(uv m/\∀ (i_1:Nat),i_1<Int.toNat (↑(List.length (i8.a6 m)):Int)->AV.ax=rR m i i_1)/\qk m=List.length (i8.lT m)/\∀ (i:Nat),i<qk m->qo m i=AV.int j6 (List.getD (i8.lT m) i (0:Int)))/\∀ i:Nat,i<=m.a6.length->Z (qj m i) (af (↑i) m.a6.length/\KN 225 [a8 (m.a6.getD (↑i:Int).toNat [])] (mE m i)/\af (↑i) m.a6.length/\(↑i:Int).toNat<m.a6.length/\aM j6 (q9 i)/\(∃ j,j<=m.a6.length/\qi m j<qi m i/\(LT (aE m.a6)/\RR (↑m.a6.length:Int)/\q9 i=(↑j:Int))/\LT (aj m)/\(LT (a8 [])/\LT (a8 [])/\LT (aE [])/\LT (a8 []))/\Xz m/\lp m/\lg m/\(RR m.a6.length/\∀ (i_1:Nat),i_1<m.a6.length->(if i_1=(↑i:Int).toNat then aq (mE m i)else rR m i i_1)=rR m j i_1)/\mw m)) (Xz m/\lp m/\lg m/\(RR m.a6.length/\∀ (i_1:Nat),i_1<m.a6.length->rR m i i_1=a8 (m.a6.getD i_1 []))/\mw m)) ?_;try delta Z bt sQ ql qu tZ qm qv lk qB qk qo uv rR mE q9 qi Xz lp lg mw qj
 simp only[SZ];simp only[oR,w8,wg,w6];have s3:=hm.a6;refine⟨rD _ hm.eA,rD _ hm.aa,O,⟨O,O⟩,rD _ hm.lT,O,⟨0,O,rfl,λj hj=>by rw[x8 O]⟩,λi hi=>⟨λhlt=>⟨hlt,zfm _ (hm.q i),hlt,hlt,f9,i+1,hlt,O,O,λj hj=>?_⟩,λhge j hj=>by rw[x9 O]⟩⟩;by_cases e:j=i;subst e;rw[x9 rfl,x9 O];rfl;rw[x8 e];by_cases h:j<i;rw[x9 h,x9 O];rw[x8 h,x8 O]
section
variable (i:Int)
def qht:=decide (i<0)
def YP:=(!qht i)=true
def rn:=YP i->YP i
variable (n:Int)
def yI:=qht i||decide (n<=i)
end
theorem TC (e:dk m):KN 189 [vM m,d9 i,d9 n] (d9 (bC m i n)):=by
 refine Kn (kL 17 λ_=>none) func189 (KN 173 [AV.mc zm (aj m)] (AV.bool (ca (dM (aj m))))/\Z (!ca (dM (aj m))) (1=bC m i n) (rn i/\rn i/\rn i/\Z (yI i n) (11=bC m i n) (0=bC m i n))) ?_;try delta Z qht YP rn yI
 simp only[SZ];refine⟨zfn m e.wo,λh=>?_,λh=>⟨λh2=>?_,λh2=>?_⟩⟩;grind[bC];grind[bC];unfold bC;rw[x8 (by simp[h]),x8 O]
theorem df:(du.eA.length=0/\du.aa.length=0/\du.a6.length=0/\du.lT.length=0):=⟨rfl,rfl,rfl,rfl⟩
theorem kM {m:i8} {i n:Int} (h:bC m i n=0):ca m=true/\0<=i/\i<n:=by grind[bC]
theorem setRow (a v:Int) (j:Nat) (f:j<l.length):(if j=a.toNat then d9 v else d9 (l.getD j 0))=d9 ((l.set a.toNat v).getD j 0):=by
 rw[x7 (l:=l.set _ _),gq];by_cases e:a.toNat=j;grind;rw[x8 (λh=>e h.symm),x8 e,x7]
section
variable (m:i8) (x:Int)
def Wm:=bC (dM (aj m)) x ↑m.eA.length !=0
end
theorem zpx (x:Int) (e:dk m):KN 227 [vM m,d9 x] (.av [d9 (fo m x).1,d9 (fo m x).2]):=by
 refine Kn (kL 21 λ_=>none) func227 (aH ↑m.eA.length/\KN 189 [AV.mc zm (aj m),d9 x,d9 ↑m.eA.length] (d9 (bC (dM (aj m)) x ↑m.eA.length))/\Z (Wm m x) (0=(fo m x).fst/\bC (dM (aj m)) x ↑m.eA.length=(fo m x).snd) (af x m.eA.length/\m.eA.getD x.toNat 0=(fo m x).fst/\0=(fo m x).snd)) ?_;try delta Z aH Wm
 simp only[SZ];have f:=e.eA;refine⟨O,TC m _ _ e,λh=>?_,λh=>⟨(kM h).2, ?_⟩⟩;grind[fo];unfold fo;rw[x8 (by simp[h])];exact⟨rfl,rfl⟩
section
variable (m:i8) (x:Int) (v:Int)
def DS:=(zr m x v).fst.eA.length=0/\(zr m x v).fst.aa.length=0/\(zr m x v).fst.a6.length=0/\(zr m x v).fst.lT.length=0
def Vt:=decide (v< -2147483648)
def U5:=(!Vt v)=true
def oD:=U5 v->U5 v
def oZ:=Vt v||decide (2147483647<v)
variable (x1:Nat)
def v7:=d9 ((dR dI (a8 m.eA)).getD x1 0)
end
theorem zjb (x v:Int) (f:dk m):KN 127 [vM m,d9 x,d9 v] (.av [vM (zr m x v).1,d9 (zr m x v).2]):=by
 refine Kn (kL 35 λ_=>none) func127 (aH ↑m.eA.length/\KN 189 [AV.mc zm (aj m),d9 x,d9 ↑m.eA.length] (d9 (bC (dM (aj m)) x ↑m.eA.length))/\Z (Wm m x) (DS m x v/\bC (dM (aj m)) x ↑m.eA.length=(zr m x v).snd) (oD v/\oD v/\Z (oZ v) (DS m x v/\2=(zr m x v).snd) ((KF (185:Nat) [AV.mc zm (aj m)] (AV.mc zm (AV.agg [AV.own (0:Nat) (dR dI (a8 m.eA)).length,AV.own (1:Nat) (dR dI (a8 m.aa)).length,AV.own (2:Nat) (dR (dR dI) (aE m.a6)).length,AV.own (3:Nat) (dR dI (a8 m.lT)).length])) [ar.row (3:TypeId) ey (dR dI (a8 m.eA)).length λi=>v7 m i,ar.row (3:TypeId) ey (dR dI (a8 m.aa)).length λi=>d9 ((dR dI (a8 m.aa)).getD i (0:Int)),ar.row (29:TypeId) ey (dR (dR dI) (aE m.a6)).length λi=>a8 ((dR (dR dI) (aE m.a6)).getD i []),ar.row (3:TypeId) ey (dR dI (a8 m.lT)).length λi=>d9 ((dR dI (a8 m.lT)).getD i (0:Int))])/\af x (dR dI (a8 m.eA)).length/\x.toNat<(dR dI (a8 m.eA)).length/\(dR dI (a8 m.eA)).length<=(dR dI (a8 m.eA)).length/\(dR dI (a8 m.aa)).length<=(dR dI (a8 m.aa)).length/\(dR (dR dI) (aE m.a6)).length<=(dR (dR dI) (aE m.a6)).length/\(dR dI (a8 m.lT)).length<=(dR dI (a8 m.lT)).length/\(((dR dI (a8 m.eA)).length=(zr m x v).fst.eA.length/\∀ i:Nat,i<(dR dI (a8 m.eA)).length->(if i=x.toNat then aq (aq (d9 v))else v7 m i)=d9 ((zr m x v).fst.eA.getD i 0))/\LS (a8 (dR dI (a8 m.aa))) (a8 (zr m x v).fst.aa)/\LS (aE (dR (dR dI) (aE m.a6))) (aE (zr m x v).fst.a6)/\LS (a8 (dR dI (a8 m.lT))) (a8 (zr m x v).fst.lT))/\0=(zr m x v).snd))) ?_;try delta Z aH DS Wm Vt U5 oD oZ v7
 simp only[SZ];have s1:=f.eA;refine⟨O,TC m _ _ f,λh=>?_,λh=>⟨λhv=>?_,λhv=>⟨zfo m f,(kM h).2,by have :=(kM h).2;omega, ?_⟩⟩⟩;have e:zr m x v=(du,bC m x m.eA.length):=by unfold zr;rw[x9 h]
 rw[e];exact⟨df,rfl⟩;have e:zr m x v=(du,2):=by unfold zr;rw[x8 (by simp[h]),x9 hv]
 rw[e];exact⟨df,rfl⟩;have e:zr m x v=({m with eA:=m.eA.set x.toNat v},0):=by unfold zr;rw[x8 (by simp[h]),x8 O]
 rw[e];exact⟨⟨⟨ap,λj k=>setRow _ _ _ j k⟩,⟨rfl,λ_ _=>rfl⟩,⟨rfl,λ_ _=>rfl⟩,rfl,λ_ _=>rfl⟩,rfl⟩
section
variable (m:i8) (i:Int)
def Lb:=bC (dM (aj m)) i ↑m.aa.length==0
def qoz:=Lb m i=true
def LV:=qoz m i->qoz m i
end
theorem zpy (e:dk m):KN 228 [vM m,d9 i] (.bool (iJ m i)):=by
 refine Kn (kL 20 λ_=>none) func228 (aH ↑m.aa.length/\KN 189 [AV.mc zm (aj m),d9 i,d9 ↑m.aa.length] (d9 (bC (dM (aj m)) i ↑m.aa.length))/\LV m i/\LV m i/\LV m i/\(qoz m i->af i m.aa.length)/\LV m i/\LV m i/\LV m i/\(Lb m i&&m.aa.getD i.toNat 0== -1)=iJ m i) ?_;try delta aH Lb qoz LV
 simp only[SZ];have f:=e.aa;exact⟨O,TC m _ _ e,λh=>(kM h).2,rfl⟩
section
variable (m:i8) (i:Int) (id:Int) (a:Int) (b:Int)
def qp0:=(bc m i id a b).fst.eA.length=0/\(bc m i id a b).fst.aa.length=0/\(bc m i id a b).fst.a6.length=0/\(bc m i id a b).fst.lT.length=0
def AP:=bC (dM (aj m)) i ↑m.aa.length !=0
def pw:=decide (id<0)
def JN:=m.aa.getD i.toNat 0 !=a
variable (x1:Nat)
def oq:=d9 ((dR dI (a8 m.aa)).getD x1 0)
end
theorem aaw (id a b:Int) (f:dk m):KN 252 [vM m,d9 i,d9 id,d9 a,d9 b] (.av [vM (bc m i id a b).1,d9 (bc m i id a b).2]):=by
 refine Kn (kL 43 λ_=>none) func252 (aH ↑m.aa.length/\KN 189 [AV.mc zm (aj m),d9 i,d9 ↑m.aa.length] (d9 (bC (dM (aj m)) i ↑m.aa.length))/\Z (AP m i) (qp0 m i id a b/\bC (dM (aj m)) i ↑m.aa.length=(bc m i id a b).snd) (Z (pw id) (qp0 m i id a b/\2=(bc m i id a b).snd) (af i m.aa.length/\Z (JN m i a) (qp0 m i id a b/\30=(bc m i id a b).snd) ((KF (185:Nat) [AV.mc zm (aj m)] (AV.mc zm (AV.agg [AV.own (0:Nat) (dR dI (a8 m.eA)).length,AV.own (1:Nat) (dR dI (a8 m.aa)).length,AV.own (2:Nat) (dR (dR dI) (aE m.a6)).length,AV.own (3:Nat) (dR dI (a8 m.lT)).length])) [ar.row (3:TypeId) ey (dR dI (a8 m.eA)).length λi=>d9 ((dR dI (a8 m.eA)).getD i (0:Int)),ar.row (3:TypeId) ey (dR dI (a8 m.aa)).length λi=>oq m i,ar.row (29:TypeId) ey (dR (dR dI) (aE m.a6)).length λi=>a8 ((dR (dR dI) (aE m.a6)).getD i []),ar.row (3:TypeId) ey (dR dI (a8 m.lT)).length λi=>d9 ((dR dI (a8 m.lT)).getD i (0:Int))])/\af i (dR dI (a8 m.aa)).length/\i.toNat<(dR dI (a8 m.aa)).length/\(dR dI (a8 m.eA)).length<=(dR dI (a8 m.eA)).length/\(dR dI (a8 m.aa)).length<=(dR dI (a8 m.aa)).length/\(dR (dR dI) (aE m.a6)).length<=(dR (dR dI) (aE m.a6)).length/\(dR dI (a8 m.lT)).length<=(dR dI (a8 m.lT)).length/\(LS (a8 (dR dI (a8 m.eA))) (a8 (bc m i id a b).fst.eA)/\((dR dI (a8 m.aa)).length=(bc m i id a b).fst.aa.length/\∀ (i_1:Nat),i_1<(dR dI (a8 m.aa)).length->(if i_1=i.toNat then aq (aq (d9 b))else oq m i_1)=d9 ((bc m i id a b).fst.aa.getD i_1 0))/\LS (aE (dR (dR dI) (aE m.a6))) (aE (bc m i id a b).fst.a6)/\LS (a8 (dR dI (a8 m.lT))) (a8 (bc m i id a b).fst.lT))/\0=(bc m i id a b).snd)))) ?_;try delta Z aH qp0 AP pw JN oq
 simp only[SZ];have k:=f.aa;refine⟨O,TC m _ _ f,λh=>?_,λh=>⟨λhv=>?_,λhv=>⟨(kM h).2,λhr=>?_,λhr=>⟨zfo m f,(kM h).2,by have :=(kM h).2;omega, ?_⟩⟩⟩⟩;have e:bc m i id a b=(du,bC m i m.aa.length):=by unfold bc;rw[x9 h]
 rw[e];exact⟨df,rfl⟩;have e:bc m i id a b=(du,2):=by unfold bc;rw[x8 (by simp[h]),x9 hv]
 rw[e];exact⟨df,rfl⟩;have e:bc m i id a b=(du,30):=by unfold bc;rw[x8 (by simp[h]),x8 hv,x9 hr]
 rw[e];exact⟨df,rfl⟩;have e:bc m i id a b=({m with aa:=m.aa.set i.toNat b},0):=by unfold bc;rw[x8 (by simp[h]),x8 hv,x8 (by simp only[ne_eq,ye];exact hr)]
 rw[e];exact⟨⟨⟨rfl,λ_ _=>rfl⟩,⟨ap,λj hj=>setRow _ _ _ j hj⟩,⟨rfl,λ_ _=>rfl⟩,rfl,λ_ _=>rfl⟩,rfl⟩
def zpz (n:Nat):AV:= .mc zm (.agg [a8 m.eA,a8 m.aa, .seq .ey n (λ_=> .ax), .ax])
def ahg (id:Int) (k:Nat):Option lm:=match Nat.beq k 2 with
 |true=>iw m.a6.length (λi=>⟨[(1,d9 id),(2, .ptr 2 []),(8,aE m.a6),(9,d9 m.a6.length),(10,d9 i)],[(2,iY m)]⟩) λi=>∀ j,j<i ->aQ (m.a6.getD j []) id=false
 |false=>none
def gZ:Nat:=(min n ((m.a6.getD c.toNat []).length:Int)).toNat
def afl:Option lm:=match Nat.beq k 7 with
 |true=>some {ι:=Nat,S:=λi=>⟨[(1,d9 c),(2,d9 (gZ m c n)),(6, .ptr 6 []),(10, .ptr 10 []),(39,a8 ((m.a6.getD c.toNat []).take (gZ m c n))),(40,d9 (gZ m c n)),(41,d9 i)],[(6,iY du),(10, .cell 32 zm (.agg [.own 102400 m.eA.length, .own 102401 m.aa.length, .own 102402 m.a6.length,a8 (((m.a6.getD c.toNat []).take i).foldl c9 m.lT)])),(102400,bw m.eA),(102401,bw m.aa),(102402,tM m.a6)]⟩,μ:=λi=>gZ m c n - i,ok:=λi=>1<=i/\i<=gZ m c n/\bC m c m.a6.length=0}
 |false=>none
def acz:Option lm:=match Nat.beq k 3 with
 |true=>iv m.a6.length λi=>⟨[(1,d9 c),(2, .ptr 2 []),(4, .ptr 4 []),(7,d9 (z1z (m.a6.take i))),(11,aE m.a6),(12,d9 m.a6.length),(13,d9 i)],[(2,iY m),(4,iY du)]⟩
 |false=>none
def gQ (p:ai) (i:Nat):List Int:=(p.eA.take i).map (·.init)
def afy (p:ai) (k:Nat):Option lm:=match Nat.beq k 6 with
 |true=>iw p.eA.length (λi=>⟨[(1, .ptr 1 []),(2, .ptr 2 []),(7, .ptr 7 []),(26,eP p.eA),(27,d9 p.eA.length),(28,d9 i)],[(1,iM p),(2,iY du),(7, .cell 32 zm (.agg [.own 37 (gQ p i).length, .ax, .own 23 p.kC.length, .ax])),(37,bw (gQ p i)),(23, .row 29 .ey p.kC.length λ_=> .ax)]⟩) λi=>(zc p).1=0
 |false=>match Nat.beq k 11 with
  |true=>iw p.aP.length (λi=>⟨[(2, .ptr 2 []),(7, .ptr 7 []),(42,d9 p.aP.length),(43,d9 i)],[(2,iY du),(7, .cell 32 zm (.agg [.own 37 p.eA.length, .own 48 i, .own 23 p.kC.length, .ax])),(37,bw (p.eA.map (·.init))),(48,bw (List.replicate i (-1))),(23, .row 29 .ey p.kC.length λ_=> .ax)]⟩) λi=>(zc p).1=0
  |false=>none
end
end Go.Proofs.S25
