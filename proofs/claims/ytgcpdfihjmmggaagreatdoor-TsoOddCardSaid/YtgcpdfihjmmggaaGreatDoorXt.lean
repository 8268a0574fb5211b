import Derived.Test.YtgcpdfihjmmggaaGreatDoorXs
namespace Go.Proofs.S25
open Go Go.AV
open Go.IntKind renaming i64 -> j6
open Go.AV.Shape (leaf)
noncomputable section
variable (l:List Int) (m:Mem) (c:Int) (i:Int) (n:Int) (k:Nat)
structure jZ (m:Mem):Prop where
 vars:m.vars.length<=8
 aa:m.aa.length<=4
 a6:m.a6.length<=4
 mO:jC m.sig
 uZ:∀ x∈m.vars,-2147483648<=x/\x<=2147483647
 own:∀ x∈m.aa,-1<=x
 pos:∀ x∈allI m,0<=x
 nd:(allI m).Nodup
theorem oI {l:List Int} {i:Nat} (h:i<l.length):l.getD i 0∈l:=by grind
theorem zfl {l:List Int} {i:Nat} {v:Int} (hi:i<=l.length):aQ (l.take i) v=true↔∃ j,j<i/\v=l.getD j 0:=by
 rw[tY]
 have hl:(l.take i).length=i:=by grind
 constructor
 . rintro⟨j,h1,h2⟩
   rw[hl]at h1
   refine⟨j,h1, ?_⟩
   rw[h2,x7,x7,y5 h1]
 . rintro⟨j,h1,h2⟩
   refine⟨j,by omega, ?_⟩
   rw[h2,x7,x7,y5 h1]
theorem nodup_iff:l.Nodup↔∀ i j,i<j ->j<l.length ->l.getD j 0≠l.getD i 0:=by
 unfold List.Nodup
 rw[wh]
 constructor
 . intro h i j hij hj
   have :=h i j (by omega) hj hij
   simpa [x7,hj,(show i<l.length by omega)]using λe=>this e.symm
 . intro h i j hi hj hij
   grind
theorem zcz:Fs l=true↔(∀ x∈l,0<=x)/\l.Nodup:=by
 unfold Fs
 rw[yu,nodup_iff]
 simp only[yl,xa,xi,xh]
 constructor
 . intro h
   refine⟨λx hx=>?_,λi j hij hj e=>?_⟩
   . obtain⟨i,hi,rfl⟩:=yq hx
     grind
   . have :=(h j hj).2
     rw[<- jy,zfl (by omega)]at this
     exact this ⟨i,hij,e⟩
 . rintro⟨h1,h2⟩ i hi
   refine⟨by have :=h1 _ (oI hi);omega, ?_⟩
   rw[<- jy,zfl (by omega)]
   grind
theorem uE {m:Mem}:ca m=true↔jZ m:=by
 unfold ca
 simp[Qa,zcz]
 constructor
 . rintro⟨⟨h1,h2,h3⟩,h4,h5,h6,h7,h8⟩
   exact⟨by omega,by omega,by omega,h4,λx hx=>oh.1 (h5 x hx),h6,h7,h8⟩
 . rintro⟨h1,h2,h3,h4,h5,h6,h7,h8⟩
   exact⟨⟨by omega,by omega,by omega⟩,h4,λx hx=>oh.2 (h5 x hx),h6,h7,h8⟩
theorem ua {m:Mem} (h:jZ m ->False):false=ca m:=by
 cases hf:ca m with
 |false=>rfl
 |true=>exact(h (uE.1 hf)).elim
theorem ztn {l:List (List Int)} {i:Nat} (h:i<l.length):l.getD i []∈l:=by grind
theorem zd0 (l:List (List Int)) (i:Nat) (hi:i<l.length):(l.take (i+1)).flatten=(l.take i).flatten++l.getD i []:=by
 have e:l.take (i+1)=l.take i++[l.getD i []]:=by
  simp_all
 rw[e,List.flatten_append];simp
theorem zja (l:List (List Int)) (i:Nat):(l.take i).flatten.length<=l.flatten.length:=by
 have :l.flatten=(l.take i).flatten++(l.drop i).flatten:=by rw[<- List.flatten_append,List.take_append_drop]
 grind
theorem TJ (l:List (List Int)) (i:Nat):(l.getD i []).length<=l.flatten.length:=by
 by_cases hi:i<l.length
 . have h1:=zd0 l i hi
   have h2:=zja l (i+1)
   rw[h1,xl]at h2;omega
 . grind
theorem dk.q {m:Mem} (hm:dk m) (i:Nat):(m.a6.getD i []).length<=1000000:=by
 have h1:=hm.all
 have h2:=TJ m.a6 i
 unfold allI at h1
 rw[xl]at h1;omega
theorem zwu (L q:List Int) (j:Nat):(if j<L.length then AV.int .i64 (L.getD j 0)else AV.int .i64 (q.getD (j - L.length) 0))=AV.int .i64 ((L++q).getD j 0):=by
 split
 . rename_i h
   rw[x7,x7,ya h]
 . rename_i h
   rw[x7,x7,y6 (by omega)]
theorem za9 {l:List Int} {i:Nat} (hi:i<=l.length):zw i (λj=>AV.int .i64 (l.getD j 0))=l.take i:=by
 show(List.range i).map _=_
 apply j5 (by simp;omega)
 intro j h1 h2
 have hj:j<i:=by simpa using h1
 simp[dI,(show j<l.length by omega)]
theorem zto {g:FuncId} {l:List Int} {i:Nat} {v:Int} {r:AV} (hi:i<=l.length) (h:KN g [a8 (l.take i), .int .i64 v] r):KN g [.seq .leaf i λj=>AV.int .i64 (l.getD j 0), .int .i64 v] r:=by
 refine h.weaken (args':=[_,_]) rfl ⟨⟨rfl,by rw[xr];omega,λj hj=>?_⟩,⟨rfl,rfl⟩,trivial⟩
 show AV.int .i64 (l.getD j 0)=AV.int .i64 ((l.take i).getD j 0)
 rw[x7,x7,y5 hj]
theorem rD (hl:l.length<=1000000):KF 225 [a8 l] (.own 0 l.length) [bw l]:=by
 refine nc (kL 11 λ_=>none) Tryz.func225 (kX l/\((0:Int)<=↑l.length/\(↑l.length:Int)<=(↑l.length:Int)/\↑(8:Nat)*↑l.length<=(140737488355328:Int)/\kX l)/\((↑l.length:Int).toNat<=(↑l.length:Int).toNat/\(↑(↑l.length:Int).toNat:Int)<=9223372036854775807)/\(↑l.length:Int).toNat=l.length/\(↑l.length:Int).toNat=l.length/\∀ i:Nat,i<(↑l.length:Int).toNat->(if i<min l.length (↑l.length:Int).toNat then AV.int j6 (l.getD i 0)else AV.int j6 0)=AV.int j6 (l.getD i 0)) ?_
 try delta kX
 simp only[SZ]
 grind
section
variable (l:List Int)
def CZ:=(↑l.length:Int).toNat<=(↑l.length:Int).toNat
end
theorem zfm (hl:l.length<=1000000):KN 225 [a8 l] (a8 l):=by
 refine Kn (kL 11 λ_=>none) Tryz.func225 (kX l/\((0:Int)<=↑l.length/\(↑l.length:Int)<=(↑l.length:Int)/\↑(8:Nat)*↑l.length<=(140737488355328:Int)/\kX l)/\(CZ l/\(↑(↑l.length:Int).toNat:Int)<=9223372036854775807)/\CZ l/\(↑l.length:Int).toNat=l.length/\∀ i:Nat,i<(↑l.length:Int).toNat->(if i<min l.length (↑l.length:Int).toNat then AV.int j6 (l.getD i 0)else AV.int j6 0)=AV.int j6 (l.getD i 0)) ?_
 try delta kX CZ
 simp only[SZ]
 grind
section
variable (m:Mem)
def Ux:=↑m.vars.length<=(9223372036854775807:Int)
def qou:=decide ((8:Int)<↑m.vars.length)
def Tz:=(!qou m)=true
def rl:=Tz m->Tz m
def UW:=↑m.aa.length<=(9223372036854775807:Int)
def qov:=qou m||decide ((4:Int)<↑m.aa.length)
def TX:=(!qov m)=true
def qY:=TX m->TX m
def lk:=↑m.a6.length<=(9223372036854775807:Int)
def Un:=qov m||decide ((4:Int)<↑m.a6.length)
def qow:=(!Un m)=true
def YM:=qow m->qow m
def qB:List Int:=zw m.sig.length λi=>AV.int j6 (m.sig.getD i 0)
def N1:=kU (qB m)
def QT:=Un m||!N1 m
variable (x1:Nat)
def yG:=x1<=m.vars.length/\∀ j:Nat,j<x1->bZ (m.vars.getD j 0)=true
def qox:=decide (m.vars.getD (↑x1:Int).toNat 0< -2147483648)
def qhr:=(!qox m x1)=true
def rj:=qhr m x1->qhr m x1
def WR:=qox m x1||decide (2147483647<m.vars.getD (↑x1:Int).toNat 0)
def US:=decide ((↑x1:Int)<(↑m.vars.length:Int))
def vp:=x1<=m.aa.length/\∀ j:Nat,j<x1->-1<=m.aa.getD j 0
def TU:=decide (m.aa.getD (↑x1:Int).toNat 0< -1)
def UI:=decide ((↑x1:Int)<(↑m.aa.length:Int))
def qk:Nat:=(qB m).length
def qo:=AV.int j6 ((qB m).getD x1 0)
def TW:List Int:=m.sig++(List.take x1 m.a6).flatten
def m9:Nat:=(TW m x1).length
variable (x2:Nat)
def vq:=AV.int j6 ((TW m x1).getD x2 0)
def sB:Nat:=m9 m x1+(m.a6.getD (↑x1:Int).toNat []).length
def qi:Nat:=m.a6.length - x1
def WQ:=sB m x1=m9 m x2
def qj:=decide ((↑x1:Int)<(↑m.a6.length:Int))
def CI:Int:=↑(m9 m x1)
def qoy:=x1<=(allI m).length/\∀ j:Nat,j<x1->0<=(allI m).getD j 0/\aQ (List.take j (allI m)) ((allI m).getD j 0)=false
def Kl:=m9 m x1<=m9 m x1
def GF:=LS (a8 (TW m x1)) (a8 (allI m))
def Wz:=decide ((allI m).getD (↑x1:Int).toNat 0<0)
def Zs:=(!Wz m x1)=true
def UG:=Zs m x1->Zs m x1
variable (x0:Nat)
def Fp:Nat:=(↑x0 - (0:Int)).toNat
def Gq:Nat->AV:=λi=>AV.int j6 ((allI m).getD (Int.toNat 0+i) 0)
def B7:Int:=(allI m).getD (↑x1:Int).toNat 0
def HY:=aQ (zw (Fp x1) (Gq m)) (B7 m x1)
def Ni:=Wz m x1||HY m x1
def XE:=decide ((↑x1:Int)<(↑(allI m).length:Int))
end
theorem zfn (hm:MWk m):KN 173 [vM m] (.bool (ca m)):=by
 refine Kn {kL 89 (aeb m)with ZC:=λk=>match Nat.beq k 22 with |true=>[249856] |false=>[]} Tryz.func173 (Ux m/\rl m/\rl m/\(Tz m->UW m)/\rl m/\rl m/\qY m/\qY m/\(TX m->lk m)/\qY m/\qY m/\YM m/\YM m/\(qow m->KN 224 [a8 m.sig] (AV.bool (N1 m)))/\YM m/\YM m/\(QT m=true->false=ca m)/\(QT m=false->Ux m/\(∃ i,yG m i/\(LT (a8 m.vars)/\RR (↑m.vars.length:Int)/\0=(↑i:Int))/\LT (aj m))/\∀ i:Nat,yG m i->(US m i=true->af (↑i) m.vars.length/\rj m i/\rj m i/\(WR m i=true->false=ca m)/\(WR m i=false->qa i/\(∃ j,yG m j/\m.vars.length - j<m.vars.length - i/\(LT (a8 m.vars)/\RR (↑m.vars.length:Int)/\qb i j)/\LT (aj m))))/\(US m i=false->UW m/\(∃ i,vp m i/\(LT (a8 m.aa)/\RR (↑m.aa.length:Int)/\0=(↑i:Int))/\LT (aj m))/\∀ (i:Nat),vp m i->(UI m i=true->af (↑i:Int) m.aa.length/\(TU m i=true->false=ca m)/\(TU m i=false->qa i/\∃ j,vp m j/\m.aa.length - j<m.aa.length - i/\(LT (a8 m.aa)/\RR (↑m.aa.length:Int)/\qb i j)/\LT (aj m)))/\(UI m i=false->KF (225:Nat) [a8 m.sig] (AV.own (0:Nat) m.sig.length) [ar.row (3:TypeId) leaf (qk m) λi=>qo m i]/\lk m/\(∃ i,i<=m.a6.length/\(m.sig.length=m9 m i/\LT (aE m.a6)/\RR (↑m.a6.length:Int)/\(0:Int)=(↑i:Int))/\qk m=m9 m i/\∀ (i_1:Nat),i_1<qk m->qo m i_1=vq m i i_1)/\∀ (i:Nat),i<=m.a6.length->(qj m i=true->af (↑i:Int) m.a6.length/\(RR (m9 m i)/\(↑(sB m i):Int)*(↑(8:Nat):Int)<=(140737488355328:Int)/\sB m i<=(9223372036854775807:Nat))/\qa i/\∃ j,j<=m.a6.length/\qi m j<qi m i/\(WQ m i j/\LT (aE m.a6)/\RR (↑m.a6.length:Int)/\qb i j)/\WQ m i j/\∀ (i_1:Nat),i_1<sB m i->(if i_1<(m.sig++(List.take i m.a6).flatten).length then vq m i i_1 else AV.int j6 ((m.a6.getD (↑i:Int).toNat []).getD (i_1 - m9 m i) (0:Int)))=vq m j i_1)/\(qj m i=false->CI m i<=(9223372036854775807:Int)/\(∃ i_1,qoy m i_1/\Kl m i/\Kl m i/\GF m i/\GF m i/\CI m i=(↑(allI m).length:Int)/\(0:Int)=(↑i_1:Int))/\∀ (i:Nat),qoy m i->(XE m i=true->af (↑i:Int) (allI m).length/\UG m i/\UG m i/\(Zs m i->(0:Int)<=(0:Int)/\(0:Int)<=(↑i:Int)/\(↑i:Int)<=(↑(allI m).length:Int))/\UG m i/\UG m i/\(Zs m i->KN 53 [AV.seq leaf (Fp i) (Gq m),AV.int j6 (B7 m i)] (AV.bool (HY m i)))/\UG m i/\(Ni m i=true->false=ca m)/\(Ni m i=false->qa i/\∃ j,qoy m j/\(allI m).length - j<(allI m).length - i/\LT (a8 (allI m))/\LT (a8 (allI m))/\RR (↑(allI m).length:Int)/\qb i j))/\(XE m i=false->true=ca m)))))) ?_
 try delta Ux qou Tz rl UW qov TX qY lk Un qow YM qB N1 QT yG qox qhr rj WR q9 qa qb US vp TU UI qk qo TW m9 vq sB qi WQ qj CI qoy Kl GF Wz Zs UG Fp Gq B7 HY Ni XE
 simp only[SZ]
 simp only[oR]
 obtain⟨s1,s2,s3,s4,s5⟩:=hm
 have hA:allI m=m.sig++m.a6.flatten:=rfl
 have hAl:(allI m).length=m.sig.length+m.a6.flatten.length:=by rw[hA,xl]
 refine⟨by omega,λ_=>by omega,λ_=>by omega,λ_=>YH _ (by omega),λh=>ua λM=>?_,λh0=>⟨by omega,⟨0,⟨by omega,λj hj=>by omega⟩,rfl⟩,λi hi=>⟨λhlt=>⟨hlt,λh=>ua λM=>?_,λh=>⟨za (by omega) (by omega),i+1,⟨by omega,λj hj=>?_⟩,by omega,by omega⟩⟩,λhge=>?_⟩⟩⟩
 . have h1:=M.vars
   have h2:=M.aa
   have h3:=M.a6
   rcases h with h |h
   . omega
   . rw[Qa.2 M.mO]at h;cases h
 . have :=M.uZ _ (oI hlt);omega
 . by_cases e2:j=i
   . subst e2;exact oh.2 (by omega)
   . exact hi.2 j (by omega)
 have hv:∀ x∈m.vars,bZ x=true:=λx hx=>by
  obtain⟨j,hj,rfl⟩:=yq hx
  have :=hi.2 j (by omega)
  simpa [x7,hj]using this
 clear hi hge
 refine⟨by omega,⟨0,⟨by omega,λj hj=>by omega⟩,rfl⟩,λi hi=>⟨λhlt=>⟨hlt,λh=>ua λM=>?_,λh=>⟨za (by omega) (by omega),i+1,⟨by omega,λj hj=>?_⟩,by omega,by omega⟩⟩,λhge=>?_⟩⟩
 . have :=M.own _ (oI hlt);omega
 . by_cases e2:j=i
   . subst e2;omega
   . exact hi.2 j (by omega)
 have ho:∀ x∈m.aa,-1<=x:=λx hx=>by
  obtain⟨j,hj,rfl⟩:=yq hx
  have :=hi.2 j (by omega)
  simpa [x7,hj]using this
 clear hi hge
 have s5:=s5 (by omega)
 refine⟨rD _ s4,by omega,⟨0,by omega,⟨by simp,rfl⟩,by simp,λj hj=>by simp⟩,λi hi=>⟨λhlt=>?_,λhge=>?_⟩⟩
 . have h1:=zd0 m.a6 i hlt
   have h2:=zja m.a6 i
   have h3:=TJ m.a6 i
   have h4:(m.sig++(m.a6.take i).flatten).length<=1000000:=by rw[xl];omega
   refine⟨hlt,⟨by omega,by omega⟩,za (by omega) (by omega),i+1,hlt,by omega, ?_⟩
   rw[h1,<- wq]
   exact⟨⟨by rw[xl (bs:=m.a6.getD i [])],by omega⟩,by rw[xl (bs:=m.a6.getD i [])],λj hj=>zwu _ _ j⟩
 have e:m.sig++(m.a6.take i).flatten=allI m:=by rw[xu (by omega:m.a6.length<=i),hA]
 rw[e]
 clear hi hge
 refine⟨by omega,⟨0,⟨by omega,λj hj=>by omega⟩,⟨rfl,λ_ _=>rfl⟩,⟨rfl,λ_ _=>rfl⟩,rfl,rfl⟩,λi hi=>⟨λhlt=>?_,λhge=>?_⟩⟩
 . rw[za9 (by omega)]
   refine⟨hlt,λ_=>by omega,λ_=>zto (by omega) (Ny _ _ (by rw[xr];omega)),λh=>ua λM=>?_,λh=>⟨za (by omega) (by omega),i+1,⟨by omega,λj hj=>?_⟩,by omega,by omega⟩⟩
   . rcases h with h |h
     . have :=M.pos _ (oI hlt);omega
     . obtain⟨j,hj,e⟩:=(zfl (by omega)).1 h
       exact(nodup_iff _).1 M.nd j i hj hlt e
   . by_cases e2:j=i
     . subst e2;exact⟨by omega,h.2⟩
     . exact hi.2 j (by omega)
 . symm
   refine uE.2 ⟨by omega,by omega,by omega,Qa.1 h0.2,λx hx=>oh.1 (hv x hx),ho, ?_, ?_⟩
   . exact((zcz _).1 (yu.2 λj hj=>by
      have :=hi.2 j (by have :=yl.1 hj;omega)
      rw[this.2];simp;exact this.1)).1
   . exact((zcz _).1 (yu.2 λj hj=>by
      have :=hi.2 j (by have :=yl.1 hj;omega)
      rw[this.2];simp;exact this.1)).2
section
variable (m:Mem)
def sQ:List Int:=zw m.vars.length λi=>AV.int j6 (m.vars.getD i 0)
def ql:Nat:=(sQ m).length
variable (x1:Nat)
def qu:=AV.int j6 ((sQ m).getD x1 0)
def tZ:List Int:=zw m.aa.length λi=>AV.int j6 (m.aa.getD i 0)
def qm:Nat:=(tZ m).length
def qv:=AV.int j6 ((tZ m).getD x1 0)
def uv:=(↑m.a6.length:Int).toNat=m.a6.length
variable (x2:Nat)
def rR:=if x2<x1 then a8 (m.a6.getD x2 [])else AV.ax
def mE:=a8 (zw (m.a6.getD (↑x1:Int).toNat []).length λi=>AV.int j6 ((m.a6.getD (↑x1:Int).toNat []).getD i 0))
def Xz:=RR m.vars.length/\RR m.aa.length/\RR m.a6.length/\RR m.sig.length
def lp:=RR m.vars.length/\∀ (i:Nat),i<m.vars.length->RR (AV.int j6 (m.vars.getD i 0))
def lg:=RR m.aa.length/\∀ (i:Nat),i<m.aa.length->RR (AV.int j6 (m.aa.getD i 0))
def mw:=RR m.sig.length/\∀ (i:Nat),i<m.sig.length->RR (AV.int j6 (m.sig.getD i 0))
end
theorem zfo (hm:dk m):KF 185 [vM m] (va m) (zeb m):=by
 refine nc (vM3 36 (λd=>Nat.beq d 8 || (Nat.beq d 11 || Nat.beq d 18)) (ztm m)) Tryz.func185 ((KF (225:Nat) [a8 m.vars] (AV.own (0:Nat) m.vars.length) [ar.row (3:TypeId) leaf (ql m) λi=>qu m i])/\(KF (225:Nat) [a8 m.aa] (AV.own (0:Nat) m.aa.length) [ar.row (3:TypeId) leaf (qm m) λi=>qv m i])/\lk m/\((0:Int)<=↑m.a6.length/\(↑m.a6.length:Int)<=(↑m.a6.length:Int)/\↑(24:Nat)*↑m.a6.length<=(140737488355328:Int)/\lk m)/\(KF (225:Nat) [a8 m.sig] (AV.own (0:Nat) m.sig.length) [ar.row (3:TypeId) leaf (qk m) λi=>qo m i])/\lk m/\(∃ (i:Nat),i<=List.length (Mem.a6 m)/\(LT (aE (Mem.a6 m))/\RR (↑(List.length (Mem.a6 m)):Int)/\(0:Int)=(↑i:Int))/\LT (aj m)/\((0:Nat)=(0:Nat)/\(0:Nat)=(0:Nat)/\(0:Nat)=(0:Nat)/\(0:Nat)=(0:Nat))/\(RR (List.length (Mem.vars m))/\RR (List.length (Mem.aa m))/\uv m/\RR (List.length (Mem.sig m)))/\(ql m=List.length (Mem.vars m)/\∀ (i:Nat),i<ql m->qu m i=AV.int j6 (List.getD (Mem.vars m) i (0:Int)))/\(qm m=List.length (Mem.aa m)/\∀ (i:Nat),i<qm m->qv m i=AV.int j6 (List.getD (Mem.aa m) i (0:Int)))/\(uv m/\∀ (i_1:Nat),i_1<Int.toNat (↑(List.length (Mem.a6 m)):Int)->AV.ax=rR m i i_1)/\qk m=List.length (Mem.sig m)/\∀ (i:Nat),i<qk m->qo m i=AV.int j6 (List.getD (Mem.sig m) i (0:Int)))/\∀ i:Nat,i<=m.a6.length->(qj m i=true->af (↑i) m.a6.length/\KN 225 [a8 (m.a6.getD (↑i:Int).toNat [])] (mE m i)/\af (↑i) m.a6.length/\(↑i:Int).toNat<m.a6.length/\aM j6 (q9 i)/\(∃ j,j<=m.a6.length/\qi m j<qi m i/\(LT (aE m.a6)/\RR (↑m.a6.length:Int)/\q9 i=(↑j:Int))/\LT (aj m)/\(LT (a8 [])/\LT (a8 [])/\LT (aE [])/\LT (a8 []))/\Xz m/\lp m/\lg m/\(RR m.a6.length/\∀ (i_1:Nat),i_1<m.a6.length->(if i_1=(↑i:Int).toNat then aq (mE m i)else rR m i i_1)=rR m j i_1)/\mw m))/\(qj m i=false->Xz m/\lp m/\lg m/\(RR m.a6.length/\∀ (i_1:Nat),i_1<m.a6.length->rR m i i_1=a8 (m.a6.getD i_1 []))/\mw m)) ?_
 try delta sQ ql qu tZ qm qv lk qB qk qo uv rR mE q9 qi Xz lp lg mw qj
 simp only[SZ]
 simp only[oR,w8,wg,w6]
 have s3:=hm.a6
 refine⟨rD _ hm.vars,rD _ hm.aa,by omega,⟨by omega,by omega⟩,rD _ hm.sig,by omega,⟨0,by omega,rfl,λj hj=>by rw[x8 (by omega)]⟩,λi hi=>⟨λhlt=>⟨hlt,zfm _ (hm.q i),hlt,hlt,za (by omega) (by omega),i+1,hlt,by omega,by omega,λj hj=>?_⟩,λhge j hj=>by rw[x9 (by omega)]⟩⟩
 by_cases e:j=i
 . subst e;rw[x9 rfl,x9 (by omega)];rfl
 . rw[x8 e]
   by_cases h:j<i
   . rw[x9 h,x9 (by omega)]
   . rw[x8 h,x8 (by omega)]
section
variable (i:Int)
def qht:=decide (i<0)
def YP:=(!qht i)=true
def rn:=YP i->YP i
variable (n:Int)
def yI:=qht i||decide (n<=i)
end
theorem TC (hm:dk m):KN 189 [vM m, .int .i64 i, .int .i64 n] (.int .i64 (bC m i n)):=by
 refine Kn (kL 17 λ_=>none) Tryz.func189 (KN 173 [AV.mc zm (aj m)] (AV.bool (ca (dM (aj m))))/\((!ca (dM (aj m)))=true->1=bC m i n)/\((!ca (dM (aj m)))=false->rn i/\rn i/\rn i/\(yI i n=true->11=bC m i n)/\(yI i n=false->0=bC m i n))) ?_
 try delta qht YP rn yI
 simp only[SZ]
 refine⟨zfn m hm.wo,λh=>?_,λh=>⟨λh2=>?_,λh2=>?_⟩⟩
 . grind[bC]
 . grind[bC]
 . unfold bC;rw[x8 (by simp[h]),x8 (by omega)]
theorem df:(du.vars.length=0/\du.aa.length=0/\du.a6.length=0/\du.sig.length=0):=⟨rfl,rfl,rfl,rfl⟩
theorem kM {m:Mem} {i n:Int} (h:bC m i n=0):ca m=true/\0<=i/\i<n:=by grind[bC]
theorem setRow (a v:Int) (j:Nat) (hj:j<l.length):(if j=a.toNat then AV.int .i64 v else AV.int .i64 (l.getD j 0))=AV.int .i64 ((l.set a.toNat v).getD j 0):=by
 rw[x7 (l:=l.set _ _),gq]
 by_cases e:a.toNat=j
 . grind
 . rw[x8 (λh=>e h.symm),x8 e,x7]
section
variable (m:Mem) (x:Int)
def Wm:=bC (dM (aj m)) x ↑m.vars.length !=0
end
theorem zpx (x:Int) (hm:dk m):KN 227 [vM m, .int .i64 x] (.av [.int .i64 (fo m x).1, .int .i64 (fo m x).2]):=by
 refine Kn (kL 21 λ_=>none) Tryz.func227 (↑m.vars.length<=(9223372036854775807:Int)/\KN 189 [AV.mc zm (aj m),AV.int j6 x,AV.int j6 ↑m.vars.length] (AV.int j6 (bC (dM (aj m)) x ↑m.vars.length))/\(Wm m x=true->0=(fo m x).fst/\bC (dM (aj m)) x ↑m.vars.length=(fo m x).snd)/\(Wm m x=false->af x m.vars.length/\m.vars.getD x.toNat 0=(fo m x).fst/\0=(fo m x).snd)) ?_
 try delta Wm
 simp only[SZ]
 have s1:=hm.vars
 refine⟨by omega,TC m _ _ hm,λh=>?_,λh=>⟨(kM h).2, ?_⟩⟩
 . grind[fo]
 . unfold fo;rw[x8 (by simp[h])];exact⟨rfl,rfl⟩
section
variable (m:Mem) (x:Int) (v:Int)
def DS:=(zr m x v).fst.vars.length=0/\(zr m x v).fst.aa.length=0/\(zr m x v).fst.a6.length=0/\(zr m x v).fst.sig.length=0
def Vt:=decide (v< -2147483648)
def U5:=(!Vt v)=true
def oD:=U5 v->U5 v
def oZ:=Vt v||decide (2147483647<v)
variable (x1:Nat)
def v7:=AV.int j6 ((dR dI (a8 m.vars)).getD x1 0)
end
theorem zjb (x v:Int) (hm:dk m):KN 127 [vM m, .int .i64 x, .int .i64 v] (.av [vM (zr m x v).1, .int .i64 (zr m x v).2]):=by
 refine Kn (kL 35 λ_=>none) Tryz.func127 (↑m.vars.length<=(9223372036854775807:Int)/\KN 189 [AV.mc zm (aj m),AV.int j6 x,AV.int j6 ↑m.vars.length] (AV.int j6 (bC (dM (aj m)) x ↑m.vars.length))/\(Wm m x=true->DS m x v/\bC (dM (aj m)) x ↑m.vars.length=(zr m x v).snd)/\(Wm m x=false->oD v/\oD v/\(oZ v=true->DS m x v/\2=(zr m x v).snd)/\(oZ v=false->(KF (185:Nat) [AV.mc zm (aj m)] (AV.mc zm (AV.agg [AV.own (0:Nat) (dR dI (a8 m.vars)).length,AV.own (1:Nat) (dR dI (a8 m.aa)).length,AV.own (2:Nat) (dR (dR dI) (aE m.a6)).length,AV.own (3:Nat) (dR dI (a8 m.sig)).length])) [ar.row (3:TypeId) leaf (dR dI (a8 m.vars)).length λi=>v7 m i,ar.row (3:TypeId) leaf (dR dI (a8 m.aa)).length λi=>AV.int j6 ((dR dI (a8 m.aa)).getD i (0:Int)),ar.row (29:TypeId) leaf (dR (dR dI) (aE m.a6)).length λi=>a8 ((dR (dR dI) (aE m.a6)).getD i []),ar.row (3:TypeId) leaf (dR dI (a8 m.sig)).length λi=>AV.int j6 ((dR dI (a8 m.sig)).getD i (0:Int))])/\af x (dR dI (a8 m.vars)).length/\x.toNat<(dR dI (a8 m.vars)).length/\(dR dI (a8 m.vars)).length<=(dR dI (a8 m.vars)).length/\(dR dI (a8 m.aa)).length<=(dR dI (a8 m.aa)).length/\(dR (dR dI) (aE m.a6)).length<=(dR (dR dI) (aE m.a6)).length/\(dR dI (a8 m.sig)).length<=(dR dI (a8 m.sig)).length/\(((dR dI (a8 m.vars)).length=(zr m x v).fst.vars.length/\∀ i:Nat,i<(dR dI (a8 m.vars)).length->(if i=x.toNat then aq (aq (AV.int j6 v))else v7 m i)=AV.int j6 ((zr m x v).fst.vars.getD i 0))/\LS (a8 (dR dI (a8 m.aa))) (a8 (zr m x v).fst.aa)/\LS (aE (dR (dR dI) (aE m.a6))) (aE (zr m x v).fst.a6)/\LS (a8 (dR dI (a8 m.sig))) (a8 (zr m x v).fst.sig))/\0=(zr m x v).snd))) ?_
 try delta DS Wm Vt U5 oD oZ v7
 simp only[SZ]
 have s1:=hm.vars
 refine⟨by omega,TC m _ _ hm,λh=>?_,λh=>⟨λhv=>?_,λhv=>⟨zfo m hm,(kM h).2,by have :=(kM h).2;omega, ?_⟩⟩⟩
 . have e:zr m x v=(du,bC m x m.vars.length):=by unfold zr;rw[x9 h]
   rw[e];exact⟨df,rfl⟩
 . have e:zr m x v=(du,2):=by unfold zr;rw[x8 (by simp[h]),x9 hv]
   rw[e];exact⟨df,rfl⟩
 . have e:zr m x v=({m with vars:=m.vars.set x.toNat v},0):=by unfold zr;rw[x8 (by simp[h]),x8 (by omega)]
   rw[e]
   exact⟨⟨⟨by simp,λj hj=>setRow _ _ _ j hj⟩,⟨rfl,λ_ _=>rfl⟩,⟨rfl,λ_ _=>rfl⟩,rfl,λ_ _=>rfl⟩,rfl⟩
section
variable (m:Mem) (i:Int)
def Lb:=bC (dM (aj m)) i ↑m.aa.length==0
def qoz:=Lb m i=true
def LV:=qoz m i->qoz m i
end
theorem zpy (hm:dk m):KN 228 [vM m, .int .i64 i] (.bool (iJ m i)):=by
 refine Kn (kL 20 λ_=>none) Tryz.func228 (↑m.aa.length<=(9223372036854775807:Int)/\KN 189 [AV.mc zm (aj m),AV.int j6 i,AV.int j6 ↑m.aa.length] (AV.int j6 (bC (dM (aj m)) i ↑m.aa.length))/\LV m i/\LV m i/\LV m i/\(qoz m i->af i m.aa.length)/\LV m i/\LV m i/\LV m i/\(Lb m i&&m.aa.getD i.toNat 0== -1)=iJ m i) ?_
 try delta Lb qoz LV
 simp only[SZ]
 have s1:=hm.aa
 exact⟨by omega,TC m _ _ hm,λh=>(kM h).2,rfl⟩
section
variable (m:Mem) (i:Int) (id:Int) (a:Int) (b:Int)
def qp0:=(bc m i id a b).fst.vars.length=0/\(bc m i id a b).fst.aa.length=0/\(bc m i id a b).fst.a6.length=0/\(bc m i id a b).fst.sig.length=0
def AP:=bC (dM (aj m)) i ↑m.aa.length !=0
def pw:=decide (id<0)
def JN:=m.aa.getD i.toNat 0 !=a
variable (x1:Nat)
def oq:=AV.int j6 ((dR dI (a8 m.aa)).getD x1 0)
end
theorem aaw (id a b:Int) (hm:dk m):KN 252 [vM m, .int .i64 i, .int .i64 id, .int .i64 a, .int .i64 b] (.av [vM (bc m i id a b).1, .int .i64 (bc m i id a b).2]):=by
 refine Kn (kL 43 λ_=>none) Tryz.func252 (↑m.aa.length<=(9223372036854775807:Int)/\KN 189 [AV.mc zm (aj m),AV.int j6 i,AV.int j6 ↑m.aa.length] (AV.int j6 (bC (dM (aj m)) i ↑m.aa.length))/\(AP m i=true->qp0 m i id a b/\bC (dM (aj m)) i ↑m.aa.length=(bc m i id a b).snd)/\(AP m i=false->(pw id=true->qp0 m i id a b/\2=(bc m i id a b).snd)/\(pw id=false->af i m.aa.length/\(JN m i a=true->qp0 m i id a b/\30=(bc m i id a b).snd)/\(JN m i a=false->(KF (185:Nat) [AV.mc zm (aj m)] (AV.mc zm (AV.agg [AV.own (0:Nat) (dR dI (a8 m.vars)).length,AV.own (1:Nat) (dR dI (a8 m.aa)).length,AV.own (2:Nat) (dR (dR dI) (aE m.a6)).length,AV.own (3:Nat) (dR dI (a8 m.sig)).length])) [ar.row (3:TypeId) leaf (dR dI (a8 m.vars)).length λi=>AV.int j6 ((dR dI (a8 m.vars)).getD i (0:Int)),ar.row (3:TypeId) leaf (dR dI (a8 m.aa)).length λi=>oq m i,ar.row (29:TypeId) leaf (dR (dR dI) (aE m.a6)).length λi=>a8 ((dR (dR dI) (aE m.a6)).getD i []),ar.row (3:TypeId) leaf (dR dI (a8 m.sig)).length λi=>AV.int j6 ((dR dI (a8 m.sig)).getD i (0:Int))])/\af i (dR dI (a8 m.aa)).length/\i.toNat<(dR dI (a8 m.aa)).length/\(dR dI (a8 m.vars)).length<=(dR dI (a8 m.vars)).length/\(dR dI (a8 m.aa)).length<=(dR dI (a8 m.aa)).length/\(dR (dR dI) (aE m.a6)).length<=(dR (dR dI) (aE m.a6)).length/\(dR dI (a8 m.sig)).length<=(dR dI (a8 m.sig)).length/\(LS (a8 (dR dI (a8 m.vars))) (a8 (bc m i id a b).fst.vars)/\((dR dI (a8 m.aa)).length=(bc m i id a b).fst.aa.length/\∀ (i_1:Nat),i_1<(dR dI (a8 m.aa)).length->(if i_1=i.toNat then aq (aq (AV.int j6 b))else oq m i_1)=AV.int j6 ((bc m i id a b).fst.aa.getD i_1 0))/\LS (aE (dR (dR dI) (aE m.a6))) (aE (bc m i id a b).fst.a6)/\LS (a8 (dR dI (a8 m.sig))) (a8 (bc m i id a b).fst.sig))/\0=(bc m i id a b).snd)))) ?_
 try delta qp0 AP pw JN oq
 simp only[SZ]
 have s1:=hm.aa
 refine⟨by omega,TC m _ _ hm,λh=>?_,λh=>⟨λhv=>?_,λhv=>⟨(kM h).2,λhr=>?_,λhr=>⟨zfo m hm,(kM h).2,by have :=(kM h).2;omega, ?_⟩⟩⟩⟩
 . have e:bc m i id a b=(du,bC m i m.aa.length):=by unfold bc;rw[x9 h]
   rw[e];exact⟨df,rfl⟩
 . have e:bc m i id a b=(du,2):=by unfold bc;rw[x8 (by simp[h]),x9 hv]
   rw[e];exact⟨df,rfl⟩
 . have e:bc m i id a b=(du,30):=by unfold bc;rw[x8 (by simp[h]),x8 hv,x9 hr]
   rw[e];exact⟨df,rfl⟩
 . have e:bc m i id a b=({m with aa:=m.aa.set i.toNat b},0):=by unfold bc;rw[x8 (by simp[h]),x8 hv,x8 (by simp only[ne_eq,ye];exact hr)]
   rw[e]
   exact⟨⟨⟨rfl,λ_ _=>rfl⟩,⟨by simp,λj hj=>setRow _ _ _ j hj⟩,⟨rfl,λ_ _=>rfl⟩,rfl,λ_ _=>rfl⟩,rfl⟩
def zpz (n:Nat):AV:= .mc zm (.agg [a8 m.vars,a8 m.aa, .seq .leaf n (λ_=> .ax), .ax])
def ahg (id:Int) (k:Nat):Option Inv:=match Nat.beq k 2 with
 |true=>iw m.a6.length (λi=>⟨[(1, .int .i64 id),(2, .ptr 2 []),(8,aE m.a6),(9, .int .i64 m.a6.length),(10, .int .i64 i)],[(2,iY m)]⟩) λi=>∀ j,j<i ->aQ (m.a6.getD j []) id=false
 |false=>none
def gZ:Nat:=(min n ((m.a6.getD c.toNat []).length:Int)).toNat
def afl:Option Inv:=match Nat.beq k 7 with
 |true=>some {ι:=Nat,S:=λi=>⟨[(1, .int .i64 c),(2, .int .i64 (gZ m c n)),(6, .ptr 6 []),(10, .ptr 10 []),(39,a8 ((m.a6.getD c.toNat []).take (gZ m c n))),(40, .int .i64 (gZ m c n)),(41, .int .i64 i)],[(6,iY du),(10, .cell 32 zm (.agg [.own 102400 m.vars.length, .own 102401 m.aa.length, .own 102402 m.a6.length,a8 (((m.a6.getD c.toNat []).take i).foldl c9 m.sig)])),(102400,bw m.vars),(102401,bw m.aa),(102402,tM m.a6)]⟩,μ:=λi=>gZ m c n - i,ok:=λi=>1<=i/\i<=gZ m c n/\bC m c m.a6.length=0}
 |false=>none
def acz:Option Inv:=match Nat.beq k 3 with
 |true=>iv m.a6.length λi=>⟨[(1, .int .i64 c),(2, .ptr 2 []),(4, .ptr 4 []),(7, .int .i64 (jn (m.a6.take i))),(11,aE m.a6),(12, .int .i64 m.a6.length),(13, .int .i64 i)],[(2,iY m),(4,iY du)]⟩
 |false=>none
def gQ (p:ai) (i:Nat):List Int:=(p.vars.take i).map (·.init)
def afy (p:ai) (k:Nat):Option Inv:=match Nat.beq k 6 with
 |true=>iw p.vars.length (λi=>⟨[(1, .ptr 1 []),(2, .ptr 2 []),(7, .ptr 7 []),(26,eP p.vars),(27, .int .i64 p.vars.length),(28, .int .i64 i)],[(1,iM p),(2,iY du),(7, .cell 32 zm (.agg [.own 37 (gQ p i).length, .ax, .own 23 p.conds.length, .ax])),(37,bw (gQ p i)),(23, .row 29 .leaf p.conds.length λ_=> .ax)]⟩) λi=>(zc p).1=0
 |false=>match Nat.beq k 11 with
  |true=>iw p.aP.length (λi=>⟨[(2, .ptr 2 []),(7, .ptr 7 []),(42, .int .i64 p.aP.length),(43, .int .i64 i)],[(2,iY du),(7, .cell 32 zm (.agg [.own 37 p.vars.length, .own 48 i, .own 23 p.conds.length, .ax])),(37,bw (p.vars.map (·.init))),(48,bw (List.replicate i (-1))),(23, .row 29 .leaf p.conds.length λ_=> .ax)]⟩) λi=>(zc p).1=0
  |false=>none
end
end Go.Proofs.S25
